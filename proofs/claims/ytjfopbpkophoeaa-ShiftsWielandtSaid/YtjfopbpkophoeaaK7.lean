/- Part 7 of what the law stands on: the abstract machine over the model, and what the functions answer. No condition. -/
import Derived.Test.YtjfopbpkophoeaaK6
set_option linter.unusedSimpArgs false
set_option linter.unusedVariables false

/- Chapter 06: what Trip's closure (77) does. Written by wip/tools/genW4.py. -/
namespace Go.Proofs.Ytjfopbpkophoeaa
open Go Go.AE
set_option maxRecDepth 100000
def zf (z : Bool) : Fo := bif z then .g else .r
structure Hd7 (e : Nat) (q : Fo) : Prop where
  hd : ∀ (ok : Nat → List DV → Bool) (P : List DV → Nat → Int) (j m : Int) (k : Nat) (f : Nat → Int) (F : List (Nat × RuleF)) (l : List Int) (a : Int), l.length = e → startS aeC6 (ev7 ok k P F) 77 (5 + e) Try.f77 none ⟨envOf 0 a7, hp j m k f q e (l ++ [a]), []⟩ (heldD aeC6 77 (5 + e)) = W77 ok P k f j m a ((e + 1 : Nat) : Int) none none (some (0, s77 a k 0 (hp j m k f q e (l ++ [a]))))
  dn : ∀ (ok : Nat → List DV → Bool) (P : List DV → Nat → Int) (j m : Int) (k : Nat) (f : Nat → Int) (F : List (Nat × RuleF)) (l : List Int) (a : Int), l.length = e → startS aeC6 (ev7 ok k P F) 77 (5 + e) Try.f77 none ⟨envOf 0 a7, hp j m k f q e (l ++ [a]), []⟩ (doneE aeC6 Try.f77 (5 + e) fun v h => some (v, h)) = W77 ok P k f j m a ((e + 1 : Nat) : Int) (some (.d (bD false), hp j m k f q e (l ++ [a]))) (some (.d (bD true), hp j m k f q e (l ++ [a]))) none
def zin (D e : Nat) : Nat := bif Nat.beq (e + 1) D then D else e + 2
structure Rd7 (D e : Nat) (q : Fo) : Prop where
  rE : ∀ (z : Bool) (w : List Int), w.length = D + 1 → ∀ (ok : Nat → List DV → Bool) (P : List DV → Nat → Int) (j m : Int) (k : Nat) (f : Nat → Int) (q1 q2 : List AV → List Blk → Bool) (a s : Int) (l : List Int), l.length = e + 1 →
    startS aeC6 (ev7 ok k P (F77 q1 q2 (hz j m k f (zf z) (zin D e) w))) 77 (5 + e) Try.f77 (some 0) (s77 a k s (hp j m k f q e l)) (roundD aeC6 77 (5 + e) 0) = V77 k f a s (some (.norm, s77 a k (IntKind.wrap .i64 (s + 1)) (hp j m k f q e l))) (C77 q1 q2 (hz j m k f (zf z) (e + 1) w) (hp j m k f .g (e + 1) (l ++ [s])) (some (.norm, s77 a k (IntKind.wrap .i64 (s + 1)) (hp j m k f .x (e + 1) (l ++ [s]))))) (some (.exit 0, ⟨[], hp j m k f q e l, []⟩))
  rX : ∀ (z : Bool) (w : List Int), w.length = D + 1 → ∀ (ok : Nat → List DV → Bool) (P : List DV → Nat → Int) (j m : Int) (k : Nat) (f : Nat → Int) (q1 q2 : List AV → List Blk → Bool) (a s y : Int) (l : List Int), l.length = e + 1 →
    startS aeC6 (ev7 ok k P (F77 q1 q2 (hz j m k f (zf z) (zin D e) w))) 77 (5 + e) Try.f77 (some 0) (s77 a k s (hp j m k f .x (e + 1) (l ++ [y]))) (roundD aeC6 77 (5 + e) 0) = V77 k f a s (some (.norm, s77 a k (IntKind.wrap .i64 (s + 1)) (hp j m k f .x (e + 1) (l ++ [y])))) (C77 q1 q2 (hz j m k f (zf z) (e + 1) w) (hp j m k f .r (e + 1) (l ++ [s])) (some (.norm, s77 a k (IntKind.wrap .i64 (s + 1)) (hp j m k f .x (e + 1) (l ++ [s]))))) (some (.exit 0, ⟨[], hp j m k f .x (e + 1) (l ++ [y]), []⟩))

theorem len6 {α : Type} {l : List α} (h : l.length = 6) : ∃ a0 a1 a2 a3 a4 a5, l = [a0, a1, a2, a3, a4, a5] := by
  match l, h with
  | [a0, a1, a2, a3, a4, a5], _ => exact ⟨a0, a1, a2, a3, a4, a5, rfl⟩
theorem len7 {α : Type} {l : List α} (h : l.length = 7) : ∃ a0 a1 a2 a3 a4 a5 a6, l = [a0, a1, a2, a3, a4, a5, a6] := by
  match l, h with
  | [a0, a1, a2, a3, a4, a5, a6], _ => exact ⟨a0, a1, a2, a3, a4, a5, a6, rfl⟩
theorem len8 {α : Type} {l : List α} (h : l.length = 8) : ∃ a0 a1 a2 a3 a4 a5 a6 a7, l = [a0, a1, a2, a3, a4, a5, a6, a7] := by
  match l, h with
  | [a0, a1, a2, a3, a4, a5, a6, a7], _ => exact ⟨a0, a1, a2, a3, a4, a5, a6, a7, rfl⟩
theorem len9 {α : Type} {l : List α} (h : l.length = 9) : ∃ a0 a1 a2 a3 a4 a5 a6 a7 a8, l = [a0, a1, a2, a3, a4, a5, a6, a7, a8] := by
  match l, h with
  | [a0, a1, a2, a3, a4, a5, a6, a7, a8], _ => exact ⟨a0, a1, a2, a3, a4, a5, a6, a7, a8, rfl⟩
theorem len10 {α : Type} {l : List α} (h : l.length = 10) : ∃ a0 a1 a2 a3 a4 a5 a6 a7 a8 a9, l = [a0, a1, a2, a3, a4, a5, a6, a7, a8, a9] := by
  match l, h with
  | [a0, a1, a2, a3, a4, a5, a6, a7, a8, a9], _ => exact ⟨a0, a1, a2, a3, a4, a5, a6, a7, a8, a9, rfl⟩
theorem len11 {α : Type} {l : List α} (h : l.length = 11) : ∃ a0 a1 a2 a3 a4 a5 a6 a7 a8 a9 a10, l = [a0, a1, a2, a3, a4, a5, a6, a7, a8, a9, a10] := by
  match l, h with
  | [a0, a1, a2, a3, a4, a5, a6, a7, a8, a9, a10], _ => exact ⟨a0, a1, a2, a3, a4, a5, a6, a7, a8, a9, a10, rfl⟩
theorem hd7_o0 : Hd7 0 .o := by
  constructor
  · intro ok P j m k f F l a hl
    obtain rfl := List.eq_nil_of_length_eq_zero hl
    exact h77_o0 ok P j m k f F  a
  · intro ok P j m k f F l a hl
    obtain rfl := List.eq_nil_of_length_eq_zero hl
    exact d77_o0 ok P j m k f F  a
theorem hd7_g1 : Hd7 1 .g := by
  constructor
  · intro ok P j m k f F l a hl
    obtain ⟨l0, rfl⟩ := len1 hl
    exact h77_g1 ok P j m k f F l0 a
  · intro ok P j m k f F l a hl
    obtain ⟨l0, rfl⟩ := len1 hl
    exact d77_g1 ok P j m k f F l0 a
theorem hd7_r1 : Hd7 1 .r := by
  constructor
  · intro ok P j m k f F l a hl
    obtain ⟨l0, rfl⟩ := len1 hl
    exact h77_r1 ok P j m k f F l0 a
  · intro ok P j m k f F l a hl
    obtain ⟨l0, rfl⟩ := len1 hl
    exact d77_r1 ok P j m k f F l0 a
theorem hd7_g2 : Hd7 2 .g := by
  constructor
  · intro ok P j m k f F l a hl
    obtain ⟨l0, l1, rfl⟩ := len2 hl
    exact h77_g2 ok P j m k f F l0 l1 a
  · intro ok P j m k f F l a hl
    obtain ⟨l0, l1, rfl⟩ := len2 hl
    exact d77_g2 ok P j m k f F l0 l1 a
theorem hd7_r2 : Hd7 2 .r := by
  constructor
  · intro ok P j m k f F l a hl
    obtain ⟨l0, l1, rfl⟩ := len2 hl
    exact h77_r2 ok P j m k f F l0 l1 a
  · intro ok P j m k f F l a hl
    obtain ⟨l0, l1, rfl⟩ := len2 hl
    exact d77_r2 ok P j m k f F l0 l1 a
theorem hd7_g3 : Hd7 3 .g := by
  constructor
  · intro ok P j m k f F l a hl
    obtain ⟨l0, l1, l2, rfl⟩ := len3 hl
    exact h77_g3 ok P j m k f F l0 l1 l2 a
  · intro ok P j m k f F l a hl
    obtain ⟨l0, l1, l2, rfl⟩ := len3 hl
    exact d77_g3 ok P j m k f F l0 l1 l2 a
theorem hd7_r3 : Hd7 3 .r := by
  constructor
  · intro ok P j m k f F l a hl
    obtain ⟨l0, l1, l2, rfl⟩ := len3 hl
    exact h77_r3 ok P j m k f F l0 l1 l2 a
  · intro ok P j m k f F l a hl
    obtain ⟨l0, l1, l2, rfl⟩ := len3 hl
    exact d77_r3 ok P j m k f F l0 l1 l2 a
theorem hd7_g4 : Hd7 4 .g := by
  constructor
  · intro ok P j m k f F l a hl
    obtain ⟨l0, l1, l2, l3, rfl⟩ := len4 hl
    exact h77_g4 ok P j m k f F l0 l1 l2 l3 a
  · intro ok P j m k f F l a hl
    obtain ⟨l0, l1, l2, l3, rfl⟩ := len4 hl
    exact d77_g4 ok P j m k f F l0 l1 l2 l3 a
theorem hd7_r4 : Hd7 4 .r := by
  constructor
  · intro ok P j m k f F l a hl
    obtain ⟨l0, l1, l2, l3, rfl⟩ := len4 hl
    exact h77_r4 ok P j m k f F l0 l1 l2 l3 a
  · intro ok P j m k f F l a hl
    obtain ⟨l0, l1, l2, l3, rfl⟩ := len4 hl
    exact d77_r4 ok P j m k f F l0 l1 l2 l3 a
theorem hd7_g5 : Hd7 5 .g := by
  constructor
  · intro ok P j m k f F l a hl
    obtain ⟨l0, l1, l2, l3, l4, rfl⟩ := len5 hl
    exact h77_g5 ok P j m k f F l0 l1 l2 l3 l4 a
  · intro ok P j m k f F l a hl
    obtain ⟨l0, l1, l2, l3, l4, rfl⟩ := len5 hl
    exact d77_g5 ok P j m k f F l0 l1 l2 l3 l4 a
theorem hd7_r5 : Hd7 5 .r := by
  constructor
  · intro ok P j m k f F l a hl
    obtain ⟨l0, l1, l2, l3, l4, rfl⟩ := len5 hl
    exact h77_r5 ok P j m k f F l0 l1 l2 l3 l4 a
  · intro ok P j m k f F l a hl
    obtain ⟨l0, l1, l2, l3, l4, rfl⟩ := len5 hl
    exact d77_r5 ok P j m k f F l0 l1 l2 l3 l4 a
theorem hd7_g6 : Hd7 6 .g := by
  constructor
  · intro ok P j m k f F l a hl
    obtain ⟨l0, l1, l2, l3, l4, l5, rfl⟩ := len6 hl
    exact h77_g6 ok P j m k f F l0 l1 l2 l3 l4 l5 a
  · intro ok P j m k f F l a hl
    obtain ⟨l0, l1, l2, l3, l4, l5, rfl⟩ := len6 hl
    exact d77_g6 ok P j m k f F l0 l1 l2 l3 l4 l5 a
theorem hd7_r6 : Hd7 6 .r := by
  constructor
  · intro ok P j m k f F l a hl
    obtain ⟨l0, l1, l2, l3, l4, l5, rfl⟩ := len6 hl
    exact h77_r6 ok P j m k f F l0 l1 l2 l3 l4 l5 a
  · intro ok P j m k f F l a hl
    obtain ⟨l0, l1, l2, l3, l4, l5, rfl⟩ := len6 hl
    exact d77_r6 ok P j m k f F l0 l1 l2 l3 l4 l5 a
theorem hd7_g7 : Hd7 7 .g := by
  constructor
  · intro ok P j m k f F l a hl
    obtain ⟨l0, l1, l2, l3, l4, l5, l6, rfl⟩ := len7 hl
    exact h77_g7 ok P j m k f F l0 l1 l2 l3 l4 l5 l6 a
  · intro ok P j m k f F l a hl
    obtain ⟨l0, l1, l2, l3, l4, l5, l6, rfl⟩ := len7 hl
    exact d77_g7 ok P j m k f F l0 l1 l2 l3 l4 l5 l6 a
theorem hd7_r7 : Hd7 7 .r := by
  constructor
  · intro ok P j m k f F l a hl
    obtain ⟨l0, l1, l2, l3, l4, l5, l6, rfl⟩ := len7 hl
    exact h77_r7 ok P j m k f F l0 l1 l2 l3 l4 l5 l6 a
  · intro ok P j m k f F l a hl
    obtain ⟨l0, l1, l2, l3, l4, l5, l6, rfl⟩ := len7 hl
    exact d77_r7 ok P j m k f F l0 l1 l2 l3 l4 l5 l6 a
theorem hd7_g8 : Hd7 8 .g := by
  constructor
  · intro ok P j m k f F l a hl
    obtain ⟨l0, l1, l2, l3, l4, l5, l6, l7, rfl⟩ := len8 hl
    exact h77_g8 ok P j m k f F l0 l1 l2 l3 l4 l5 l6 l7 a
  · intro ok P j m k f F l a hl
    obtain ⟨l0, l1, l2, l3, l4, l5, l6, l7, rfl⟩ := len8 hl
    exact d77_g8 ok P j m k f F l0 l1 l2 l3 l4 l5 l6 l7 a
theorem hd7_r8 : Hd7 8 .r := by
  constructor
  · intro ok P j m k f F l a hl
    obtain ⟨l0, l1, l2, l3, l4, l5, l6, l7, rfl⟩ := len8 hl
    exact h77_r8 ok P j m k f F l0 l1 l2 l3 l4 l5 l6 l7 a
  · intro ok P j m k f F l a hl
    obtain ⟨l0, l1, l2, l3, l4, l5, l6, l7, rfl⟩ := len8 hl
    exact d77_r8 ok P j m k f F l0 l1 l2 l3 l4 l5 l6 l7 a
theorem hd7_g9 : Hd7 9 .g := by
  constructor
  · intro ok P j m k f F l a hl
    obtain ⟨l0, l1, l2, l3, l4, l5, l6, l7, l8, rfl⟩ := len9 hl
    exact h77_g9 ok P j m k f F l0 l1 l2 l3 l4 l5 l6 l7 l8 a
  · intro ok P j m k f F l a hl
    obtain ⟨l0, l1, l2, l3, l4, l5, l6, l7, l8, rfl⟩ := len9 hl
    exact d77_g9 ok P j m k f F l0 l1 l2 l3 l4 l5 l6 l7 l8 a
theorem hd7_r9 : Hd7 9 .r := by
  constructor
  · intro ok P j m k f F l a hl
    obtain ⟨l0, l1, l2, l3, l4, l5, l6, l7, l8, rfl⟩ := len9 hl
    exact h77_r9 ok P j m k f F l0 l1 l2 l3 l4 l5 l6 l7 l8 a
  · intro ok P j m k f F l a hl
    obtain ⟨l0, l1, l2, l3, l4, l5, l6, l7, l8, rfl⟩ := len9 hl
    exact d77_r9 ok P j m k f F l0 l1 l2 l3 l4 l5 l6 l7 l8 a
theorem hd7_g10 : Hd7 10 .g := by
  constructor
  · intro ok P j m k f F l a hl
    obtain ⟨l0, l1, l2, l3, l4, l5, l6, l7, l8, l9, rfl⟩ := len10 hl
    exact h77_g10 ok P j m k f F l0 l1 l2 l3 l4 l5 l6 l7 l8 l9 a
  · intro ok P j m k f F l a hl
    obtain ⟨l0, l1, l2, l3, l4, l5, l6, l7, l8, l9, rfl⟩ := len10 hl
    exact d77_g10 ok P j m k f F l0 l1 l2 l3 l4 l5 l6 l7 l8 l9 a
theorem hd7_r10 : Hd7 10 .r := by
  constructor
  · intro ok P j m k f F l a hl
    obtain ⟨l0, l1, l2, l3, l4, l5, l6, l7, l8, l9, rfl⟩ := len10 hl
    exact h77_r10 ok P j m k f F l0 l1 l2 l3 l4 l5 l6 l7 l8 l9 a
  · intro ok P j m k f F l a hl
    obtain ⟨l0, l1, l2, l3, l4, l5, l6, l7, l8, l9, rfl⟩ := len10 hl
    exact d77_r10 ok P j m k f F l0 l1 l2 l3 l4 l5 l6 l7 l8 l9 a
theorem rd7_1_0o : Rd7 1 0 .o := by
  constructor
  · intro z w hw ok P j m k f q1 q2 a s l hl
    obtain ⟨l0, rfl⟩ := len1 hl
    obtain ⟨w0, w1, rfl⟩ := len2 hw
    cases z
    · exact r77_1r_0o ok P j m k f q1 q2 a s l0 w0 w1
    · exact r77_1g_0o ok P j m k f q1 q2 a s l0 w0 w1
  · intro z w hw ok P j m k f q1 q2 a s y l hl
    obtain ⟨l0, rfl⟩ := len1 hl
    obtain ⟨w0, w1, rfl⟩ := len2 hw
    cases z
    · exact r77_1r_0x ok P j m k f q1 q2 a s l0 y w0 w1
    · exact r77_1g_0x ok P j m k f q1 q2 a s l0 y w0 w1
theorem rd7_2_0o : Rd7 2 0 .o := by
  constructor
  · intro z w hw ok P j m k f q1 q2 a s l hl
    obtain ⟨l0, rfl⟩ := len1 hl
    obtain ⟨w0, w1, w2, rfl⟩ := len3 hw
    cases z
    · exact r77_2r_0o ok P j m k f q1 q2 a s l0 w0 w1 w2
    · exact r77_2g_0o ok P j m k f q1 q2 a s l0 w0 w1 w2
  · intro z w hw ok P j m k f q1 q2 a s y l hl
    obtain ⟨l0, rfl⟩ := len1 hl
    obtain ⟨w0, w1, w2, rfl⟩ := len3 hw
    cases z
    · exact r77_2r_0x ok P j m k f q1 q2 a s l0 y w0 w1 w2
    · exact r77_2g_0x ok P j m k f q1 q2 a s l0 y w0 w1 w2
theorem rd7_2_1g : Rd7 2 1 .g := by
  constructor
  · intro z w hw ok P j m k f q1 q2 a s l hl
    obtain ⟨l0, l1, rfl⟩ := len2 hl
    obtain ⟨w0, w1, w2, rfl⟩ := len3 hw
    cases z
    · exact r77_2r_1g ok P j m k f q1 q2 a s l0 l1 w0 w1 w2
    · exact r77_2g_1g ok P j m k f q1 q2 a s l0 l1 w0 w1 w2
  · intro z w hw ok P j m k f q1 q2 a s y l hl
    obtain ⟨l0, l1, rfl⟩ := len2 hl
    obtain ⟨w0, w1, w2, rfl⟩ := len3 hw
    cases z
    · exact r77_2r_1x ok P j m k f q1 q2 a s l0 l1 y w0 w1 w2
    · exact r77_2g_1x ok P j m k f q1 q2 a s l0 l1 y w0 w1 w2
theorem rd7_2_1r : Rd7 2 1 .r := by
  constructor
  · intro z w hw ok P j m k f q1 q2 a s l hl
    obtain ⟨l0, l1, rfl⟩ := len2 hl
    obtain ⟨w0, w1, w2, rfl⟩ := len3 hw
    cases z
    · exact r77_2r_1r ok P j m k f q1 q2 a s l0 l1 w0 w1 w2
    · exact r77_2g_1r ok P j m k f q1 q2 a s l0 l1 w0 w1 w2
  · intro z w hw ok P j m k f q1 q2 a s y l hl
    obtain ⟨l0, l1, rfl⟩ := len2 hl
    obtain ⟨w0, w1, w2, rfl⟩ := len3 hw
    cases z
    · exact r77_2r_1x ok P j m k f q1 q2 a s l0 l1 y w0 w1 w2
    · exact r77_2g_1x ok P j m k f q1 q2 a s l0 l1 y w0 w1 w2
theorem rd7_3_0o : Rd7 3 0 .o := by
  constructor
  · intro z w hw ok P j m k f q1 q2 a s l hl
    obtain ⟨l0, rfl⟩ := len1 hl
    obtain ⟨w0, w1, w2, w3, rfl⟩ := len4 hw
    cases z
    · exact r77_3r_0o ok P j m k f q1 q2 a s l0 w0 w1 w2 w3
    · exact r77_3g_0o ok P j m k f q1 q2 a s l0 w0 w1 w2 w3
  · intro z w hw ok P j m k f q1 q2 a s y l hl
    obtain ⟨l0, rfl⟩ := len1 hl
    obtain ⟨w0, w1, w2, w3, rfl⟩ := len4 hw
    cases z
    · exact r77_3r_0x ok P j m k f q1 q2 a s l0 y w0 w1 w2 w3
    · exact r77_3g_0x ok P j m k f q1 q2 a s l0 y w0 w1 w2 w3
theorem rd7_3_1g : Rd7 3 1 .g := by
  constructor
  · intro z w hw ok P j m k f q1 q2 a s l hl
    obtain ⟨l0, l1, rfl⟩ := len2 hl
    obtain ⟨w0, w1, w2, w3, rfl⟩ := len4 hw
    cases z
    · exact r77_3r_1g ok P j m k f q1 q2 a s l0 l1 w0 w1 w2 w3
    · exact r77_3g_1g ok P j m k f q1 q2 a s l0 l1 w0 w1 w2 w3
  · intro z w hw ok P j m k f q1 q2 a s y l hl
    obtain ⟨l0, l1, rfl⟩ := len2 hl
    obtain ⟨w0, w1, w2, w3, rfl⟩ := len4 hw
    cases z
    · exact r77_3r_1x ok P j m k f q1 q2 a s l0 l1 y w0 w1 w2 w3
    · exact r77_3g_1x ok P j m k f q1 q2 a s l0 l1 y w0 w1 w2 w3
theorem rd7_3_1r : Rd7 3 1 .r := by
  constructor
  · intro z w hw ok P j m k f q1 q2 a s l hl
    obtain ⟨l0, l1, rfl⟩ := len2 hl
    obtain ⟨w0, w1, w2, w3, rfl⟩ := len4 hw
    cases z
    · exact r77_3r_1r ok P j m k f q1 q2 a s l0 l1 w0 w1 w2 w3
    · exact r77_3g_1r ok P j m k f q1 q2 a s l0 l1 w0 w1 w2 w3
  · intro z w hw ok P j m k f q1 q2 a s y l hl
    obtain ⟨l0, l1, rfl⟩ := len2 hl
    obtain ⟨w0, w1, w2, w3, rfl⟩ := len4 hw
    cases z
    · exact r77_3r_1x ok P j m k f q1 q2 a s l0 l1 y w0 w1 w2 w3
    · exact r77_3g_1x ok P j m k f q1 q2 a s l0 l1 y w0 w1 w2 w3
theorem rd7_3_2g : Rd7 3 2 .g := by
  constructor
  · intro z w hw ok P j m k f q1 q2 a s l hl
    obtain ⟨l0, l1, l2, rfl⟩ := len3 hl
    obtain ⟨w0, w1, w2, w3, rfl⟩ := len4 hw
    cases z
    · exact r77_3r_2g ok P j m k f q1 q2 a s l0 l1 l2 w0 w1 w2 w3
    · exact r77_3g_2g ok P j m k f q1 q2 a s l0 l1 l2 w0 w1 w2 w3
  · intro z w hw ok P j m k f q1 q2 a s y l hl
    obtain ⟨l0, l1, l2, rfl⟩ := len3 hl
    obtain ⟨w0, w1, w2, w3, rfl⟩ := len4 hw
    cases z
    · exact r77_3r_2x ok P j m k f q1 q2 a s l0 l1 l2 y w0 w1 w2 w3
    · exact r77_3g_2x ok P j m k f q1 q2 a s l0 l1 l2 y w0 w1 w2 w3
theorem rd7_3_2r : Rd7 3 2 .r := by
  constructor
  · intro z w hw ok P j m k f q1 q2 a s l hl
    obtain ⟨l0, l1, l2, rfl⟩ := len3 hl
    obtain ⟨w0, w1, w2, w3, rfl⟩ := len4 hw
    cases z
    · exact r77_3r_2r ok P j m k f q1 q2 a s l0 l1 l2 w0 w1 w2 w3
    · exact r77_3g_2r ok P j m k f q1 q2 a s l0 l1 l2 w0 w1 w2 w3
  · intro z w hw ok P j m k f q1 q2 a s y l hl
    obtain ⟨l0, l1, l2, rfl⟩ := len3 hl
    obtain ⟨w0, w1, w2, w3, rfl⟩ := len4 hw
    cases z
    · exact r77_3r_2x ok P j m k f q1 q2 a s l0 l1 l2 y w0 w1 w2 w3
    · exact r77_3g_2x ok P j m k f q1 q2 a s l0 l1 l2 y w0 w1 w2 w3
theorem rd7_4_0o : Rd7 4 0 .o := by
  constructor
  · intro z w hw ok P j m k f q1 q2 a s l hl
    obtain ⟨l0, rfl⟩ := len1 hl
    obtain ⟨w0, w1, w2, w3, w4, rfl⟩ := len5 hw
    cases z
    · exact r77_4r_0o ok P j m k f q1 q2 a s l0 w0 w1 w2 w3 w4
    · exact r77_4g_0o ok P j m k f q1 q2 a s l0 w0 w1 w2 w3 w4
  · intro z w hw ok P j m k f q1 q2 a s y l hl
    obtain ⟨l0, rfl⟩ := len1 hl
    obtain ⟨w0, w1, w2, w3, w4, rfl⟩ := len5 hw
    cases z
    · exact r77_4r_0x ok P j m k f q1 q2 a s l0 y w0 w1 w2 w3 w4
    · exact r77_4g_0x ok P j m k f q1 q2 a s l0 y w0 w1 w2 w3 w4
theorem rd7_4_1g : Rd7 4 1 .g := by
  constructor
  · intro z w hw ok P j m k f q1 q2 a s l hl
    obtain ⟨l0, l1, rfl⟩ := len2 hl
    obtain ⟨w0, w1, w2, w3, w4, rfl⟩ := len5 hw
    cases z
    · exact r77_4r_1g ok P j m k f q1 q2 a s l0 l1 w0 w1 w2 w3 w4
    · exact r77_4g_1g ok P j m k f q1 q2 a s l0 l1 w0 w1 w2 w3 w4
  · intro z w hw ok P j m k f q1 q2 a s y l hl
    obtain ⟨l0, l1, rfl⟩ := len2 hl
    obtain ⟨w0, w1, w2, w3, w4, rfl⟩ := len5 hw
    cases z
    · exact r77_4r_1x ok P j m k f q1 q2 a s l0 l1 y w0 w1 w2 w3 w4
    · exact r77_4g_1x ok P j m k f q1 q2 a s l0 l1 y w0 w1 w2 w3 w4
theorem rd7_4_1r : Rd7 4 1 .r := by
  constructor
  · intro z w hw ok P j m k f q1 q2 a s l hl
    obtain ⟨l0, l1, rfl⟩ := len2 hl
    obtain ⟨w0, w1, w2, w3, w4, rfl⟩ := len5 hw
    cases z
    · exact r77_4r_1r ok P j m k f q1 q2 a s l0 l1 w0 w1 w2 w3 w4
    · exact r77_4g_1r ok P j m k f q1 q2 a s l0 l1 w0 w1 w2 w3 w4
  · intro z w hw ok P j m k f q1 q2 a s y l hl
    obtain ⟨l0, l1, rfl⟩ := len2 hl
    obtain ⟨w0, w1, w2, w3, w4, rfl⟩ := len5 hw
    cases z
    · exact r77_4r_1x ok P j m k f q1 q2 a s l0 l1 y w0 w1 w2 w3 w4
    · exact r77_4g_1x ok P j m k f q1 q2 a s l0 l1 y w0 w1 w2 w3 w4
theorem rd7_4_2g : Rd7 4 2 .g := by
  constructor
  · intro z w hw ok P j m k f q1 q2 a s l hl
    obtain ⟨l0, l1, l2, rfl⟩ := len3 hl
    obtain ⟨w0, w1, w2, w3, w4, rfl⟩ := len5 hw
    cases z
    · exact r77_4r_2g ok P j m k f q1 q2 a s l0 l1 l2 w0 w1 w2 w3 w4
    · exact r77_4g_2g ok P j m k f q1 q2 a s l0 l1 l2 w0 w1 w2 w3 w4
  · intro z w hw ok P j m k f q1 q2 a s y l hl
    obtain ⟨l0, l1, l2, rfl⟩ := len3 hl
    obtain ⟨w0, w1, w2, w3, w4, rfl⟩ := len5 hw
    cases z
    · exact r77_4r_2x ok P j m k f q1 q2 a s l0 l1 l2 y w0 w1 w2 w3 w4
    · exact r77_4g_2x ok P j m k f q1 q2 a s l0 l1 l2 y w0 w1 w2 w3 w4
theorem rd7_4_2r : Rd7 4 2 .r := by
  constructor
  · intro z w hw ok P j m k f q1 q2 a s l hl
    obtain ⟨l0, l1, l2, rfl⟩ := len3 hl
    obtain ⟨w0, w1, w2, w3, w4, rfl⟩ := len5 hw
    cases z
    · exact r77_4r_2r ok P j m k f q1 q2 a s l0 l1 l2 w0 w1 w2 w3 w4
    · exact r77_4g_2r ok P j m k f q1 q2 a s l0 l1 l2 w0 w1 w2 w3 w4
  · intro z w hw ok P j m k f q1 q2 a s y l hl
    obtain ⟨l0, l1, l2, rfl⟩ := len3 hl
    obtain ⟨w0, w1, w2, w3, w4, rfl⟩ := len5 hw
    cases z
    · exact r77_4r_2x ok P j m k f q1 q2 a s l0 l1 l2 y w0 w1 w2 w3 w4
    · exact r77_4g_2x ok P j m k f q1 q2 a s l0 l1 l2 y w0 w1 w2 w3 w4
theorem rd7_4_3g : Rd7 4 3 .g := by
  constructor
  · intro z w hw ok P j m k f q1 q2 a s l hl
    obtain ⟨l0, l1, l2, l3, rfl⟩ := len4 hl
    obtain ⟨w0, w1, w2, w3, w4, rfl⟩ := len5 hw
    cases z
    · exact r77_4r_3g ok P j m k f q1 q2 a s l0 l1 l2 l3 w0 w1 w2 w3 w4
    · exact r77_4g_3g ok P j m k f q1 q2 a s l0 l1 l2 l3 w0 w1 w2 w3 w4
  · intro z w hw ok P j m k f q1 q2 a s y l hl
    obtain ⟨l0, l1, l2, l3, rfl⟩ := len4 hl
    obtain ⟨w0, w1, w2, w3, w4, rfl⟩ := len5 hw
    cases z
    · exact r77_4r_3x ok P j m k f q1 q2 a s l0 l1 l2 l3 y w0 w1 w2 w3 w4
    · exact r77_4g_3x ok P j m k f q1 q2 a s l0 l1 l2 l3 y w0 w1 w2 w3 w4
theorem rd7_4_3r : Rd7 4 3 .r := by
  constructor
  · intro z w hw ok P j m k f q1 q2 a s l hl
    obtain ⟨l0, l1, l2, l3, rfl⟩ := len4 hl
    obtain ⟨w0, w1, w2, w3, w4, rfl⟩ := len5 hw
    cases z
    · exact r77_4r_3r ok P j m k f q1 q2 a s l0 l1 l2 l3 w0 w1 w2 w3 w4
    · exact r77_4g_3r ok P j m k f q1 q2 a s l0 l1 l2 l3 w0 w1 w2 w3 w4
  · intro z w hw ok P j m k f q1 q2 a s y l hl
    obtain ⟨l0, l1, l2, l3, rfl⟩ := len4 hl
    obtain ⟨w0, w1, w2, w3, w4, rfl⟩ := len5 hw
    cases z
    · exact r77_4r_3x ok P j m k f q1 q2 a s l0 l1 l2 l3 y w0 w1 w2 w3 w4
    · exact r77_4g_3x ok P j m k f q1 q2 a s l0 l1 l2 l3 y w0 w1 w2 w3 w4
theorem rd7_5_0o : Rd7 5 0 .o := by
  constructor
  · intro z w hw ok P j m k f q1 q2 a s l hl
    obtain ⟨l0, rfl⟩ := len1 hl
    obtain ⟨w0, w1, w2, w3, w4, w5, rfl⟩ := len6 hw
    cases z
    · exact r77_5r_0o ok P j m k f q1 q2 a s l0 w0 w1 w2 w3 w4 w5
    · exact r77_5g_0o ok P j m k f q1 q2 a s l0 w0 w1 w2 w3 w4 w5
  · intro z w hw ok P j m k f q1 q2 a s y l hl
    obtain ⟨l0, rfl⟩ := len1 hl
    obtain ⟨w0, w1, w2, w3, w4, w5, rfl⟩ := len6 hw
    cases z
    · exact r77_5r_0x ok P j m k f q1 q2 a s l0 y w0 w1 w2 w3 w4 w5
    · exact r77_5g_0x ok P j m k f q1 q2 a s l0 y w0 w1 w2 w3 w4 w5
theorem rd7_5_1g : Rd7 5 1 .g := by
  constructor
  · intro z w hw ok P j m k f q1 q2 a s l hl
    obtain ⟨l0, l1, rfl⟩ := len2 hl
    obtain ⟨w0, w1, w2, w3, w4, w5, rfl⟩ := len6 hw
    cases z
    · exact r77_5r_1g ok P j m k f q1 q2 a s l0 l1 w0 w1 w2 w3 w4 w5
    · exact r77_5g_1g ok P j m k f q1 q2 a s l0 l1 w0 w1 w2 w3 w4 w5
  · intro z w hw ok P j m k f q1 q2 a s y l hl
    obtain ⟨l0, l1, rfl⟩ := len2 hl
    obtain ⟨w0, w1, w2, w3, w4, w5, rfl⟩ := len6 hw
    cases z
    · exact r77_5r_1x ok P j m k f q1 q2 a s l0 l1 y w0 w1 w2 w3 w4 w5
    · exact r77_5g_1x ok P j m k f q1 q2 a s l0 l1 y w0 w1 w2 w3 w4 w5
theorem rd7_5_1r : Rd7 5 1 .r := by
  constructor
  · intro z w hw ok P j m k f q1 q2 a s l hl
    obtain ⟨l0, l1, rfl⟩ := len2 hl
    obtain ⟨w0, w1, w2, w3, w4, w5, rfl⟩ := len6 hw
    cases z
    · exact r77_5r_1r ok P j m k f q1 q2 a s l0 l1 w0 w1 w2 w3 w4 w5
    · exact r77_5g_1r ok P j m k f q1 q2 a s l0 l1 w0 w1 w2 w3 w4 w5
  · intro z w hw ok P j m k f q1 q2 a s y l hl
    obtain ⟨l0, l1, rfl⟩ := len2 hl
    obtain ⟨w0, w1, w2, w3, w4, w5, rfl⟩ := len6 hw
    cases z
    · exact r77_5r_1x ok P j m k f q1 q2 a s l0 l1 y w0 w1 w2 w3 w4 w5
    · exact r77_5g_1x ok P j m k f q1 q2 a s l0 l1 y w0 w1 w2 w3 w4 w5
theorem rd7_5_2g : Rd7 5 2 .g := by
  constructor
  · intro z w hw ok P j m k f q1 q2 a s l hl
    obtain ⟨l0, l1, l2, rfl⟩ := len3 hl
    obtain ⟨w0, w1, w2, w3, w4, w5, rfl⟩ := len6 hw
    cases z
    · exact r77_5r_2g ok P j m k f q1 q2 a s l0 l1 l2 w0 w1 w2 w3 w4 w5
    · exact r77_5g_2g ok P j m k f q1 q2 a s l0 l1 l2 w0 w1 w2 w3 w4 w5
  · intro z w hw ok P j m k f q1 q2 a s y l hl
    obtain ⟨l0, l1, l2, rfl⟩ := len3 hl
    obtain ⟨w0, w1, w2, w3, w4, w5, rfl⟩ := len6 hw
    cases z
    · exact r77_5r_2x ok P j m k f q1 q2 a s l0 l1 l2 y w0 w1 w2 w3 w4 w5
    · exact r77_5g_2x ok P j m k f q1 q2 a s l0 l1 l2 y w0 w1 w2 w3 w4 w5
theorem rd7_5_2r : Rd7 5 2 .r := by
  constructor
  · intro z w hw ok P j m k f q1 q2 a s l hl
    obtain ⟨l0, l1, l2, rfl⟩ := len3 hl
    obtain ⟨w0, w1, w2, w3, w4, w5, rfl⟩ := len6 hw
    cases z
    · exact r77_5r_2r ok P j m k f q1 q2 a s l0 l1 l2 w0 w1 w2 w3 w4 w5
    · exact r77_5g_2r ok P j m k f q1 q2 a s l0 l1 l2 w0 w1 w2 w3 w4 w5
  · intro z w hw ok P j m k f q1 q2 a s y l hl
    obtain ⟨l0, l1, l2, rfl⟩ := len3 hl
    obtain ⟨w0, w1, w2, w3, w4, w5, rfl⟩ := len6 hw
    cases z
    · exact r77_5r_2x ok P j m k f q1 q2 a s l0 l1 l2 y w0 w1 w2 w3 w4 w5
    · exact r77_5g_2x ok P j m k f q1 q2 a s l0 l1 l2 y w0 w1 w2 w3 w4 w5
theorem rd7_5_3g : Rd7 5 3 .g := by
  constructor
  · intro z w hw ok P j m k f q1 q2 a s l hl
    obtain ⟨l0, l1, l2, l3, rfl⟩ := len4 hl
    obtain ⟨w0, w1, w2, w3, w4, w5, rfl⟩ := len6 hw
    cases z
    · exact r77_5r_3g ok P j m k f q1 q2 a s l0 l1 l2 l3 w0 w1 w2 w3 w4 w5
    · exact r77_5g_3g ok P j m k f q1 q2 a s l0 l1 l2 l3 w0 w1 w2 w3 w4 w5
  · intro z w hw ok P j m k f q1 q2 a s y l hl
    obtain ⟨l0, l1, l2, l3, rfl⟩ := len4 hl
    obtain ⟨w0, w1, w2, w3, w4, w5, rfl⟩ := len6 hw
    cases z
    · exact r77_5r_3x ok P j m k f q1 q2 a s l0 l1 l2 l3 y w0 w1 w2 w3 w4 w5
    · exact r77_5g_3x ok P j m k f q1 q2 a s l0 l1 l2 l3 y w0 w1 w2 w3 w4 w5
theorem rd7_5_3r : Rd7 5 3 .r := by
  constructor
  · intro z w hw ok P j m k f q1 q2 a s l hl
    obtain ⟨l0, l1, l2, l3, rfl⟩ := len4 hl
    obtain ⟨w0, w1, w2, w3, w4, w5, rfl⟩ := len6 hw
    cases z
    · exact r77_5r_3r ok P j m k f q1 q2 a s l0 l1 l2 l3 w0 w1 w2 w3 w4 w5
    · exact r77_5g_3r ok P j m k f q1 q2 a s l0 l1 l2 l3 w0 w1 w2 w3 w4 w5
  · intro z w hw ok P j m k f q1 q2 a s y l hl
    obtain ⟨l0, l1, l2, l3, rfl⟩ := len4 hl
    obtain ⟨w0, w1, w2, w3, w4, w5, rfl⟩ := len6 hw
    cases z
    · exact r77_5r_3x ok P j m k f q1 q2 a s l0 l1 l2 l3 y w0 w1 w2 w3 w4 w5
    · exact r77_5g_3x ok P j m k f q1 q2 a s l0 l1 l2 l3 y w0 w1 w2 w3 w4 w5
theorem rd7_5_4g : Rd7 5 4 .g := by
  constructor
  · intro z w hw ok P j m k f q1 q2 a s l hl
    obtain ⟨l0, l1, l2, l3, l4, rfl⟩ := len5 hl
    obtain ⟨w0, w1, w2, w3, w4, w5, rfl⟩ := len6 hw
    cases z
    · exact r77_5r_4g ok P j m k f q1 q2 a s l0 l1 l2 l3 l4 w0 w1 w2 w3 w4 w5
    · exact r77_5g_4g ok P j m k f q1 q2 a s l0 l1 l2 l3 l4 w0 w1 w2 w3 w4 w5
  · intro z w hw ok P j m k f q1 q2 a s y l hl
    obtain ⟨l0, l1, l2, l3, l4, rfl⟩ := len5 hl
    obtain ⟨w0, w1, w2, w3, w4, w5, rfl⟩ := len6 hw
    cases z
    · exact r77_5r_4x ok P j m k f q1 q2 a s l0 l1 l2 l3 l4 y w0 w1 w2 w3 w4 w5
    · exact r77_5g_4x ok P j m k f q1 q2 a s l0 l1 l2 l3 l4 y w0 w1 w2 w3 w4 w5
theorem rd7_5_4r : Rd7 5 4 .r := by
  constructor
  · intro z w hw ok P j m k f q1 q2 a s l hl
    obtain ⟨l0, l1, l2, l3, l4, rfl⟩ := len5 hl
    obtain ⟨w0, w1, w2, w3, w4, w5, rfl⟩ := len6 hw
    cases z
    · exact r77_5r_4r ok P j m k f q1 q2 a s l0 l1 l2 l3 l4 w0 w1 w2 w3 w4 w5
    · exact r77_5g_4r ok P j m k f q1 q2 a s l0 l1 l2 l3 l4 w0 w1 w2 w3 w4 w5
  · intro z w hw ok P j m k f q1 q2 a s y l hl
    obtain ⟨l0, l1, l2, l3, l4, rfl⟩ := len5 hl
    obtain ⟨w0, w1, w2, w3, w4, w5, rfl⟩ := len6 hw
    cases z
    · exact r77_5r_4x ok P j m k f q1 q2 a s l0 l1 l2 l3 l4 y w0 w1 w2 w3 w4 w5
    · exact r77_5g_4x ok P j m k f q1 q2 a s l0 l1 l2 l3 l4 y w0 w1 w2 w3 w4 w5
theorem rd7_6_0o : Rd7 6 0 .o := by
  constructor
  · intro z w hw ok P j m k f q1 q2 a s l hl
    obtain ⟨l0, rfl⟩ := len1 hl
    obtain ⟨w0, w1, w2, w3, w4, w5, w6, rfl⟩ := len7 hw
    cases z
    · exact r77_6r_0o ok P j m k f q1 q2 a s l0 w0 w1 w2 w3 w4 w5 w6
    · exact r77_6g_0o ok P j m k f q1 q2 a s l0 w0 w1 w2 w3 w4 w5 w6
  · intro z w hw ok P j m k f q1 q2 a s y l hl
    obtain ⟨l0, rfl⟩ := len1 hl
    obtain ⟨w0, w1, w2, w3, w4, w5, w6, rfl⟩ := len7 hw
    cases z
    · exact r77_6r_0x ok P j m k f q1 q2 a s l0 y w0 w1 w2 w3 w4 w5 w6
    · exact r77_6g_0x ok P j m k f q1 q2 a s l0 y w0 w1 w2 w3 w4 w5 w6
theorem rd7_6_1g : Rd7 6 1 .g := by
  constructor
  · intro z w hw ok P j m k f q1 q2 a s l hl
    obtain ⟨l0, l1, rfl⟩ := len2 hl
    obtain ⟨w0, w1, w2, w3, w4, w5, w6, rfl⟩ := len7 hw
    cases z
    · exact r77_6r_1g ok P j m k f q1 q2 a s l0 l1 w0 w1 w2 w3 w4 w5 w6
    · exact r77_6g_1g ok P j m k f q1 q2 a s l0 l1 w0 w1 w2 w3 w4 w5 w6
  · intro z w hw ok P j m k f q1 q2 a s y l hl
    obtain ⟨l0, l1, rfl⟩ := len2 hl
    obtain ⟨w0, w1, w2, w3, w4, w5, w6, rfl⟩ := len7 hw
    cases z
    · exact r77_6r_1x ok P j m k f q1 q2 a s l0 l1 y w0 w1 w2 w3 w4 w5 w6
    · exact r77_6g_1x ok P j m k f q1 q2 a s l0 l1 y w0 w1 w2 w3 w4 w5 w6
theorem rd7_6_1r : Rd7 6 1 .r := by
  constructor
  · intro z w hw ok P j m k f q1 q2 a s l hl
    obtain ⟨l0, l1, rfl⟩ := len2 hl
    obtain ⟨w0, w1, w2, w3, w4, w5, w6, rfl⟩ := len7 hw
    cases z
    · exact r77_6r_1r ok P j m k f q1 q2 a s l0 l1 w0 w1 w2 w3 w4 w5 w6
    · exact r77_6g_1r ok P j m k f q1 q2 a s l0 l1 w0 w1 w2 w3 w4 w5 w6
  · intro z w hw ok P j m k f q1 q2 a s y l hl
    obtain ⟨l0, l1, rfl⟩ := len2 hl
    obtain ⟨w0, w1, w2, w3, w4, w5, w6, rfl⟩ := len7 hw
    cases z
    · exact r77_6r_1x ok P j m k f q1 q2 a s l0 l1 y w0 w1 w2 w3 w4 w5 w6
    · exact r77_6g_1x ok P j m k f q1 q2 a s l0 l1 y w0 w1 w2 w3 w4 w5 w6
theorem rd7_6_2g : Rd7 6 2 .g := by
  constructor
  · intro z w hw ok P j m k f q1 q2 a s l hl
    obtain ⟨l0, l1, l2, rfl⟩ := len3 hl
    obtain ⟨w0, w1, w2, w3, w4, w5, w6, rfl⟩ := len7 hw
    cases z
    · exact r77_6r_2g ok P j m k f q1 q2 a s l0 l1 l2 w0 w1 w2 w3 w4 w5 w6
    · exact r77_6g_2g ok P j m k f q1 q2 a s l0 l1 l2 w0 w1 w2 w3 w4 w5 w6
  · intro z w hw ok P j m k f q1 q2 a s y l hl
    obtain ⟨l0, l1, l2, rfl⟩ := len3 hl
    obtain ⟨w0, w1, w2, w3, w4, w5, w6, rfl⟩ := len7 hw
    cases z
    · exact r77_6r_2x ok P j m k f q1 q2 a s l0 l1 l2 y w0 w1 w2 w3 w4 w5 w6
    · exact r77_6g_2x ok P j m k f q1 q2 a s l0 l1 l2 y w0 w1 w2 w3 w4 w5 w6
theorem rd7_6_2r : Rd7 6 2 .r := by
  constructor
  · intro z w hw ok P j m k f q1 q2 a s l hl
    obtain ⟨l0, l1, l2, rfl⟩ := len3 hl
    obtain ⟨w0, w1, w2, w3, w4, w5, w6, rfl⟩ := len7 hw
    cases z
    · exact r77_6r_2r ok P j m k f q1 q2 a s l0 l1 l2 w0 w1 w2 w3 w4 w5 w6
    · exact r77_6g_2r ok P j m k f q1 q2 a s l0 l1 l2 w0 w1 w2 w3 w4 w5 w6
  · intro z w hw ok P j m k f q1 q2 a s y l hl
    obtain ⟨l0, l1, l2, rfl⟩ := len3 hl
    obtain ⟨w0, w1, w2, w3, w4, w5, w6, rfl⟩ := len7 hw
    cases z
    · exact r77_6r_2x ok P j m k f q1 q2 a s l0 l1 l2 y w0 w1 w2 w3 w4 w5 w6
    · exact r77_6g_2x ok P j m k f q1 q2 a s l0 l1 l2 y w0 w1 w2 w3 w4 w5 w6
theorem rd7_6_3g : Rd7 6 3 .g := by
  constructor
  · intro z w hw ok P j m k f q1 q2 a s l hl
    obtain ⟨l0, l1, l2, l3, rfl⟩ := len4 hl
    obtain ⟨w0, w1, w2, w3, w4, w5, w6, rfl⟩ := len7 hw
    cases z
    · exact r77_6r_3g ok P j m k f q1 q2 a s l0 l1 l2 l3 w0 w1 w2 w3 w4 w5 w6
    · exact r77_6g_3g ok P j m k f q1 q2 a s l0 l1 l2 l3 w0 w1 w2 w3 w4 w5 w6
  · intro z w hw ok P j m k f q1 q2 a s y l hl
    obtain ⟨l0, l1, l2, l3, rfl⟩ := len4 hl
    obtain ⟨w0, w1, w2, w3, w4, w5, w6, rfl⟩ := len7 hw
    cases z
    · exact r77_6r_3x ok P j m k f q1 q2 a s l0 l1 l2 l3 y w0 w1 w2 w3 w4 w5 w6
    · exact r77_6g_3x ok P j m k f q1 q2 a s l0 l1 l2 l3 y w0 w1 w2 w3 w4 w5 w6
theorem rd7_6_3r : Rd7 6 3 .r := by
  constructor
  · intro z w hw ok P j m k f q1 q2 a s l hl
    obtain ⟨l0, l1, l2, l3, rfl⟩ := len4 hl
    obtain ⟨w0, w1, w2, w3, w4, w5, w6, rfl⟩ := len7 hw
    cases z
    · exact r77_6r_3r ok P j m k f q1 q2 a s l0 l1 l2 l3 w0 w1 w2 w3 w4 w5 w6
    · exact r77_6g_3r ok P j m k f q1 q2 a s l0 l1 l2 l3 w0 w1 w2 w3 w4 w5 w6
  · intro z w hw ok P j m k f q1 q2 a s y l hl
    obtain ⟨l0, l1, l2, l3, rfl⟩ := len4 hl
    obtain ⟨w0, w1, w2, w3, w4, w5, w6, rfl⟩ := len7 hw
    cases z
    · exact r77_6r_3x ok P j m k f q1 q2 a s l0 l1 l2 l3 y w0 w1 w2 w3 w4 w5 w6
    · exact r77_6g_3x ok P j m k f q1 q2 a s l0 l1 l2 l3 y w0 w1 w2 w3 w4 w5 w6
theorem rd7_6_4g : Rd7 6 4 .g := by
  constructor
  · intro z w hw ok P j m k f q1 q2 a s l hl
    obtain ⟨l0, l1, l2, l3, l4, rfl⟩ := len5 hl
    obtain ⟨w0, w1, w2, w3, w4, w5, w6, rfl⟩ := len7 hw
    cases z
    · exact r77_6r_4g ok P j m k f q1 q2 a s l0 l1 l2 l3 l4 w0 w1 w2 w3 w4 w5 w6
    · exact r77_6g_4g ok P j m k f q1 q2 a s l0 l1 l2 l3 l4 w0 w1 w2 w3 w4 w5 w6
  · intro z w hw ok P j m k f q1 q2 a s y l hl
    obtain ⟨l0, l1, l2, l3, l4, rfl⟩ := len5 hl
    obtain ⟨w0, w1, w2, w3, w4, w5, w6, rfl⟩ := len7 hw
    cases z
    · exact r77_6r_4x ok P j m k f q1 q2 a s l0 l1 l2 l3 l4 y w0 w1 w2 w3 w4 w5 w6
    · exact r77_6g_4x ok P j m k f q1 q2 a s l0 l1 l2 l3 l4 y w0 w1 w2 w3 w4 w5 w6
theorem rd7_6_4r : Rd7 6 4 .r := by
  constructor
  · intro z w hw ok P j m k f q1 q2 a s l hl
    obtain ⟨l0, l1, l2, l3, l4, rfl⟩ := len5 hl
    obtain ⟨w0, w1, w2, w3, w4, w5, w6, rfl⟩ := len7 hw
    cases z
    · exact r77_6r_4r ok P j m k f q1 q2 a s l0 l1 l2 l3 l4 w0 w1 w2 w3 w4 w5 w6
    · exact r77_6g_4r ok P j m k f q1 q2 a s l0 l1 l2 l3 l4 w0 w1 w2 w3 w4 w5 w6
  · intro z w hw ok P j m k f q1 q2 a s y l hl
    obtain ⟨l0, l1, l2, l3, l4, rfl⟩ := len5 hl
    obtain ⟨w0, w1, w2, w3, w4, w5, w6, rfl⟩ := len7 hw
    cases z
    · exact r77_6r_4x ok P j m k f q1 q2 a s l0 l1 l2 l3 l4 y w0 w1 w2 w3 w4 w5 w6
    · exact r77_6g_4x ok P j m k f q1 q2 a s l0 l1 l2 l3 l4 y w0 w1 w2 w3 w4 w5 w6
theorem rd7_6_5g : Rd7 6 5 .g := by
  constructor
  · intro z w hw ok P j m k f q1 q2 a s l hl
    obtain ⟨l0, l1, l2, l3, l4, l5, rfl⟩ := len6 hl
    obtain ⟨w0, w1, w2, w3, w4, w5, w6, rfl⟩ := len7 hw
    cases z
    · exact r77_6r_5g ok P j m k f q1 q2 a s l0 l1 l2 l3 l4 l5 w0 w1 w2 w3 w4 w5 w6
    · exact r77_6g_5g ok P j m k f q1 q2 a s l0 l1 l2 l3 l4 l5 w0 w1 w2 w3 w4 w5 w6
  · intro z w hw ok P j m k f q1 q2 a s y l hl
    obtain ⟨l0, l1, l2, l3, l4, l5, rfl⟩ := len6 hl
    obtain ⟨w0, w1, w2, w3, w4, w5, w6, rfl⟩ := len7 hw
    cases z
    · exact r77_6r_5x ok P j m k f q1 q2 a s l0 l1 l2 l3 l4 l5 y w0 w1 w2 w3 w4 w5 w6
    · exact r77_6g_5x ok P j m k f q1 q2 a s l0 l1 l2 l3 l4 l5 y w0 w1 w2 w3 w4 w5 w6
theorem rd7_6_5r : Rd7 6 5 .r := by
  constructor
  · intro z w hw ok P j m k f q1 q2 a s l hl
    obtain ⟨l0, l1, l2, l3, l4, l5, rfl⟩ := len6 hl
    obtain ⟨w0, w1, w2, w3, w4, w5, w6, rfl⟩ := len7 hw
    cases z
    · exact r77_6r_5r ok P j m k f q1 q2 a s l0 l1 l2 l3 l4 l5 w0 w1 w2 w3 w4 w5 w6
    · exact r77_6g_5r ok P j m k f q1 q2 a s l0 l1 l2 l3 l4 l5 w0 w1 w2 w3 w4 w5 w6
  · intro z w hw ok P j m k f q1 q2 a s y l hl
    obtain ⟨l0, l1, l2, l3, l4, l5, rfl⟩ := len6 hl
    obtain ⟨w0, w1, w2, w3, w4, w5, w6, rfl⟩ := len7 hw
    cases z
    · exact r77_6r_5x ok P j m k f q1 q2 a s l0 l1 l2 l3 l4 l5 y w0 w1 w2 w3 w4 w5 w6
    · exact r77_6g_5x ok P j m k f q1 q2 a s l0 l1 l2 l3 l4 l5 y w0 w1 w2 w3 w4 w5 w6
theorem rd7_7_0o : Rd7 7 0 .o := by
  constructor
  · intro z w hw ok P j m k f q1 q2 a s l hl
    obtain ⟨l0, rfl⟩ := len1 hl
    obtain ⟨w0, w1, w2, w3, w4, w5, w6, w7, rfl⟩ := len8 hw
    cases z
    · exact r77_7r_0o ok P j m k f q1 q2 a s l0 w0 w1 w2 w3 w4 w5 w6 w7
    · exact r77_7g_0o ok P j m k f q1 q2 a s l0 w0 w1 w2 w3 w4 w5 w6 w7
  · intro z w hw ok P j m k f q1 q2 a s y l hl
    obtain ⟨l0, rfl⟩ := len1 hl
    obtain ⟨w0, w1, w2, w3, w4, w5, w6, w7, rfl⟩ := len8 hw
    cases z
    · exact r77_7r_0x ok P j m k f q1 q2 a s l0 y w0 w1 w2 w3 w4 w5 w6 w7
    · exact r77_7g_0x ok P j m k f q1 q2 a s l0 y w0 w1 w2 w3 w4 w5 w6 w7
theorem rd7_7_1g : Rd7 7 1 .g := by
  constructor
  · intro z w hw ok P j m k f q1 q2 a s l hl
    obtain ⟨l0, l1, rfl⟩ := len2 hl
    obtain ⟨w0, w1, w2, w3, w4, w5, w6, w7, rfl⟩ := len8 hw
    cases z
    · exact r77_7r_1g ok P j m k f q1 q2 a s l0 l1 w0 w1 w2 w3 w4 w5 w6 w7
    · exact r77_7g_1g ok P j m k f q1 q2 a s l0 l1 w0 w1 w2 w3 w4 w5 w6 w7
  · intro z w hw ok P j m k f q1 q2 a s y l hl
    obtain ⟨l0, l1, rfl⟩ := len2 hl
    obtain ⟨w0, w1, w2, w3, w4, w5, w6, w7, rfl⟩ := len8 hw
    cases z
    · exact r77_7r_1x ok P j m k f q1 q2 a s l0 l1 y w0 w1 w2 w3 w4 w5 w6 w7
    · exact r77_7g_1x ok P j m k f q1 q2 a s l0 l1 y w0 w1 w2 w3 w4 w5 w6 w7
theorem rd7_7_1r : Rd7 7 1 .r := by
  constructor
  · intro z w hw ok P j m k f q1 q2 a s l hl
    obtain ⟨l0, l1, rfl⟩ := len2 hl
    obtain ⟨w0, w1, w2, w3, w4, w5, w6, w7, rfl⟩ := len8 hw
    cases z
    · exact r77_7r_1r ok P j m k f q1 q2 a s l0 l1 w0 w1 w2 w3 w4 w5 w6 w7
    · exact r77_7g_1r ok P j m k f q1 q2 a s l0 l1 w0 w1 w2 w3 w4 w5 w6 w7
  · intro z w hw ok P j m k f q1 q2 a s y l hl
    obtain ⟨l0, l1, rfl⟩ := len2 hl
    obtain ⟨w0, w1, w2, w3, w4, w5, w6, w7, rfl⟩ := len8 hw
    cases z
    · exact r77_7r_1x ok P j m k f q1 q2 a s l0 l1 y w0 w1 w2 w3 w4 w5 w6 w7
    · exact r77_7g_1x ok P j m k f q1 q2 a s l0 l1 y w0 w1 w2 w3 w4 w5 w6 w7
theorem rd7_7_2g : Rd7 7 2 .g := by
  constructor
  · intro z w hw ok P j m k f q1 q2 a s l hl
    obtain ⟨l0, l1, l2, rfl⟩ := len3 hl
    obtain ⟨w0, w1, w2, w3, w4, w5, w6, w7, rfl⟩ := len8 hw
    cases z
    · exact r77_7r_2g ok P j m k f q1 q2 a s l0 l1 l2 w0 w1 w2 w3 w4 w5 w6 w7
    · exact r77_7g_2g ok P j m k f q1 q2 a s l0 l1 l2 w0 w1 w2 w3 w4 w5 w6 w7
  · intro z w hw ok P j m k f q1 q2 a s y l hl
    obtain ⟨l0, l1, l2, rfl⟩ := len3 hl
    obtain ⟨w0, w1, w2, w3, w4, w5, w6, w7, rfl⟩ := len8 hw
    cases z
    · exact r77_7r_2x ok P j m k f q1 q2 a s l0 l1 l2 y w0 w1 w2 w3 w4 w5 w6 w7
    · exact r77_7g_2x ok P j m k f q1 q2 a s l0 l1 l2 y w0 w1 w2 w3 w4 w5 w6 w7
theorem rd7_7_2r : Rd7 7 2 .r := by
  constructor
  · intro z w hw ok P j m k f q1 q2 a s l hl
    obtain ⟨l0, l1, l2, rfl⟩ := len3 hl
    obtain ⟨w0, w1, w2, w3, w4, w5, w6, w7, rfl⟩ := len8 hw
    cases z
    · exact r77_7r_2r ok P j m k f q1 q2 a s l0 l1 l2 w0 w1 w2 w3 w4 w5 w6 w7
    · exact r77_7g_2r ok P j m k f q1 q2 a s l0 l1 l2 w0 w1 w2 w3 w4 w5 w6 w7
  · intro z w hw ok P j m k f q1 q2 a s y l hl
    obtain ⟨l0, l1, l2, rfl⟩ := len3 hl
    obtain ⟨w0, w1, w2, w3, w4, w5, w6, w7, rfl⟩ := len8 hw
    cases z
    · exact r77_7r_2x ok P j m k f q1 q2 a s l0 l1 l2 y w0 w1 w2 w3 w4 w5 w6 w7
    · exact r77_7g_2x ok P j m k f q1 q2 a s l0 l1 l2 y w0 w1 w2 w3 w4 w5 w6 w7
theorem rd7_7_3g : Rd7 7 3 .g := by
  constructor
  · intro z w hw ok P j m k f q1 q2 a s l hl
    obtain ⟨l0, l1, l2, l3, rfl⟩ := len4 hl
    obtain ⟨w0, w1, w2, w3, w4, w5, w6, w7, rfl⟩ := len8 hw
    cases z
    · exact r77_7r_3g ok P j m k f q1 q2 a s l0 l1 l2 l3 w0 w1 w2 w3 w4 w5 w6 w7
    · exact r77_7g_3g ok P j m k f q1 q2 a s l0 l1 l2 l3 w0 w1 w2 w3 w4 w5 w6 w7
  · intro z w hw ok P j m k f q1 q2 a s y l hl
    obtain ⟨l0, l1, l2, l3, rfl⟩ := len4 hl
    obtain ⟨w0, w1, w2, w3, w4, w5, w6, w7, rfl⟩ := len8 hw
    cases z
    · exact r77_7r_3x ok P j m k f q1 q2 a s l0 l1 l2 l3 y w0 w1 w2 w3 w4 w5 w6 w7
    · exact r77_7g_3x ok P j m k f q1 q2 a s l0 l1 l2 l3 y w0 w1 w2 w3 w4 w5 w6 w7
theorem rd7_7_3r : Rd7 7 3 .r := by
  constructor
  · intro z w hw ok P j m k f q1 q2 a s l hl
    obtain ⟨l0, l1, l2, l3, rfl⟩ := len4 hl
    obtain ⟨w0, w1, w2, w3, w4, w5, w6, w7, rfl⟩ := len8 hw
    cases z
    · exact r77_7r_3r ok P j m k f q1 q2 a s l0 l1 l2 l3 w0 w1 w2 w3 w4 w5 w6 w7
    · exact r77_7g_3r ok P j m k f q1 q2 a s l0 l1 l2 l3 w0 w1 w2 w3 w4 w5 w6 w7
  · intro z w hw ok P j m k f q1 q2 a s y l hl
    obtain ⟨l0, l1, l2, l3, rfl⟩ := len4 hl
    obtain ⟨w0, w1, w2, w3, w4, w5, w6, w7, rfl⟩ := len8 hw
    cases z
    · exact r77_7r_3x ok P j m k f q1 q2 a s l0 l1 l2 l3 y w0 w1 w2 w3 w4 w5 w6 w7
    · exact r77_7g_3x ok P j m k f q1 q2 a s l0 l1 l2 l3 y w0 w1 w2 w3 w4 w5 w6 w7
theorem rd7_7_4g : Rd7 7 4 .g := by
  constructor
  · intro z w hw ok P j m k f q1 q2 a s l hl
    obtain ⟨l0, l1, l2, l3, l4, rfl⟩ := len5 hl
    obtain ⟨w0, w1, w2, w3, w4, w5, w6, w7, rfl⟩ := len8 hw
    cases z
    · exact r77_7r_4g ok P j m k f q1 q2 a s l0 l1 l2 l3 l4 w0 w1 w2 w3 w4 w5 w6 w7
    · exact r77_7g_4g ok P j m k f q1 q2 a s l0 l1 l2 l3 l4 w0 w1 w2 w3 w4 w5 w6 w7
  · intro z w hw ok P j m k f q1 q2 a s y l hl
    obtain ⟨l0, l1, l2, l3, l4, rfl⟩ := len5 hl
    obtain ⟨w0, w1, w2, w3, w4, w5, w6, w7, rfl⟩ := len8 hw
    cases z
    · exact r77_7r_4x ok P j m k f q1 q2 a s l0 l1 l2 l3 l4 y w0 w1 w2 w3 w4 w5 w6 w7
    · exact r77_7g_4x ok P j m k f q1 q2 a s l0 l1 l2 l3 l4 y w0 w1 w2 w3 w4 w5 w6 w7
theorem rd7_7_4r : Rd7 7 4 .r := by
  constructor
  · intro z w hw ok P j m k f q1 q2 a s l hl
    obtain ⟨l0, l1, l2, l3, l4, rfl⟩ := len5 hl
    obtain ⟨w0, w1, w2, w3, w4, w5, w6, w7, rfl⟩ := len8 hw
    cases z
    · exact r77_7r_4r ok P j m k f q1 q2 a s l0 l1 l2 l3 l4 w0 w1 w2 w3 w4 w5 w6 w7
    · exact r77_7g_4r ok P j m k f q1 q2 a s l0 l1 l2 l3 l4 w0 w1 w2 w3 w4 w5 w6 w7
  · intro z w hw ok P j m k f q1 q2 a s y l hl
    obtain ⟨l0, l1, l2, l3, l4, rfl⟩ := len5 hl
    obtain ⟨w0, w1, w2, w3, w4, w5, w6, w7, rfl⟩ := len8 hw
    cases z
    · exact r77_7r_4x ok P j m k f q1 q2 a s l0 l1 l2 l3 l4 y w0 w1 w2 w3 w4 w5 w6 w7
    · exact r77_7g_4x ok P j m k f q1 q2 a s l0 l1 l2 l3 l4 y w0 w1 w2 w3 w4 w5 w6 w7
theorem rd7_7_5g : Rd7 7 5 .g := by
  constructor
  · intro z w hw ok P j m k f q1 q2 a s l hl
    obtain ⟨l0, l1, l2, l3, l4, l5, rfl⟩ := len6 hl
    obtain ⟨w0, w1, w2, w3, w4, w5, w6, w7, rfl⟩ := len8 hw
    cases z
    · exact r77_7r_5g ok P j m k f q1 q2 a s l0 l1 l2 l3 l4 l5 w0 w1 w2 w3 w4 w5 w6 w7
    · exact r77_7g_5g ok P j m k f q1 q2 a s l0 l1 l2 l3 l4 l5 w0 w1 w2 w3 w4 w5 w6 w7
  · intro z w hw ok P j m k f q1 q2 a s y l hl
    obtain ⟨l0, l1, l2, l3, l4, l5, rfl⟩ := len6 hl
    obtain ⟨w0, w1, w2, w3, w4, w5, w6, w7, rfl⟩ := len8 hw
    cases z
    · exact r77_7r_5x ok P j m k f q1 q2 a s l0 l1 l2 l3 l4 l5 y w0 w1 w2 w3 w4 w5 w6 w7
    · exact r77_7g_5x ok P j m k f q1 q2 a s l0 l1 l2 l3 l4 l5 y w0 w1 w2 w3 w4 w5 w6 w7
theorem rd7_7_5r : Rd7 7 5 .r := by
  constructor
  · intro z w hw ok P j m k f q1 q2 a s l hl
    obtain ⟨l0, l1, l2, l3, l4, l5, rfl⟩ := len6 hl
    obtain ⟨w0, w1, w2, w3, w4, w5, w6, w7, rfl⟩ := len8 hw
    cases z
    · exact r77_7r_5r ok P j m k f q1 q2 a s l0 l1 l2 l3 l4 l5 w0 w1 w2 w3 w4 w5 w6 w7
    · exact r77_7g_5r ok P j m k f q1 q2 a s l0 l1 l2 l3 l4 l5 w0 w1 w2 w3 w4 w5 w6 w7
  · intro z w hw ok P j m k f q1 q2 a s y l hl
    obtain ⟨l0, l1, l2, l3, l4, l5, rfl⟩ := len6 hl
    obtain ⟨w0, w1, w2, w3, w4, w5, w6, w7, rfl⟩ := len8 hw
    cases z
    · exact r77_7r_5x ok P j m k f q1 q2 a s l0 l1 l2 l3 l4 l5 y w0 w1 w2 w3 w4 w5 w6 w7
    · exact r77_7g_5x ok P j m k f q1 q2 a s l0 l1 l2 l3 l4 l5 y w0 w1 w2 w3 w4 w5 w6 w7
theorem rd7_7_6g : Rd7 7 6 .g := by
  constructor
  · intro z w hw ok P j m k f q1 q2 a s l hl
    obtain ⟨l0, l1, l2, l3, l4, l5, l6, rfl⟩ := len7 hl
    obtain ⟨w0, w1, w2, w3, w4, w5, w6, w7, rfl⟩ := len8 hw
    cases z
    · exact r77_7r_6g ok P j m k f q1 q2 a s l0 l1 l2 l3 l4 l5 l6 w0 w1 w2 w3 w4 w5 w6 w7
    · exact r77_7g_6g ok P j m k f q1 q2 a s l0 l1 l2 l3 l4 l5 l6 w0 w1 w2 w3 w4 w5 w6 w7
  · intro z w hw ok P j m k f q1 q2 a s y l hl
    obtain ⟨l0, l1, l2, l3, l4, l5, l6, rfl⟩ := len7 hl
    obtain ⟨w0, w1, w2, w3, w4, w5, w6, w7, rfl⟩ := len8 hw
    cases z
    · exact r77_7r_6x ok P j m k f q1 q2 a s l0 l1 l2 l3 l4 l5 l6 y w0 w1 w2 w3 w4 w5 w6 w7
    · exact r77_7g_6x ok P j m k f q1 q2 a s l0 l1 l2 l3 l4 l5 l6 y w0 w1 w2 w3 w4 w5 w6 w7
theorem rd7_7_6r : Rd7 7 6 .r := by
  constructor
  · intro z w hw ok P j m k f q1 q2 a s l hl
    obtain ⟨l0, l1, l2, l3, l4, l5, l6, rfl⟩ := len7 hl
    obtain ⟨w0, w1, w2, w3, w4, w5, w6, w7, rfl⟩ := len8 hw
    cases z
    · exact r77_7r_6r ok P j m k f q1 q2 a s l0 l1 l2 l3 l4 l5 l6 w0 w1 w2 w3 w4 w5 w6 w7
    · exact r77_7g_6r ok P j m k f q1 q2 a s l0 l1 l2 l3 l4 l5 l6 w0 w1 w2 w3 w4 w5 w6 w7
  · intro z w hw ok P j m k f q1 q2 a s y l hl
    obtain ⟨l0, l1, l2, l3, l4, l5, l6, rfl⟩ := len7 hl
    obtain ⟨w0, w1, w2, w3, w4, w5, w6, w7, rfl⟩ := len8 hw
    cases z
    · exact r77_7r_6x ok P j m k f q1 q2 a s l0 l1 l2 l3 l4 l5 l6 y w0 w1 w2 w3 w4 w5 w6 w7
    · exact r77_7g_6x ok P j m k f q1 q2 a s l0 l1 l2 l3 l4 l5 l6 y w0 w1 w2 w3 w4 w5 w6 w7
theorem rd7_8_0o : Rd7 8 0 .o := by
  constructor
  · intro z w hw ok P j m k f q1 q2 a s l hl
    obtain ⟨l0, rfl⟩ := len1 hl
    obtain ⟨w0, w1, w2, w3, w4, w5, w6, w7, w8, rfl⟩ := len9 hw
    cases z
    · exact r77_8r_0o ok P j m k f q1 q2 a s l0 w0 w1 w2 w3 w4 w5 w6 w7 w8
    · exact r77_8g_0o ok P j m k f q1 q2 a s l0 w0 w1 w2 w3 w4 w5 w6 w7 w8
  · intro z w hw ok P j m k f q1 q2 a s y l hl
    obtain ⟨l0, rfl⟩ := len1 hl
    obtain ⟨w0, w1, w2, w3, w4, w5, w6, w7, w8, rfl⟩ := len9 hw
    cases z
    · exact r77_8r_0x ok P j m k f q1 q2 a s l0 y w0 w1 w2 w3 w4 w5 w6 w7 w8
    · exact r77_8g_0x ok P j m k f q1 q2 a s l0 y w0 w1 w2 w3 w4 w5 w6 w7 w8
theorem rd7_8_1g : Rd7 8 1 .g := by
  constructor
  · intro z w hw ok P j m k f q1 q2 a s l hl
    obtain ⟨l0, l1, rfl⟩ := len2 hl
    obtain ⟨w0, w1, w2, w3, w4, w5, w6, w7, w8, rfl⟩ := len9 hw
    cases z
    · exact r77_8r_1g ok P j m k f q1 q2 a s l0 l1 w0 w1 w2 w3 w4 w5 w6 w7 w8
    · exact r77_8g_1g ok P j m k f q1 q2 a s l0 l1 w0 w1 w2 w3 w4 w5 w6 w7 w8
  · intro z w hw ok P j m k f q1 q2 a s y l hl
    obtain ⟨l0, l1, rfl⟩ := len2 hl
    obtain ⟨w0, w1, w2, w3, w4, w5, w6, w7, w8, rfl⟩ := len9 hw
    cases z
    · exact r77_8r_1x ok P j m k f q1 q2 a s l0 l1 y w0 w1 w2 w3 w4 w5 w6 w7 w8
    · exact r77_8g_1x ok P j m k f q1 q2 a s l0 l1 y w0 w1 w2 w3 w4 w5 w6 w7 w8
theorem rd7_8_1r : Rd7 8 1 .r := by
  constructor
  · intro z w hw ok P j m k f q1 q2 a s l hl
    obtain ⟨l0, l1, rfl⟩ := len2 hl
    obtain ⟨w0, w1, w2, w3, w4, w5, w6, w7, w8, rfl⟩ := len9 hw
    cases z
    · exact r77_8r_1r ok P j m k f q1 q2 a s l0 l1 w0 w1 w2 w3 w4 w5 w6 w7 w8
    · exact r77_8g_1r ok P j m k f q1 q2 a s l0 l1 w0 w1 w2 w3 w4 w5 w6 w7 w8
  · intro z w hw ok P j m k f q1 q2 a s y l hl
    obtain ⟨l0, l1, rfl⟩ := len2 hl
    obtain ⟨w0, w1, w2, w3, w4, w5, w6, w7, w8, rfl⟩ := len9 hw
    cases z
    · exact r77_8r_1x ok P j m k f q1 q2 a s l0 l1 y w0 w1 w2 w3 w4 w5 w6 w7 w8
    · exact r77_8g_1x ok P j m k f q1 q2 a s l0 l1 y w0 w1 w2 w3 w4 w5 w6 w7 w8
theorem rd7_8_2g : Rd7 8 2 .g := by
  constructor
  · intro z w hw ok P j m k f q1 q2 a s l hl
    obtain ⟨l0, l1, l2, rfl⟩ := len3 hl
    obtain ⟨w0, w1, w2, w3, w4, w5, w6, w7, w8, rfl⟩ := len9 hw
    cases z
    · exact r77_8r_2g ok P j m k f q1 q2 a s l0 l1 l2 w0 w1 w2 w3 w4 w5 w6 w7 w8
    · exact r77_8g_2g ok P j m k f q1 q2 a s l0 l1 l2 w0 w1 w2 w3 w4 w5 w6 w7 w8
  · intro z w hw ok P j m k f q1 q2 a s y l hl
    obtain ⟨l0, l1, l2, rfl⟩ := len3 hl
    obtain ⟨w0, w1, w2, w3, w4, w5, w6, w7, w8, rfl⟩ := len9 hw
    cases z
    · exact r77_8r_2x ok P j m k f q1 q2 a s l0 l1 l2 y w0 w1 w2 w3 w4 w5 w6 w7 w8
    · exact r77_8g_2x ok P j m k f q1 q2 a s l0 l1 l2 y w0 w1 w2 w3 w4 w5 w6 w7 w8
theorem rd7_8_2r : Rd7 8 2 .r := by
  constructor
  · intro z w hw ok P j m k f q1 q2 a s l hl
    obtain ⟨l0, l1, l2, rfl⟩ := len3 hl
    obtain ⟨w0, w1, w2, w3, w4, w5, w6, w7, w8, rfl⟩ := len9 hw
    cases z
    · exact r77_8r_2r ok P j m k f q1 q2 a s l0 l1 l2 w0 w1 w2 w3 w4 w5 w6 w7 w8
    · exact r77_8g_2r ok P j m k f q1 q2 a s l0 l1 l2 w0 w1 w2 w3 w4 w5 w6 w7 w8
  · intro z w hw ok P j m k f q1 q2 a s y l hl
    obtain ⟨l0, l1, l2, rfl⟩ := len3 hl
    obtain ⟨w0, w1, w2, w3, w4, w5, w6, w7, w8, rfl⟩ := len9 hw
    cases z
    · exact r77_8r_2x ok P j m k f q1 q2 a s l0 l1 l2 y w0 w1 w2 w3 w4 w5 w6 w7 w8
    · exact r77_8g_2x ok P j m k f q1 q2 a s l0 l1 l2 y w0 w1 w2 w3 w4 w5 w6 w7 w8
theorem rd7_8_3g : Rd7 8 3 .g := by
  constructor
  · intro z w hw ok P j m k f q1 q2 a s l hl
    obtain ⟨l0, l1, l2, l3, rfl⟩ := len4 hl
    obtain ⟨w0, w1, w2, w3, w4, w5, w6, w7, w8, rfl⟩ := len9 hw
    cases z
    · exact r77_8r_3g ok P j m k f q1 q2 a s l0 l1 l2 l3 w0 w1 w2 w3 w4 w5 w6 w7 w8
    · exact r77_8g_3g ok P j m k f q1 q2 a s l0 l1 l2 l3 w0 w1 w2 w3 w4 w5 w6 w7 w8
  · intro z w hw ok P j m k f q1 q2 a s y l hl
    obtain ⟨l0, l1, l2, l3, rfl⟩ := len4 hl
    obtain ⟨w0, w1, w2, w3, w4, w5, w6, w7, w8, rfl⟩ := len9 hw
    cases z
    · exact r77_8r_3x ok P j m k f q1 q2 a s l0 l1 l2 l3 y w0 w1 w2 w3 w4 w5 w6 w7 w8
    · exact r77_8g_3x ok P j m k f q1 q2 a s l0 l1 l2 l3 y w0 w1 w2 w3 w4 w5 w6 w7 w8
theorem rd7_8_3r : Rd7 8 3 .r := by
  constructor
  · intro z w hw ok P j m k f q1 q2 a s l hl
    obtain ⟨l0, l1, l2, l3, rfl⟩ := len4 hl
    obtain ⟨w0, w1, w2, w3, w4, w5, w6, w7, w8, rfl⟩ := len9 hw
    cases z
    · exact r77_8r_3r ok P j m k f q1 q2 a s l0 l1 l2 l3 w0 w1 w2 w3 w4 w5 w6 w7 w8
    · exact r77_8g_3r ok P j m k f q1 q2 a s l0 l1 l2 l3 w0 w1 w2 w3 w4 w5 w6 w7 w8
  · intro z w hw ok P j m k f q1 q2 a s y l hl
    obtain ⟨l0, l1, l2, l3, rfl⟩ := len4 hl
    obtain ⟨w0, w1, w2, w3, w4, w5, w6, w7, w8, rfl⟩ := len9 hw
    cases z
    · exact r77_8r_3x ok P j m k f q1 q2 a s l0 l1 l2 l3 y w0 w1 w2 w3 w4 w5 w6 w7 w8
    · exact r77_8g_3x ok P j m k f q1 q2 a s l0 l1 l2 l3 y w0 w1 w2 w3 w4 w5 w6 w7 w8
theorem rd7_8_4g : Rd7 8 4 .g := by
  constructor
  · intro z w hw ok P j m k f q1 q2 a s l hl
    obtain ⟨l0, l1, l2, l3, l4, rfl⟩ := len5 hl
    obtain ⟨w0, w1, w2, w3, w4, w5, w6, w7, w8, rfl⟩ := len9 hw
    cases z
    · exact r77_8r_4g ok P j m k f q1 q2 a s l0 l1 l2 l3 l4 w0 w1 w2 w3 w4 w5 w6 w7 w8
    · exact r77_8g_4g ok P j m k f q1 q2 a s l0 l1 l2 l3 l4 w0 w1 w2 w3 w4 w5 w6 w7 w8
  · intro z w hw ok P j m k f q1 q2 a s y l hl
    obtain ⟨l0, l1, l2, l3, l4, rfl⟩ := len5 hl
    obtain ⟨w0, w1, w2, w3, w4, w5, w6, w7, w8, rfl⟩ := len9 hw
    cases z
    · exact r77_8r_4x ok P j m k f q1 q2 a s l0 l1 l2 l3 l4 y w0 w1 w2 w3 w4 w5 w6 w7 w8
    · exact r77_8g_4x ok P j m k f q1 q2 a s l0 l1 l2 l3 l4 y w0 w1 w2 w3 w4 w5 w6 w7 w8
theorem rd7_8_4r : Rd7 8 4 .r := by
  constructor
  · intro z w hw ok P j m k f q1 q2 a s l hl
    obtain ⟨l0, l1, l2, l3, l4, rfl⟩ := len5 hl
    obtain ⟨w0, w1, w2, w3, w4, w5, w6, w7, w8, rfl⟩ := len9 hw
    cases z
    · exact r77_8r_4r ok P j m k f q1 q2 a s l0 l1 l2 l3 l4 w0 w1 w2 w3 w4 w5 w6 w7 w8
    · exact r77_8g_4r ok P j m k f q1 q2 a s l0 l1 l2 l3 l4 w0 w1 w2 w3 w4 w5 w6 w7 w8
  · intro z w hw ok P j m k f q1 q2 a s y l hl
    obtain ⟨l0, l1, l2, l3, l4, rfl⟩ := len5 hl
    obtain ⟨w0, w1, w2, w3, w4, w5, w6, w7, w8, rfl⟩ := len9 hw
    cases z
    · exact r77_8r_4x ok P j m k f q1 q2 a s l0 l1 l2 l3 l4 y w0 w1 w2 w3 w4 w5 w6 w7 w8
    · exact r77_8g_4x ok P j m k f q1 q2 a s l0 l1 l2 l3 l4 y w0 w1 w2 w3 w4 w5 w6 w7 w8
theorem rd7_8_5g : Rd7 8 5 .g := by
  constructor
  · intro z w hw ok P j m k f q1 q2 a s l hl
    obtain ⟨l0, l1, l2, l3, l4, l5, rfl⟩ := len6 hl
    obtain ⟨w0, w1, w2, w3, w4, w5, w6, w7, w8, rfl⟩ := len9 hw
    cases z
    · exact r77_8r_5g ok P j m k f q1 q2 a s l0 l1 l2 l3 l4 l5 w0 w1 w2 w3 w4 w5 w6 w7 w8
    · exact r77_8g_5g ok P j m k f q1 q2 a s l0 l1 l2 l3 l4 l5 w0 w1 w2 w3 w4 w5 w6 w7 w8
  · intro z w hw ok P j m k f q1 q2 a s y l hl
    obtain ⟨l0, l1, l2, l3, l4, l5, rfl⟩ := len6 hl
    obtain ⟨w0, w1, w2, w3, w4, w5, w6, w7, w8, rfl⟩ := len9 hw
    cases z
    · exact r77_8r_5x ok P j m k f q1 q2 a s l0 l1 l2 l3 l4 l5 y w0 w1 w2 w3 w4 w5 w6 w7 w8
    · exact r77_8g_5x ok P j m k f q1 q2 a s l0 l1 l2 l3 l4 l5 y w0 w1 w2 w3 w4 w5 w6 w7 w8
theorem rd7_8_5r : Rd7 8 5 .r := by
  constructor
  · intro z w hw ok P j m k f q1 q2 a s l hl
    obtain ⟨l0, l1, l2, l3, l4, l5, rfl⟩ := len6 hl
    obtain ⟨w0, w1, w2, w3, w4, w5, w6, w7, w8, rfl⟩ := len9 hw
    cases z
    · exact r77_8r_5r ok P j m k f q1 q2 a s l0 l1 l2 l3 l4 l5 w0 w1 w2 w3 w4 w5 w6 w7 w8
    · exact r77_8g_5r ok P j m k f q1 q2 a s l0 l1 l2 l3 l4 l5 w0 w1 w2 w3 w4 w5 w6 w7 w8
  · intro z w hw ok P j m k f q1 q2 a s y l hl
    obtain ⟨l0, l1, l2, l3, l4, l5, rfl⟩ := len6 hl
    obtain ⟨w0, w1, w2, w3, w4, w5, w6, w7, w8, rfl⟩ := len9 hw
    cases z
    · exact r77_8r_5x ok P j m k f q1 q2 a s l0 l1 l2 l3 l4 l5 y w0 w1 w2 w3 w4 w5 w6 w7 w8
    · exact r77_8g_5x ok P j m k f q1 q2 a s l0 l1 l2 l3 l4 l5 y w0 w1 w2 w3 w4 w5 w6 w7 w8
theorem rd7_8_6g : Rd7 8 6 .g := by
  constructor
  · intro z w hw ok P j m k f q1 q2 a s l hl
    obtain ⟨l0, l1, l2, l3, l4, l5, l6, rfl⟩ := len7 hl
    obtain ⟨w0, w1, w2, w3, w4, w5, w6, w7, w8, rfl⟩ := len9 hw
    cases z
    · exact r77_8r_6g ok P j m k f q1 q2 a s l0 l1 l2 l3 l4 l5 l6 w0 w1 w2 w3 w4 w5 w6 w7 w8
    · exact r77_8g_6g ok P j m k f q1 q2 a s l0 l1 l2 l3 l4 l5 l6 w0 w1 w2 w3 w4 w5 w6 w7 w8
  · intro z w hw ok P j m k f q1 q2 a s y l hl
    obtain ⟨l0, l1, l2, l3, l4, l5, l6, rfl⟩ := len7 hl
    obtain ⟨w0, w1, w2, w3, w4, w5, w6, w7, w8, rfl⟩ := len9 hw
    cases z
    · exact r77_8r_6x ok P j m k f q1 q2 a s l0 l1 l2 l3 l4 l5 l6 y w0 w1 w2 w3 w4 w5 w6 w7 w8
    · exact r77_8g_6x ok P j m k f q1 q2 a s l0 l1 l2 l3 l4 l5 l6 y w0 w1 w2 w3 w4 w5 w6 w7 w8
theorem rd7_8_6r : Rd7 8 6 .r := by
  constructor
  · intro z w hw ok P j m k f q1 q2 a s l hl
    obtain ⟨l0, l1, l2, l3, l4, l5, l6, rfl⟩ := len7 hl
    obtain ⟨w0, w1, w2, w3, w4, w5, w6, w7, w8, rfl⟩ := len9 hw
    cases z
    · exact r77_8r_6r ok P j m k f q1 q2 a s l0 l1 l2 l3 l4 l5 l6 w0 w1 w2 w3 w4 w5 w6 w7 w8
    · exact r77_8g_6r ok P j m k f q1 q2 a s l0 l1 l2 l3 l4 l5 l6 w0 w1 w2 w3 w4 w5 w6 w7 w8
  · intro z w hw ok P j m k f q1 q2 a s y l hl
    obtain ⟨l0, l1, l2, l3, l4, l5, l6, rfl⟩ := len7 hl
    obtain ⟨w0, w1, w2, w3, w4, w5, w6, w7, w8, rfl⟩ := len9 hw
    cases z
    · exact r77_8r_6x ok P j m k f q1 q2 a s l0 l1 l2 l3 l4 l5 l6 y w0 w1 w2 w3 w4 w5 w6 w7 w8
    · exact r77_8g_6x ok P j m k f q1 q2 a s l0 l1 l2 l3 l4 l5 l6 y w0 w1 w2 w3 w4 w5 w6 w7 w8
theorem rd7_8_7g : Rd7 8 7 .g := by
  constructor
  · intro z w hw ok P j m k f q1 q2 a s l hl
    obtain ⟨l0, l1, l2, l3, l4, l5, l6, l7, rfl⟩ := len8 hl
    obtain ⟨w0, w1, w2, w3, w4, w5, w6, w7, w8, rfl⟩ := len9 hw
    cases z
    · exact r77_8r_7g ok P j m k f q1 q2 a s l0 l1 l2 l3 l4 l5 l6 l7 w0 w1 w2 w3 w4 w5 w6 w7 w8
    · exact r77_8g_7g ok P j m k f q1 q2 a s l0 l1 l2 l3 l4 l5 l6 l7 w0 w1 w2 w3 w4 w5 w6 w7 w8
  · intro z w hw ok P j m k f q1 q2 a s y l hl
    obtain ⟨l0, l1, l2, l3, l4, l5, l6, l7, rfl⟩ := len8 hl
    obtain ⟨w0, w1, w2, w3, w4, w5, w6, w7, w8, rfl⟩ := len9 hw
    cases z
    · exact r77_8r_7x ok P j m k f q1 q2 a s l0 l1 l2 l3 l4 l5 l6 l7 y w0 w1 w2 w3 w4 w5 w6 w7 w8
    · exact r77_8g_7x ok P j m k f q1 q2 a s l0 l1 l2 l3 l4 l5 l6 l7 y w0 w1 w2 w3 w4 w5 w6 w7 w8
theorem rd7_8_7r : Rd7 8 7 .r := by
  constructor
  · intro z w hw ok P j m k f q1 q2 a s l hl
    obtain ⟨l0, l1, l2, l3, l4, l5, l6, l7, rfl⟩ := len8 hl
    obtain ⟨w0, w1, w2, w3, w4, w5, w6, w7, w8, rfl⟩ := len9 hw
    cases z
    · exact r77_8r_7r ok P j m k f q1 q2 a s l0 l1 l2 l3 l4 l5 l6 l7 w0 w1 w2 w3 w4 w5 w6 w7 w8
    · exact r77_8g_7r ok P j m k f q1 q2 a s l0 l1 l2 l3 l4 l5 l6 l7 w0 w1 w2 w3 w4 w5 w6 w7 w8
  · intro z w hw ok P j m k f q1 q2 a s y l hl
    obtain ⟨l0, l1, l2, l3, l4, l5, l6, l7, rfl⟩ := len8 hl
    obtain ⟨w0, w1, w2, w3, w4, w5, w6, w7, w8, rfl⟩ := len9 hw
    cases z
    · exact r77_8r_7x ok P j m k f q1 q2 a s l0 l1 l2 l3 l4 l5 l6 l7 y w0 w1 w2 w3 w4 w5 w6 w7 w8
    · exact r77_8g_7x ok P j m k f q1 q2 a s l0 l1 l2 l3 l4 l5 l6 l7 y w0 w1 w2 w3 w4 w5 w6 w7 w8
theorem rd7_9_0o : Rd7 9 0 .o := by
  constructor
  · intro z w hw ok P j m k f q1 q2 a s l hl
    obtain ⟨l0, rfl⟩ := len1 hl
    obtain ⟨w0, w1, w2, w3, w4, w5, w6, w7, w8, w9, rfl⟩ := len10 hw
    cases z
    · exact r77_9r_0o ok P j m k f q1 q2 a s l0 w0 w1 w2 w3 w4 w5 w6 w7 w8 w9
    · exact r77_9g_0o ok P j m k f q1 q2 a s l0 w0 w1 w2 w3 w4 w5 w6 w7 w8 w9
  · intro z w hw ok P j m k f q1 q2 a s y l hl
    obtain ⟨l0, rfl⟩ := len1 hl
    obtain ⟨w0, w1, w2, w3, w4, w5, w6, w7, w8, w9, rfl⟩ := len10 hw
    cases z
    · exact r77_9r_0x ok P j m k f q1 q2 a s l0 y w0 w1 w2 w3 w4 w5 w6 w7 w8 w9
    · exact r77_9g_0x ok P j m k f q1 q2 a s l0 y w0 w1 w2 w3 w4 w5 w6 w7 w8 w9
theorem rd7_9_1g : Rd7 9 1 .g := by
  constructor
  · intro z w hw ok P j m k f q1 q2 a s l hl
    obtain ⟨l0, l1, rfl⟩ := len2 hl
    obtain ⟨w0, w1, w2, w3, w4, w5, w6, w7, w8, w9, rfl⟩ := len10 hw
    cases z
    · exact r77_9r_1g ok P j m k f q1 q2 a s l0 l1 w0 w1 w2 w3 w4 w5 w6 w7 w8 w9
    · exact r77_9g_1g ok P j m k f q1 q2 a s l0 l1 w0 w1 w2 w3 w4 w5 w6 w7 w8 w9
  · intro z w hw ok P j m k f q1 q2 a s y l hl
    obtain ⟨l0, l1, rfl⟩ := len2 hl
    obtain ⟨w0, w1, w2, w3, w4, w5, w6, w7, w8, w9, rfl⟩ := len10 hw
    cases z
    · exact r77_9r_1x ok P j m k f q1 q2 a s l0 l1 y w0 w1 w2 w3 w4 w5 w6 w7 w8 w9
    · exact r77_9g_1x ok P j m k f q1 q2 a s l0 l1 y w0 w1 w2 w3 w4 w5 w6 w7 w8 w9
theorem rd7_9_1r : Rd7 9 1 .r := by
  constructor
  · intro z w hw ok P j m k f q1 q2 a s l hl
    obtain ⟨l0, l1, rfl⟩ := len2 hl
    obtain ⟨w0, w1, w2, w3, w4, w5, w6, w7, w8, w9, rfl⟩ := len10 hw
    cases z
    · exact r77_9r_1r ok P j m k f q1 q2 a s l0 l1 w0 w1 w2 w3 w4 w5 w6 w7 w8 w9
    · exact r77_9g_1r ok P j m k f q1 q2 a s l0 l1 w0 w1 w2 w3 w4 w5 w6 w7 w8 w9
  · intro z w hw ok P j m k f q1 q2 a s y l hl
    obtain ⟨l0, l1, rfl⟩ := len2 hl
    obtain ⟨w0, w1, w2, w3, w4, w5, w6, w7, w8, w9, rfl⟩ := len10 hw
    cases z
    · exact r77_9r_1x ok P j m k f q1 q2 a s l0 l1 y w0 w1 w2 w3 w4 w5 w6 w7 w8 w9
    · exact r77_9g_1x ok P j m k f q1 q2 a s l0 l1 y w0 w1 w2 w3 w4 w5 w6 w7 w8 w9
theorem rd7_9_2g : Rd7 9 2 .g := by
  constructor
  · intro z w hw ok P j m k f q1 q2 a s l hl
    obtain ⟨l0, l1, l2, rfl⟩ := len3 hl
    obtain ⟨w0, w1, w2, w3, w4, w5, w6, w7, w8, w9, rfl⟩ := len10 hw
    cases z
    · exact r77_9r_2g ok P j m k f q1 q2 a s l0 l1 l2 w0 w1 w2 w3 w4 w5 w6 w7 w8 w9
    · exact r77_9g_2g ok P j m k f q1 q2 a s l0 l1 l2 w0 w1 w2 w3 w4 w5 w6 w7 w8 w9
  · intro z w hw ok P j m k f q1 q2 a s y l hl
    obtain ⟨l0, l1, l2, rfl⟩ := len3 hl
    obtain ⟨w0, w1, w2, w3, w4, w5, w6, w7, w8, w9, rfl⟩ := len10 hw
    cases z
    · exact r77_9r_2x ok P j m k f q1 q2 a s l0 l1 l2 y w0 w1 w2 w3 w4 w5 w6 w7 w8 w9
    · exact r77_9g_2x ok P j m k f q1 q2 a s l0 l1 l2 y w0 w1 w2 w3 w4 w5 w6 w7 w8 w9
theorem rd7_9_2r : Rd7 9 2 .r := by
  constructor
  · intro z w hw ok P j m k f q1 q2 a s l hl
    obtain ⟨l0, l1, l2, rfl⟩ := len3 hl
    obtain ⟨w0, w1, w2, w3, w4, w5, w6, w7, w8, w9, rfl⟩ := len10 hw
    cases z
    · exact r77_9r_2r ok P j m k f q1 q2 a s l0 l1 l2 w0 w1 w2 w3 w4 w5 w6 w7 w8 w9
    · exact r77_9g_2r ok P j m k f q1 q2 a s l0 l1 l2 w0 w1 w2 w3 w4 w5 w6 w7 w8 w9
  · intro z w hw ok P j m k f q1 q2 a s y l hl
    obtain ⟨l0, l1, l2, rfl⟩ := len3 hl
    obtain ⟨w0, w1, w2, w3, w4, w5, w6, w7, w8, w9, rfl⟩ := len10 hw
    cases z
    · exact r77_9r_2x ok P j m k f q1 q2 a s l0 l1 l2 y w0 w1 w2 w3 w4 w5 w6 w7 w8 w9
    · exact r77_9g_2x ok P j m k f q1 q2 a s l0 l1 l2 y w0 w1 w2 w3 w4 w5 w6 w7 w8 w9
theorem rd7_9_3g : Rd7 9 3 .g := by
  constructor
  · intro z w hw ok P j m k f q1 q2 a s l hl
    obtain ⟨l0, l1, l2, l3, rfl⟩ := len4 hl
    obtain ⟨w0, w1, w2, w3, w4, w5, w6, w7, w8, w9, rfl⟩ := len10 hw
    cases z
    · exact r77_9r_3g ok P j m k f q1 q2 a s l0 l1 l2 l3 w0 w1 w2 w3 w4 w5 w6 w7 w8 w9
    · exact r77_9g_3g ok P j m k f q1 q2 a s l0 l1 l2 l3 w0 w1 w2 w3 w4 w5 w6 w7 w8 w9
  · intro z w hw ok P j m k f q1 q2 a s y l hl
    obtain ⟨l0, l1, l2, l3, rfl⟩ := len4 hl
    obtain ⟨w0, w1, w2, w3, w4, w5, w6, w7, w8, w9, rfl⟩ := len10 hw
    cases z
    · exact r77_9r_3x ok P j m k f q1 q2 a s l0 l1 l2 l3 y w0 w1 w2 w3 w4 w5 w6 w7 w8 w9
    · exact r77_9g_3x ok P j m k f q1 q2 a s l0 l1 l2 l3 y w0 w1 w2 w3 w4 w5 w6 w7 w8 w9
theorem rd7_9_3r : Rd7 9 3 .r := by
  constructor
  · intro z w hw ok P j m k f q1 q2 a s l hl
    obtain ⟨l0, l1, l2, l3, rfl⟩ := len4 hl
    obtain ⟨w0, w1, w2, w3, w4, w5, w6, w7, w8, w9, rfl⟩ := len10 hw
    cases z
    · exact r77_9r_3r ok P j m k f q1 q2 a s l0 l1 l2 l3 w0 w1 w2 w3 w4 w5 w6 w7 w8 w9
    · exact r77_9g_3r ok P j m k f q1 q2 a s l0 l1 l2 l3 w0 w1 w2 w3 w4 w5 w6 w7 w8 w9
  · intro z w hw ok P j m k f q1 q2 a s y l hl
    obtain ⟨l0, l1, l2, l3, rfl⟩ := len4 hl
    obtain ⟨w0, w1, w2, w3, w4, w5, w6, w7, w8, w9, rfl⟩ := len10 hw
    cases z
    · exact r77_9r_3x ok P j m k f q1 q2 a s l0 l1 l2 l3 y w0 w1 w2 w3 w4 w5 w6 w7 w8 w9
    · exact r77_9g_3x ok P j m k f q1 q2 a s l0 l1 l2 l3 y w0 w1 w2 w3 w4 w5 w6 w7 w8 w9
theorem rd7_9_4g : Rd7 9 4 .g := by
  constructor
  · intro z w hw ok P j m k f q1 q2 a s l hl
    obtain ⟨l0, l1, l2, l3, l4, rfl⟩ := len5 hl
    obtain ⟨w0, w1, w2, w3, w4, w5, w6, w7, w8, w9, rfl⟩ := len10 hw
    cases z
    · exact r77_9r_4g ok P j m k f q1 q2 a s l0 l1 l2 l3 l4 w0 w1 w2 w3 w4 w5 w6 w7 w8 w9
    · exact r77_9g_4g ok P j m k f q1 q2 a s l0 l1 l2 l3 l4 w0 w1 w2 w3 w4 w5 w6 w7 w8 w9
  · intro z w hw ok P j m k f q1 q2 a s y l hl
    obtain ⟨l0, l1, l2, l3, l4, rfl⟩ := len5 hl
    obtain ⟨w0, w1, w2, w3, w4, w5, w6, w7, w8, w9, rfl⟩ := len10 hw
    cases z
    · exact r77_9r_4x ok P j m k f q1 q2 a s l0 l1 l2 l3 l4 y w0 w1 w2 w3 w4 w5 w6 w7 w8 w9
    · exact r77_9g_4x ok P j m k f q1 q2 a s l0 l1 l2 l3 l4 y w0 w1 w2 w3 w4 w5 w6 w7 w8 w9
theorem rd7_9_4r : Rd7 9 4 .r := by
  constructor
  · intro z w hw ok P j m k f q1 q2 a s l hl
    obtain ⟨l0, l1, l2, l3, l4, rfl⟩ := len5 hl
    obtain ⟨w0, w1, w2, w3, w4, w5, w6, w7, w8, w9, rfl⟩ := len10 hw
    cases z
    · exact r77_9r_4r ok P j m k f q1 q2 a s l0 l1 l2 l3 l4 w0 w1 w2 w3 w4 w5 w6 w7 w8 w9
    · exact r77_9g_4r ok P j m k f q1 q2 a s l0 l1 l2 l3 l4 w0 w1 w2 w3 w4 w5 w6 w7 w8 w9
  · intro z w hw ok P j m k f q1 q2 a s y l hl
    obtain ⟨l0, l1, l2, l3, l4, rfl⟩ := len5 hl
    obtain ⟨w0, w1, w2, w3, w4, w5, w6, w7, w8, w9, rfl⟩ := len10 hw
    cases z
    · exact r77_9r_4x ok P j m k f q1 q2 a s l0 l1 l2 l3 l4 y w0 w1 w2 w3 w4 w5 w6 w7 w8 w9
    · exact r77_9g_4x ok P j m k f q1 q2 a s l0 l1 l2 l3 l4 y w0 w1 w2 w3 w4 w5 w6 w7 w8 w9
theorem rd7_9_5g : Rd7 9 5 .g := by
  constructor
  · intro z w hw ok P j m k f q1 q2 a s l hl
    obtain ⟨l0, l1, l2, l3, l4, l5, rfl⟩ := len6 hl
    obtain ⟨w0, w1, w2, w3, w4, w5, w6, w7, w8, w9, rfl⟩ := len10 hw
    cases z
    · exact r77_9r_5g ok P j m k f q1 q2 a s l0 l1 l2 l3 l4 l5 w0 w1 w2 w3 w4 w5 w6 w7 w8 w9
    · exact r77_9g_5g ok P j m k f q1 q2 a s l0 l1 l2 l3 l4 l5 w0 w1 w2 w3 w4 w5 w6 w7 w8 w9
  · intro z w hw ok P j m k f q1 q2 a s y l hl
    obtain ⟨l0, l1, l2, l3, l4, l5, rfl⟩ := len6 hl
    obtain ⟨w0, w1, w2, w3, w4, w5, w6, w7, w8, w9, rfl⟩ := len10 hw
    cases z
    · exact r77_9r_5x ok P j m k f q1 q2 a s l0 l1 l2 l3 l4 l5 y w0 w1 w2 w3 w4 w5 w6 w7 w8 w9
    · exact r77_9g_5x ok P j m k f q1 q2 a s l0 l1 l2 l3 l4 l5 y w0 w1 w2 w3 w4 w5 w6 w7 w8 w9
theorem rd7_9_5r : Rd7 9 5 .r := by
  constructor
  · intro z w hw ok P j m k f q1 q2 a s l hl
    obtain ⟨l0, l1, l2, l3, l4, l5, rfl⟩ := len6 hl
    obtain ⟨w0, w1, w2, w3, w4, w5, w6, w7, w8, w9, rfl⟩ := len10 hw
    cases z
    · exact r77_9r_5r ok P j m k f q1 q2 a s l0 l1 l2 l3 l4 l5 w0 w1 w2 w3 w4 w5 w6 w7 w8 w9
    · exact r77_9g_5r ok P j m k f q1 q2 a s l0 l1 l2 l3 l4 l5 w0 w1 w2 w3 w4 w5 w6 w7 w8 w9
  · intro z w hw ok P j m k f q1 q2 a s y l hl
    obtain ⟨l0, l1, l2, l3, l4, l5, rfl⟩ := len6 hl
    obtain ⟨w0, w1, w2, w3, w4, w5, w6, w7, w8, w9, rfl⟩ := len10 hw
    cases z
    · exact r77_9r_5x ok P j m k f q1 q2 a s l0 l1 l2 l3 l4 l5 y w0 w1 w2 w3 w4 w5 w6 w7 w8 w9
    · exact r77_9g_5x ok P j m k f q1 q2 a s l0 l1 l2 l3 l4 l5 y w0 w1 w2 w3 w4 w5 w6 w7 w8 w9
theorem rd7_9_6g : Rd7 9 6 .g := by
  constructor
  · intro z w hw ok P j m k f q1 q2 a s l hl
    obtain ⟨l0, l1, l2, l3, l4, l5, l6, rfl⟩ := len7 hl
    obtain ⟨w0, w1, w2, w3, w4, w5, w6, w7, w8, w9, rfl⟩ := len10 hw
    cases z
    · exact r77_9r_6g ok P j m k f q1 q2 a s l0 l1 l2 l3 l4 l5 l6 w0 w1 w2 w3 w4 w5 w6 w7 w8 w9
    · exact r77_9g_6g ok P j m k f q1 q2 a s l0 l1 l2 l3 l4 l5 l6 w0 w1 w2 w3 w4 w5 w6 w7 w8 w9
  · intro z w hw ok P j m k f q1 q2 a s y l hl
    obtain ⟨l0, l1, l2, l3, l4, l5, l6, rfl⟩ := len7 hl
    obtain ⟨w0, w1, w2, w3, w4, w5, w6, w7, w8, w9, rfl⟩ := len10 hw
    cases z
    · exact r77_9r_6x ok P j m k f q1 q2 a s l0 l1 l2 l3 l4 l5 l6 y w0 w1 w2 w3 w4 w5 w6 w7 w8 w9
    · exact r77_9g_6x ok P j m k f q1 q2 a s l0 l1 l2 l3 l4 l5 l6 y w0 w1 w2 w3 w4 w5 w6 w7 w8 w9
theorem rd7_9_6r : Rd7 9 6 .r := by
  constructor
  · intro z w hw ok P j m k f q1 q2 a s l hl
    obtain ⟨l0, l1, l2, l3, l4, l5, l6, rfl⟩ := len7 hl
    obtain ⟨w0, w1, w2, w3, w4, w5, w6, w7, w8, w9, rfl⟩ := len10 hw
    cases z
    · exact r77_9r_6r ok P j m k f q1 q2 a s l0 l1 l2 l3 l4 l5 l6 w0 w1 w2 w3 w4 w5 w6 w7 w8 w9
    · exact r77_9g_6r ok P j m k f q1 q2 a s l0 l1 l2 l3 l4 l5 l6 w0 w1 w2 w3 w4 w5 w6 w7 w8 w9
  · intro z w hw ok P j m k f q1 q2 a s y l hl
    obtain ⟨l0, l1, l2, l3, l4, l5, l6, rfl⟩ := len7 hl
    obtain ⟨w0, w1, w2, w3, w4, w5, w6, w7, w8, w9, rfl⟩ := len10 hw
    cases z
    · exact r77_9r_6x ok P j m k f q1 q2 a s l0 l1 l2 l3 l4 l5 l6 y w0 w1 w2 w3 w4 w5 w6 w7 w8 w9
    · exact r77_9g_6x ok P j m k f q1 q2 a s l0 l1 l2 l3 l4 l5 l6 y w0 w1 w2 w3 w4 w5 w6 w7 w8 w9
theorem rd7_9_7g : Rd7 9 7 .g := by
  constructor
  · intro z w hw ok P j m k f q1 q2 a s l hl
    obtain ⟨l0, l1, l2, l3, l4, l5, l6, l7, rfl⟩ := len8 hl
    obtain ⟨w0, w1, w2, w3, w4, w5, w6, w7, w8, w9, rfl⟩ := len10 hw
    cases z
    · exact r77_9r_7g ok P j m k f q1 q2 a s l0 l1 l2 l3 l4 l5 l6 l7 w0 w1 w2 w3 w4 w5 w6 w7 w8 w9
    · exact r77_9g_7g ok P j m k f q1 q2 a s l0 l1 l2 l3 l4 l5 l6 l7 w0 w1 w2 w3 w4 w5 w6 w7 w8 w9
  · intro z w hw ok P j m k f q1 q2 a s y l hl
    obtain ⟨l0, l1, l2, l3, l4, l5, l6, l7, rfl⟩ := len8 hl
    obtain ⟨w0, w1, w2, w3, w4, w5, w6, w7, w8, w9, rfl⟩ := len10 hw
    cases z
    · exact r77_9r_7x ok P j m k f q1 q2 a s l0 l1 l2 l3 l4 l5 l6 l7 y w0 w1 w2 w3 w4 w5 w6 w7 w8 w9
    · exact r77_9g_7x ok P j m k f q1 q2 a s l0 l1 l2 l3 l4 l5 l6 l7 y w0 w1 w2 w3 w4 w5 w6 w7 w8 w9
theorem rd7_9_7r : Rd7 9 7 .r := by
  constructor
  · intro z w hw ok P j m k f q1 q2 a s l hl
    obtain ⟨l0, l1, l2, l3, l4, l5, l6, l7, rfl⟩ := len8 hl
    obtain ⟨w0, w1, w2, w3, w4, w5, w6, w7, w8, w9, rfl⟩ := len10 hw
    cases z
    · exact r77_9r_7r ok P j m k f q1 q2 a s l0 l1 l2 l3 l4 l5 l6 l7 w0 w1 w2 w3 w4 w5 w6 w7 w8 w9
    · exact r77_9g_7r ok P j m k f q1 q2 a s l0 l1 l2 l3 l4 l5 l6 l7 w0 w1 w2 w3 w4 w5 w6 w7 w8 w9
  · intro z w hw ok P j m k f q1 q2 a s y l hl
    obtain ⟨l0, l1, l2, l3, l4, l5, l6, l7, rfl⟩ := len8 hl
    obtain ⟨w0, w1, w2, w3, w4, w5, w6, w7, w8, w9, rfl⟩ := len10 hw
    cases z
    · exact r77_9r_7x ok P j m k f q1 q2 a s l0 l1 l2 l3 l4 l5 l6 l7 y w0 w1 w2 w3 w4 w5 w6 w7 w8 w9
    · exact r77_9g_7x ok P j m k f q1 q2 a s l0 l1 l2 l3 l4 l5 l6 l7 y w0 w1 w2 w3 w4 w5 w6 w7 w8 w9
theorem rd7_9_8g : Rd7 9 8 .g := by
  constructor
  · intro z w hw ok P j m k f q1 q2 a s l hl
    obtain ⟨l0, l1, l2, l3, l4, l5, l6, l7, l8, rfl⟩ := len9 hl
    obtain ⟨w0, w1, w2, w3, w4, w5, w6, w7, w8, w9, rfl⟩ := len10 hw
    cases z
    · exact r77_9r_8g ok P j m k f q1 q2 a s l0 l1 l2 l3 l4 l5 l6 l7 l8 w0 w1 w2 w3 w4 w5 w6 w7 w8 w9
    · exact r77_9g_8g ok P j m k f q1 q2 a s l0 l1 l2 l3 l4 l5 l6 l7 l8 w0 w1 w2 w3 w4 w5 w6 w7 w8 w9
  · intro z w hw ok P j m k f q1 q2 a s y l hl
    obtain ⟨l0, l1, l2, l3, l4, l5, l6, l7, l8, rfl⟩ := len9 hl
    obtain ⟨w0, w1, w2, w3, w4, w5, w6, w7, w8, w9, rfl⟩ := len10 hw
    cases z
    · exact r77_9r_8x ok P j m k f q1 q2 a s l0 l1 l2 l3 l4 l5 l6 l7 l8 y w0 w1 w2 w3 w4 w5 w6 w7 w8 w9
    · exact r77_9g_8x ok P j m k f q1 q2 a s l0 l1 l2 l3 l4 l5 l6 l7 l8 y w0 w1 w2 w3 w4 w5 w6 w7 w8 w9
theorem rd7_9_8r : Rd7 9 8 .r := by
  constructor
  · intro z w hw ok P j m k f q1 q2 a s l hl
    obtain ⟨l0, l1, l2, l3, l4, l5, l6, l7, l8, rfl⟩ := len9 hl
    obtain ⟨w0, w1, w2, w3, w4, w5, w6, w7, w8, w9, rfl⟩ := len10 hw
    cases z
    · exact r77_9r_8r ok P j m k f q1 q2 a s l0 l1 l2 l3 l4 l5 l6 l7 l8 w0 w1 w2 w3 w4 w5 w6 w7 w8 w9
    · exact r77_9g_8r ok P j m k f q1 q2 a s l0 l1 l2 l3 l4 l5 l6 l7 l8 w0 w1 w2 w3 w4 w5 w6 w7 w8 w9
  · intro z w hw ok P j m k f q1 q2 a s y l hl
    obtain ⟨l0, l1, l2, l3, l4, l5, l6, l7, l8, rfl⟩ := len9 hl
    obtain ⟨w0, w1, w2, w3, w4, w5, w6, w7, w8, w9, rfl⟩ := len10 hw
    cases z
    · exact r77_9r_8x ok P j m k f q1 q2 a s l0 l1 l2 l3 l4 l5 l6 l7 l8 y w0 w1 w2 w3 w4 w5 w6 w7 w8 w9
    · exact r77_9g_8x ok P j m k f q1 q2 a s l0 l1 l2 l3 l4 l5 l6 l7 l8 y w0 w1 w2 w3 w4 w5 w6 w7 w8 w9
theorem rd7_10_0o : Rd7 10 0 .o := by
  constructor
  · intro z w hw ok P j m k f q1 q2 a s l hl
    obtain ⟨l0, rfl⟩ := len1 hl
    obtain ⟨w0, w1, w2, w3, w4, w5, w6, w7, w8, w9, w10, rfl⟩ := len11 hw
    cases z
    · exact r77_10r_0o ok P j m k f q1 q2 a s l0 w0 w1 w2 w3 w4 w5 w6 w7 w8 w9 w10
    · exact r77_10g_0o ok P j m k f q1 q2 a s l0 w0 w1 w2 w3 w4 w5 w6 w7 w8 w9 w10
  · intro z w hw ok P j m k f q1 q2 a s y l hl
    obtain ⟨l0, rfl⟩ := len1 hl
    obtain ⟨w0, w1, w2, w3, w4, w5, w6, w7, w8, w9, w10, rfl⟩ := len11 hw
    cases z
    · exact r77_10r_0x ok P j m k f q1 q2 a s l0 y w0 w1 w2 w3 w4 w5 w6 w7 w8 w9 w10
    · exact r77_10g_0x ok P j m k f q1 q2 a s l0 y w0 w1 w2 w3 w4 w5 w6 w7 w8 w9 w10
theorem rd7_10_1g : Rd7 10 1 .g := by
  constructor
  · intro z w hw ok P j m k f q1 q2 a s l hl
    obtain ⟨l0, l1, rfl⟩ := len2 hl
    obtain ⟨w0, w1, w2, w3, w4, w5, w6, w7, w8, w9, w10, rfl⟩ := len11 hw
    cases z
    · exact r77_10r_1g ok P j m k f q1 q2 a s l0 l1 w0 w1 w2 w3 w4 w5 w6 w7 w8 w9 w10
    · exact r77_10g_1g ok P j m k f q1 q2 a s l0 l1 w0 w1 w2 w3 w4 w5 w6 w7 w8 w9 w10
  · intro z w hw ok P j m k f q1 q2 a s y l hl
    obtain ⟨l0, l1, rfl⟩ := len2 hl
    obtain ⟨w0, w1, w2, w3, w4, w5, w6, w7, w8, w9, w10, rfl⟩ := len11 hw
    cases z
    · exact r77_10r_1x ok P j m k f q1 q2 a s l0 l1 y w0 w1 w2 w3 w4 w5 w6 w7 w8 w9 w10
    · exact r77_10g_1x ok P j m k f q1 q2 a s l0 l1 y w0 w1 w2 w3 w4 w5 w6 w7 w8 w9 w10
theorem rd7_10_1r : Rd7 10 1 .r := by
  constructor
  · intro z w hw ok P j m k f q1 q2 a s l hl
    obtain ⟨l0, l1, rfl⟩ := len2 hl
    obtain ⟨w0, w1, w2, w3, w4, w5, w6, w7, w8, w9, w10, rfl⟩ := len11 hw
    cases z
    · exact r77_10r_1r ok P j m k f q1 q2 a s l0 l1 w0 w1 w2 w3 w4 w5 w6 w7 w8 w9 w10
    · exact r77_10g_1r ok P j m k f q1 q2 a s l0 l1 w0 w1 w2 w3 w4 w5 w6 w7 w8 w9 w10
  · intro z w hw ok P j m k f q1 q2 a s y l hl
    obtain ⟨l0, l1, rfl⟩ := len2 hl
    obtain ⟨w0, w1, w2, w3, w4, w5, w6, w7, w8, w9, w10, rfl⟩ := len11 hw
    cases z
    · exact r77_10r_1x ok P j m k f q1 q2 a s l0 l1 y w0 w1 w2 w3 w4 w5 w6 w7 w8 w9 w10
    · exact r77_10g_1x ok P j m k f q1 q2 a s l0 l1 y w0 w1 w2 w3 w4 w5 w6 w7 w8 w9 w10
theorem rd7_10_2g : Rd7 10 2 .g := by
  constructor
  · intro z w hw ok P j m k f q1 q2 a s l hl
    obtain ⟨l0, l1, l2, rfl⟩ := len3 hl
    obtain ⟨w0, w1, w2, w3, w4, w5, w6, w7, w8, w9, w10, rfl⟩ := len11 hw
    cases z
    · exact r77_10r_2g ok P j m k f q1 q2 a s l0 l1 l2 w0 w1 w2 w3 w4 w5 w6 w7 w8 w9 w10
    · exact r77_10g_2g ok P j m k f q1 q2 a s l0 l1 l2 w0 w1 w2 w3 w4 w5 w6 w7 w8 w9 w10
  · intro z w hw ok P j m k f q1 q2 a s y l hl
    obtain ⟨l0, l1, l2, rfl⟩ := len3 hl
    obtain ⟨w0, w1, w2, w3, w4, w5, w6, w7, w8, w9, w10, rfl⟩ := len11 hw
    cases z
    · exact r77_10r_2x ok P j m k f q1 q2 a s l0 l1 l2 y w0 w1 w2 w3 w4 w5 w6 w7 w8 w9 w10
    · exact r77_10g_2x ok P j m k f q1 q2 a s l0 l1 l2 y w0 w1 w2 w3 w4 w5 w6 w7 w8 w9 w10
theorem rd7_10_2r : Rd7 10 2 .r := by
  constructor
  · intro z w hw ok P j m k f q1 q2 a s l hl
    obtain ⟨l0, l1, l2, rfl⟩ := len3 hl
    obtain ⟨w0, w1, w2, w3, w4, w5, w6, w7, w8, w9, w10, rfl⟩ := len11 hw
    cases z
    · exact r77_10r_2r ok P j m k f q1 q2 a s l0 l1 l2 w0 w1 w2 w3 w4 w5 w6 w7 w8 w9 w10
    · exact r77_10g_2r ok P j m k f q1 q2 a s l0 l1 l2 w0 w1 w2 w3 w4 w5 w6 w7 w8 w9 w10
  · intro z w hw ok P j m k f q1 q2 a s y l hl
    obtain ⟨l0, l1, l2, rfl⟩ := len3 hl
    obtain ⟨w0, w1, w2, w3, w4, w5, w6, w7, w8, w9, w10, rfl⟩ := len11 hw
    cases z
    · exact r77_10r_2x ok P j m k f q1 q2 a s l0 l1 l2 y w0 w1 w2 w3 w4 w5 w6 w7 w8 w9 w10
    · exact r77_10g_2x ok P j m k f q1 q2 a s l0 l1 l2 y w0 w1 w2 w3 w4 w5 w6 w7 w8 w9 w10
theorem rd7_10_3g : Rd7 10 3 .g := by
  constructor
  · intro z w hw ok P j m k f q1 q2 a s l hl
    obtain ⟨l0, l1, l2, l3, rfl⟩ := len4 hl
    obtain ⟨w0, w1, w2, w3, w4, w5, w6, w7, w8, w9, w10, rfl⟩ := len11 hw
    cases z
    · exact r77_10r_3g ok P j m k f q1 q2 a s l0 l1 l2 l3 w0 w1 w2 w3 w4 w5 w6 w7 w8 w9 w10
    · exact r77_10g_3g ok P j m k f q1 q2 a s l0 l1 l2 l3 w0 w1 w2 w3 w4 w5 w6 w7 w8 w9 w10
  · intro z w hw ok P j m k f q1 q2 a s y l hl
    obtain ⟨l0, l1, l2, l3, rfl⟩ := len4 hl
    obtain ⟨w0, w1, w2, w3, w4, w5, w6, w7, w8, w9, w10, rfl⟩ := len11 hw
    cases z
    · exact r77_10r_3x ok P j m k f q1 q2 a s l0 l1 l2 l3 y w0 w1 w2 w3 w4 w5 w6 w7 w8 w9 w10
    · exact r77_10g_3x ok P j m k f q1 q2 a s l0 l1 l2 l3 y w0 w1 w2 w3 w4 w5 w6 w7 w8 w9 w10
theorem rd7_10_3r : Rd7 10 3 .r := by
  constructor
  · intro z w hw ok P j m k f q1 q2 a s l hl
    obtain ⟨l0, l1, l2, l3, rfl⟩ := len4 hl
    obtain ⟨w0, w1, w2, w3, w4, w5, w6, w7, w8, w9, w10, rfl⟩ := len11 hw
    cases z
    · exact r77_10r_3r ok P j m k f q1 q2 a s l0 l1 l2 l3 w0 w1 w2 w3 w4 w5 w6 w7 w8 w9 w10
    · exact r77_10g_3r ok P j m k f q1 q2 a s l0 l1 l2 l3 w0 w1 w2 w3 w4 w5 w6 w7 w8 w9 w10
  · intro z w hw ok P j m k f q1 q2 a s y l hl
    obtain ⟨l0, l1, l2, l3, rfl⟩ := len4 hl
    obtain ⟨w0, w1, w2, w3, w4, w5, w6, w7, w8, w9, w10, rfl⟩ := len11 hw
    cases z
    · exact r77_10r_3x ok P j m k f q1 q2 a s l0 l1 l2 l3 y w0 w1 w2 w3 w4 w5 w6 w7 w8 w9 w10
    · exact r77_10g_3x ok P j m k f q1 q2 a s l0 l1 l2 l3 y w0 w1 w2 w3 w4 w5 w6 w7 w8 w9 w10
theorem rd7_10_4g : Rd7 10 4 .g := by
  constructor
  · intro z w hw ok P j m k f q1 q2 a s l hl
    obtain ⟨l0, l1, l2, l3, l4, rfl⟩ := len5 hl
    obtain ⟨w0, w1, w2, w3, w4, w5, w6, w7, w8, w9, w10, rfl⟩ := len11 hw
    cases z
    · exact r77_10r_4g ok P j m k f q1 q2 a s l0 l1 l2 l3 l4 w0 w1 w2 w3 w4 w5 w6 w7 w8 w9 w10
    · exact r77_10g_4g ok P j m k f q1 q2 a s l0 l1 l2 l3 l4 w0 w1 w2 w3 w4 w5 w6 w7 w8 w9 w10
  · intro z w hw ok P j m k f q1 q2 a s y l hl
    obtain ⟨l0, l1, l2, l3, l4, rfl⟩ := len5 hl
    obtain ⟨w0, w1, w2, w3, w4, w5, w6, w7, w8, w9, w10, rfl⟩ := len11 hw
    cases z
    · exact r77_10r_4x ok P j m k f q1 q2 a s l0 l1 l2 l3 l4 y w0 w1 w2 w3 w4 w5 w6 w7 w8 w9 w10
    · exact r77_10g_4x ok P j m k f q1 q2 a s l0 l1 l2 l3 l4 y w0 w1 w2 w3 w4 w5 w6 w7 w8 w9 w10
theorem rd7_10_4r : Rd7 10 4 .r := by
  constructor
  · intro z w hw ok P j m k f q1 q2 a s l hl
    obtain ⟨l0, l1, l2, l3, l4, rfl⟩ := len5 hl
    obtain ⟨w0, w1, w2, w3, w4, w5, w6, w7, w8, w9, w10, rfl⟩ := len11 hw
    cases z
    · exact r77_10r_4r ok P j m k f q1 q2 a s l0 l1 l2 l3 l4 w0 w1 w2 w3 w4 w5 w6 w7 w8 w9 w10
    · exact r77_10g_4r ok P j m k f q1 q2 a s l0 l1 l2 l3 l4 w0 w1 w2 w3 w4 w5 w6 w7 w8 w9 w10
  · intro z w hw ok P j m k f q1 q2 a s y l hl
    obtain ⟨l0, l1, l2, l3, l4, rfl⟩ := len5 hl
    obtain ⟨w0, w1, w2, w3, w4, w5, w6, w7, w8, w9, w10, rfl⟩ := len11 hw
    cases z
    · exact r77_10r_4x ok P j m k f q1 q2 a s l0 l1 l2 l3 l4 y w0 w1 w2 w3 w4 w5 w6 w7 w8 w9 w10
    · exact r77_10g_4x ok P j m k f q1 q2 a s l0 l1 l2 l3 l4 y w0 w1 w2 w3 w4 w5 w6 w7 w8 w9 w10
theorem rd7_10_5g : Rd7 10 5 .g := by
  constructor
  · intro z w hw ok P j m k f q1 q2 a s l hl
    obtain ⟨l0, l1, l2, l3, l4, l5, rfl⟩ := len6 hl
    obtain ⟨w0, w1, w2, w3, w4, w5, w6, w7, w8, w9, w10, rfl⟩ := len11 hw
    cases z
    · exact r77_10r_5g ok P j m k f q1 q2 a s l0 l1 l2 l3 l4 l5 w0 w1 w2 w3 w4 w5 w6 w7 w8 w9 w10
    · exact r77_10g_5g ok P j m k f q1 q2 a s l0 l1 l2 l3 l4 l5 w0 w1 w2 w3 w4 w5 w6 w7 w8 w9 w10
  · intro z w hw ok P j m k f q1 q2 a s y l hl
    obtain ⟨l0, l1, l2, l3, l4, l5, rfl⟩ := len6 hl
    obtain ⟨w0, w1, w2, w3, w4, w5, w6, w7, w8, w9, w10, rfl⟩ := len11 hw
    cases z
    · exact r77_10r_5x ok P j m k f q1 q2 a s l0 l1 l2 l3 l4 l5 y w0 w1 w2 w3 w4 w5 w6 w7 w8 w9 w10
    · exact r77_10g_5x ok P j m k f q1 q2 a s l0 l1 l2 l3 l4 l5 y w0 w1 w2 w3 w4 w5 w6 w7 w8 w9 w10
theorem rd7_10_5r : Rd7 10 5 .r := by
  constructor
  · intro z w hw ok P j m k f q1 q2 a s l hl
    obtain ⟨l0, l1, l2, l3, l4, l5, rfl⟩ := len6 hl
    obtain ⟨w0, w1, w2, w3, w4, w5, w6, w7, w8, w9, w10, rfl⟩ := len11 hw
    cases z
    · exact r77_10r_5r ok P j m k f q1 q2 a s l0 l1 l2 l3 l4 l5 w0 w1 w2 w3 w4 w5 w6 w7 w8 w9 w10
    · exact r77_10g_5r ok P j m k f q1 q2 a s l0 l1 l2 l3 l4 l5 w0 w1 w2 w3 w4 w5 w6 w7 w8 w9 w10
  · intro z w hw ok P j m k f q1 q2 a s y l hl
    obtain ⟨l0, l1, l2, l3, l4, l5, rfl⟩ := len6 hl
    obtain ⟨w0, w1, w2, w3, w4, w5, w6, w7, w8, w9, w10, rfl⟩ := len11 hw
    cases z
    · exact r77_10r_5x ok P j m k f q1 q2 a s l0 l1 l2 l3 l4 l5 y w0 w1 w2 w3 w4 w5 w6 w7 w8 w9 w10
    · exact r77_10g_5x ok P j m k f q1 q2 a s l0 l1 l2 l3 l4 l5 y w0 w1 w2 w3 w4 w5 w6 w7 w8 w9 w10
theorem rd7_10_6g : Rd7 10 6 .g := by
  constructor
  · intro z w hw ok P j m k f q1 q2 a s l hl
    obtain ⟨l0, l1, l2, l3, l4, l5, l6, rfl⟩ := len7 hl
    obtain ⟨w0, w1, w2, w3, w4, w5, w6, w7, w8, w9, w10, rfl⟩ := len11 hw
    cases z
    · exact r77_10r_6g ok P j m k f q1 q2 a s l0 l1 l2 l3 l4 l5 l6 w0 w1 w2 w3 w4 w5 w6 w7 w8 w9 w10
    · exact r77_10g_6g ok P j m k f q1 q2 a s l0 l1 l2 l3 l4 l5 l6 w0 w1 w2 w3 w4 w5 w6 w7 w8 w9 w10
  · intro z w hw ok P j m k f q1 q2 a s y l hl
    obtain ⟨l0, l1, l2, l3, l4, l5, l6, rfl⟩ := len7 hl
    obtain ⟨w0, w1, w2, w3, w4, w5, w6, w7, w8, w9, w10, rfl⟩ := len11 hw
    cases z
    · exact r77_10r_6x ok P j m k f q1 q2 a s l0 l1 l2 l3 l4 l5 l6 y w0 w1 w2 w3 w4 w5 w6 w7 w8 w9 w10
    · exact r77_10g_6x ok P j m k f q1 q2 a s l0 l1 l2 l3 l4 l5 l6 y w0 w1 w2 w3 w4 w5 w6 w7 w8 w9 w10
theorem rd7_10_6r : Rd7 10 6 .r := by
  constructor
  · intro z w hw ok P j m k f q1 q2 a s l hl
    obtain ⟨l0, l1, l2, l3, l4, l5, l6, rfl⟩ := len7 hl
    obtain ⟨w0, w1, w2, w3, w4, w5, w6, w7, w8, w9, w10, rfl⟩ := len11 hw
    cases z
    · exact r77_10r_6r ok P j m k f q1 q2 a s l0 l1 l2 l3 l4 l5 l6 w0 w1 w2 w3 w4 w5 w6 w7 w8 w9 w10
    · exact r77_10g_6r ok P j m k f q1 q2 a s l0 l1 l2 l3 l4 l5 l6 w0 w1 w2 w3 w4 w5 w6 w7 w8 w9 w10
  · intro z w hw ok P j m k f q1 q2 a s y l hl
    obtain ⟨l0, l1, l2, l3, l4, l5, l6, rfl⟩ := len7 hl
    obtain ⟨w0, w1, w2, w3, w4, w5, w6, w7, w8, w9, w10, rfl⟩ := len11 hw
    cases z
    · exact r77_10r_6x ok P j m k f q1 q2 a s l0 l1 l2 l3 l4 l5 l6 y w0 w1 w2 w3 w4 w5 w6 w7 w8 w9 w10
    · exact r77_10g_6x ok P j m k f q1 q2 a s l0 l1 l2 l3 l4 l5 l6 y w0 w1 w2 w3 w4 w5 w6 w7 w8 w9 w10
theorem rd7_10_7g : Rd7 10 7 .g := by
  constructor
  · intro z w hw ok P j m k f q1 q2 a s l hl
    obtain ⟨l0, l1, l2, l3, l4, l5, l6, l7, rfl⟩ := len8 hl
    obtain ⟨w0, w1, w2, w3, w4, w5, w6, w7, w8, w9, w10, rfl⟩ := len11 hw
    cases z
    · exact r77_10r_7g ok P j m k f q1 q2 a s l0 l1 l2 l3 l4 l5 l6 l7 w0 w1 w2 w3 w4 w5 w6 w7 w8 w9 w10
    · exact r77_10g_7g ok P j m k f q1 q2 a s l0 l1 l2 l3 l4 l5 l6 l7 w0 w1 w2 w3 w4 w5 w6 w7 w8 w9 w10
  · intro z w hw ok P j m k f q1 q2 a s y l hl
    obtain ⟨l0, l1, l2, l3, l4, l5, l6, l7, rfl⟩ := len8 hl
    obtain ⟨w0, w1, w2, w3, w4, w5, w6, w7, w8, w9, w10, rfl⟩ := len11 hw
    cases z
    · exact r77_10r_7x ok P j m k f q1 q2 a s l0 l1 l2 l3 l4 l5 l6 l7 y w0 w1 w2 w3 w4 w5 w6 w7 w8 w9 w10
    · exact r77_10g_7x ok P j m k f q1 q2 a s l0 l1 l2 l3 l4 l5 l6 l7 y w0 w1 w2 w3 w4 w5 w6 w7 w8 w9 w10
theorem rd7_10_7r : Rd7 10 7 .r := by
  constructor
  · intro z w hw ok P j m k f q1 q2 a s l hl
    obtain ⟨l0, l1, l2, l3, l4, l5, l6, l7, rfl⟩ := len8 hl
    obtain ⟨w0, w1, w2, w3, w4, w5, w6, w7, w8, w9, w10, rfl⟩ := len11 hw
    cases z
    · exact r77_10r_7r ok P j m k f q1 q2 a s l0 l1 l2 l3 l4 l5 l6 l7 w0 w1 w2 w3 w4 w5 w6 w7 w8 w9 w10
    · exact r77_10g_7r ok P j m k f q1 q2 a s l0 l1 l2 l3 l4 l5 l6 l7 w0 w1 w2 w3 w4 w5 w6 w7 w8 w9 w10
  · intro z w hw ok P j m k f q1 q2 a s y l hl
    obtain ⟨l0, l1, l2, l3, l4, l5, l6, l7, rfl⟩ := len8 hl
    obtain ⟨w0, w1, w2, w3, w4, w5, w6, w7, w8, w9, w10, rfl⟩ := len11 hw
    cases z
    · exact r77_10r_7x ok P j m k f q1 q2 a s l0 l1 l2 l3 l4 l5 l6 l7 y w0 w1 w2 w3 w4 w5 w6 w7 w8 w9 w10
    · exact r77_10g_7x ok P j m k f q1 q2 a s l0 l1 l2 l3 l4 l5 l6 l7 y w0 w1 w2 w3 w4 w5 w6 w7 w8 w9 w10
theorem rd7_10_8g : Rd7 10 8 .g := by
  constructor
  · intro z w hw ok P j m k f q1 q2 a s l hl
    obtain ⟨l0, l1, l2, l3, l4, l5, l6, l7, l8, rfl⟩ := len9 hl
    obtain ⟨w0, w1, w2, w3, w4, w5, w6, w7, w8, w9, w10, rfl⟩ := len11 hw
    cases z
    · exact r77_10r_8g ok P j m k f q1 q2 a s l0 l1 l2 l3 l4 l5 l6 l7 l8 w0 w1 w2 w3 w4 w5 w6 w7 w8 w9 w10
    · exact r77_10g_8g ok P j m k f q1 q2 a s l0 l1 l2 l3 l4 l5 l6 l7 l8 w0 w1 w2 w3 w4 w5 w6 w7 w8 w9 w10
  · intro z w hw ok P j m k f q1 q2 a s y l hl
    obtain ⟨l0, l1, l2, l3, l4, l5, l6, l7, l8, rfl⟩ := len9 hl
    obtain ⟨w0, w1, w2, w3, w4, w5, w6, w7, w8, w9, w10, rfl⟩ := len11 hw
    cases z
    · exact r77_10r_8x ok P j m k f q1 q2 a s l0 l1 l2 l3 l4 l5 l6 l7 l8 y w0 w1 w2 w3 w4 w5 w6 w7 w8 w9 w10
    · exact r77_10g_8x ok P j m k f q1 q2 a s l0 l1 l2 l3 l4 l5 l6 l7 l8 y w0 w1 w2 w3 w4 w5 w6 w7 w8 w9 w10
theorem rd7_10_8r : Rd7 10 8 .r := by
  constructor
  · intro z w hw ok P j m k f q1 q2 a s l hl
    obtain ⟨l0, l1, l2, l3, l4, l5, l6, l7, l8, rfl⟩ := len9 hl
    obtain ⟨w0, w1, w2, w3, w4, w5, w6, w7, w8, w9, w10, rfl⟩ := len11 hw
    cases z
    · exact r77_10r_8r ok P j m k f q1 q2 a s l0 l1 l2 l3 l4 l5 l6 l7 l8 w0 w1 w2 w3 w4 w5 w6 w7 w8 w9 w10
    · exact r77_10g_8r ok P j m k f q1 q2 a s l0 l1 l2 l3 l4 l5 l6 l7 l8 w0 w1 w2 w3 w4 w5 w6 w7 w8 w9 w10
  · intro z w hw ok P j m k f q1 q2 a s y l hl
    obtain ⟨l0, l1, l2, l3, l4, l5, l6, l7, l8, rfl⟩ := len9 hl
    obtain ⟨w0, w1, w2, w3, w4, w5, w6, w7, w8, w9, w10, rfl⟩ := len11 hw
    cases z
    · exact r77_10r_8x ok P j m k f q1 q2 a s l0 l1 l2 l3 l4 l5 l6 l7 l8 y w0 w1 w2 w3 w4 w5 w6 w7 w8 w9 w10
    · exact r77_10g_8x ok P j m k f q1 q2 a s l0 l1 l2 l3 l4 l5 l6 l7 l8 y w0 w1 w2 w3 w4 w5 w6 w7 w8 w9 w10
theorem rd7_10_9g : Rd7 10 9 .g := by
  constructor
  · intro z w hw ok P j m k f q1 q2 a s l hl
    obtain ⟨l0, l1, l2, l3, l4, l5, l6, l7, l8, l9, rfl⟩ := len10 hl
    obtain ⟨w0, w1, w2, w3, w4, w5, w6, w7, w8, w9, w10, rfl⟩ := len11 hw
    cases z
    · exact r77_10r_9g ok P j m k f q1 q2 a s l0 l1 l2 l3 l4 l5 l6 l7 l8 l9 w0 w1 w2 w3 w4 w5 w6 w7 w8 w9 w10
    · exact r77_10g_9g ok P j m k f q1 q2 a s l0 l1 l2 l3 l4 l5 l6 l7 l8 l9 w0 w1 w2 w3 w4 w5 w6 w7 w8 w9 w10
  · intro z w hw ok P j m k f q1 q2 a s y l hl
    obtain ⟨l0, l1, l2, l3, l4, l5, l6, l7, l8, l9, rfl⟩ := len10 hl
    obtain ⟨w0, w1, w2, w3, w4, w5, w6, w7, w8, w9, w10, rfl⟩ := len11 hw
    cases z
    · exact r77_10r_9x ok P j m k f q1 q2 a s l0 l1 l2 l3 l4 l5 l6 l7 l8 l9 y w0 w1 w2 w3 w4 w5 w6 w7 w8 w9 w10
    · exact r77_10g_9x ok P j m k f q1 q2 a s l0 l1 l2 l3 l4 l5 l6 l7 l8 l9 y w0 w1 w2 w3 w4 w5 w6 w7 w8 w9 w10
theorem rd7_10_9r : Rd7 10 9 .r := by
  constructor
  · intro z w hw ok P j m k f q1 q2 a s l hl
    obtain ⟨l0, l1, l2, l3, l4, l5, l6, l7, l8, l9, rfl⟩ := len10 hl
    obtain ⟨w0, w1, w2, w3, w4, w5, w6, w7, w8, w9, w10, rfl⟩ := len11 hw
    cases z
    · exact r77_10r_9r ok P j m k f q1 q2 a s l0 l1 l2 l3 l4 l5 l6 l7 l8 l9 w0 w1 w2 w3 w4 w5 w6 w7 w8 w9 w10
    · exact r77_10g_9r ok P j m k f q1 q2 a s l0 l1 l2 l3 l4 l5 l6 l7 l8 l9 w0 w1 w2 w3 w4 w5 w6 w7 w8 w9 w10
  · intro z w hw ok P j m k f q1 q2 a s y l hl
    obtain ⟨l0, l1, l2, l3, l4, l5, l6, l7, l8, l9, rfl⟩ := len10 hl
    obtain ⟨w0, w1, w2, w3, w4, w5, w6, w7, w8, w9, w10, rfl⟩ := len11 hw
    cases z
    · exact r77_10r_9x ok P j m k f q1 q2 a s l0 l1 l2 l3 l4 l5 l6 l7 l8 l9 y w0 w1 w2 w3 w4 w5 w6 w7 w8 w9 w10
    · exact r77_10g_9x ok P j m k f q1 q2 a s l0 l1 l2 l3 l4 l5 l6 l7 l8 l9 y w0 w1 w2 w3 w4 w5 w6 w7 w8 w9 w10
def FoAt (e : Nat) (q : Fo) : Prop := (e = 0 ∧ q = .o) ∨ (1 ≤ e ∧ (q = .g ∨ q = .r))
theorem hd7 {e : Nat} {q : Fo} (he : e ≤ 10) (hq : FoAt e q) : Hd7 e q := by
  have h : e = 0 ∨ e = 1 ∨ e = 2 ∨ e = 3 ∨ e = 4 ∨ e = 5 ∨ e = 6 ∨ e = 7 ∨ e = 8 ∨ e = 9 ∨ e = 10 := by omega
  rcases h with rfl | rfl | rfl | rfl | rfl | rfl | rfl | rfl | rfl | rfl | rfl
  · rcases hq with ⟨_, rfl⟩ | ⟨h, _⟩
    · exact hd7_o0
    · omega
  · rcases hq with ⟨h, _⟩ | ⟨_, rfl | rfl⟩
    · omega
    · exact hd7_g1
    · exact hd7_r1
  · rcases hq with ⟨h, _⟩ | ⟨_, rfl | rfl⟩
    · omega
    · exact hd7_g2
    · exact hd7_r2
  · rcases hq with ⟨h, _⟩ | ⟨_, rfl | rfl⟩
    · omega
    · exact hd7_g3
    · exact hd7_r3
  · rcases hq with ⟨h, _⟩ | ⟨_, rfl | rfl⟩
    · omega
    · exact hd7_g4
    · exact hd7_r4
  · rcases hq with ⟨h, _⟩ | ⟨_, rfl | rfl⟩
    · omega
    · exact hd7_g5
    · exact hd7_r5
  · rcases hq with ⟨h, _⟩ | ⟨_, rfl | rfl⟩
    · omega
    · exact hd7_g6
    · exact hd7_r6
  · rcases hq with ⟨h, _⟩ | ⟨_, rfl | rfl⟩
    · omega
    · exact hd7_g7
    · exact hd7_r7
  · rcases hq with ⟨h, _⟩ | ⟨_, rfl | rfl⟩
    · omega
    · exact hd7_g8
    · exact hd7_r8
  · rcases hq with ⟨h, _⟩ | ⟨_, rfl | rfl⟩
    · omega
    · exact hd7_g9
    · exact hd7_r9
  · rcases hq with ⟨h, _⟩ | ⟨_, rfl | rfl⟩
    · omega
    · exact hd7_g10
    · exact hd7_r10
theorem rd7_1 {e : Nat} {q : Fo} (he : e < 1) (hq : FoAt e q) : Rd7 1 e q := by
  have h : e = 0 := by omega
  rcases h with rfl
  · rcases hq with ⟨_, rfl⟩ | ⟨h, _⟩
    · exact rd7_1_0o
    · omega
theorem rd7_2 {e : Nat} {q : Fo} (he : e < 2) (hq : FoAt e q) : Rd7 2 e q := by
  have h : e = 0 ∨ e = 1 := by omega
  rcases h with rfl | rfl
  · rcases hq with ⟨_, rfl⟩ | ⟨h, _⟩
    · exact rd7_2_0o
    · omega
  · rcases hq with ⟨h, _⟩ | ⟨_, rfl | rfl⟩
    · omega
    · exact rd7_2_1g
    · exact rd7_2_1r
theorem rd7_3 {e : Nat} {q : Fo} (he : e < 3) (hq : FoAt e q) : Rd7 3 e q := by
  have h : e = 0 ∨ e = 1 ∨ e = 2 := by omega
  rcases h with rfl | rfl | rfl
  · rcases hq with ⟨_, rfl⟩ | ⟨h, _⟩
    · exact rd7_3_0o
    · omega
  · rcases hq with ⟨h, _⟩ | ⟨_, rfl | rfl⟩
    · omega
    · exact rd7_3_1g
    · exact rd7_3_1r
  · rcases hq with ⟨h, _⟩ | ⟨_, rfl | rfl⟩
    · omega
    · exact rd7_3_2g
    · exact rd7_3_2r
theorem rd7_4 {e : Nat} {q : Fo} (he : e < 4) (hq : FoAt e q) : Rd7 4 e q := by
  have h : e = 0 ∨ e = 1 ∨ e = 2 ∨ e = 3 := by omega
  rcases h with rfl | rfl | rfl | rfl
  · rcases hq with ⟨_, rfl⟩ | ⟨h, _⟩
    · exact rd7_4_0o
    · omega
  · rcases hq with ⟨h, _⟩ | ⟨_, rfl | rfl⟩
    · omega
    · exact rd7_4_1g
    · exact rd7_4_1r
  · rcases hq with ⟨h, _⟩ | ⟨_, rfl | rfl⟩
    · omega
    · exact rd7_4_2g
    · exact rd7_4_2r
  · rcases hq with ⟨h, _⟩ | ⟨_, rfl | rfl⟩
    · omega
    · exact rd7_4_3g
    · exact rd7_4_3r
theorem rd7_5 {e : Nat} {q : Fo} (he : e < 5) (hq : FoAt e q) : Rd7 5 e q := by
  have h : e = 0 ∨ e = 1 ∨ e = 2 ∨ e = 3 ∨ e = 4 := by omega
  rcases h with rfl | rfl | rfl | rfl | rfl
  · rcases hq with ⟨_, rfl⟩ | ⟨h, _⟩
    · exact rd7_5_0o
    · omega
  · rcases hq with ⟨h, _⟩ | ⟨_, rfl | rfl⟩
    · omega
    · exact rd7_5_1g
    · exact rd7_5_1r
  · rcases hq with ⟨h, _⟩ | ⟨_, rfl | rfl⟩
    · omega
    · exact rd7_5_2g
    · exact rd7_5_2r
  · rcases hq with ⟨h, _⟩ | ⟨_, rfl | rfl⟩
    · omega
    · exact rd7_5_3g
    · exact rd7_5_3r
  · rcases hq with ⟨h, _⟩ | ⟨_, rfl | rfl⟩
    · omega
    · exact rd7_5_4g
    · exact rd7_5_4r
theorem rd7_6 {e : Nat} {q : Fo} (he : e < 6) (hq : FoAt e q) : Rd7 6 e q := by
  have h : e = 0 ∨ e = 1 ∨ e = 2 ∨ e = 3 ∨ e = 4 ∨ e = 5 := by omega
  rcases h with rfl | rfl | rfl | rfl | rfl | rfl
  · rcases hq with ⟨_, rfl⟩ | ⟨h, _⟩
    · exact rd7_6_0o
    · omega
  · rcases hq with ⟨h, _⟩ | ⟨_, rfl | rfl⟩
    · omega
    · exact rd7_6_1g
    · exact rd7_6_1r
  · rcases hq with ⟨h, _⟩ | ⟨_, rfl | rfl⟩
    · omega
    · exact rd7_6_2g
    · exact rd7_6_2r
  · rcases hq with ⟨h, _⟩ | ⟨_, rfl | rfl⟩
    · omega
    · exact rd7_6_3g
    · exact rd7_6_3r
  · rcases hq with ⟨h, _⟩ | ⟨_, rfl | rfl⟩
    · omega
    · exact rd7_6_4g
    · exact rd7_6_4r
  · rcases hq with ⟨h, _⟩ | ⟨_, rfl | rfl⟩
    · omega
    · exact rd7_6_5g
    · exact rd7_6_5r
theorem rd7_7 {e : Nat} {q : Fo} (he : e < 7) (hq : FoAt e q) : Rd7 7 e q := by
  have h : e = 0 ∨ e = 1 ∨ e = 2 ∨ e = 3 ∨ e = 4 ∨ e = 5 ∨ e = 6 := by omega
  rcases h with rfl | rfl | rfl | rfl | rfl | rfl | rfl
  · rcases hq with ⟨_, rfl⟩ | ⟨h, _⟩
    · exact rd7_7_0o
    · omega
  · rcases hq with ⟨h, _⟩ | ⟨_, rfl | rfl⟩
    · omega
    · exact rd7_7_1g
    · exact rd7_7_1r
  · rcases hq with ⟨h, _⟩ | ⟨_, rfl | rfl⟩
    · omega
    · exact rd7_7_2g
    · exact rd7_7_2r
  · rcases hq with ⟨h, _⟩ | ⟨_, rfl | rfl⟩
    · omega
    · exact rd7_7_3g
    · exact rd7_7_3r
  · rcases hq with ⟨h, _⟩ | ⟨_, rfl | rfl⟩
    · omega
    · exact rd7_7_4g
    · exact rd7_7_4r
  · rcases hq with ⟨h, _⟩ | ⟨_, rfl | rfl⟩
    · omega
    · exact rd7_7_5g
    · exact rd7_7_5r
  · rcases hq with ⟨h, _⟩ | ⟨_, rfl | rfl⟩
    · omega
    · exact rd7_7_6g
    · exact rd7_7_6r
theorem rd7_8 {e : Nat} {q : Fo} (he : e < 8) (hq : FoAt e q) : Rd7 8 e q := by
  have h : e = 0 ∨ e = 1 ∨ e = 2 ∨ e = 3 ∨ e = 4 ∨ e = 5 ∨ e = 6 ∨ e = 7 := by omega
  rcases h with rfl | rfl | rfl | rfl | rfl | rfl | rfl | rfl
  · rcases hq with ⟨_, rfl⟩ | ⟨h, _⟩
    · exact rd7_8_0o
    · omega
  · rcases hq with ⟨h, _⟩ | ⟨_, rfl | rfl⟩
    · omega
    · exact rd7_8_1g
    · exact rd7_8_1r
  · rcases hq with ⟨h, _⟩ | ⟨_, rfl | rfl⟩
    · omega
    · exact rd7_8_2g
    · exact rd7_8_2r
  · rcases hq with ⟨h, _⟩ | ⟨_, rfl | rfl⟩
    · omega
    · exact rd7_8_3g
    · exact rd7_8_3r
  · rcases hq with ⟨h, _⟩ | ⟨_, rfl | rfl⟩
    · omega
    · exact rd7_8_4g
    · exact rd7_8_4r
  · rcases hq with ⟨h, _⟩ | ⟨_, rfl | rfl⟩
    · omega
    · exact rd7_8_5g
    · exact rd7_8_5r
  · rcases hq with ⟨h, _⟩ | ⟨_, rfl | rfl⟩
    · omega
    · exact rd7_8_6g
    · exact rd7_8_6r
  · rcases hq with ⟨h, _⟩ | ⟨_, rfl | rfl⟩
    · omega
    · exact rd7_8_7g
    · exact rd7_8_7r
theorem rd7_9 {e : Nat} {q : Fo} (he : e < 9) (hq : FoAt e q) : Rd7 9 e q := by
  have h : e = 0 ∨ e = 1 ∨ e = 2 ∨ e = 3 ∨ e = 4 ∨ e = 5 ∨ e = 6 ∨ e = 7 ∨ e = 8 := by omega
  rcases h with rfl | rfl | rfl | rfl | rfl | rfl | rfl | rfl | rfl
  · rcases hq with ⟨_, rfl⟩ | ⟨h, _⟩
    · exact rd7_9_0o
    · omega
  · rcases hq with ⟨h, _⟩ | ⟨_, rfl | rfl⟩
    · omega
    · exact rd7_9_1g
    · exact rd7_9_1r
  · rcases hq with ⟨h, _⟩ | ⟨_, rfl | rfl⟩
    · omega
    · exact rd7_9_2g
    · exact rd7_9_2r
  · rcases hq with ⟨h, _⟩ | ⟨_, rfl | rfl⟩
    · omega
    · exact rd7_9_3g
    · exact rd7_9_3r
  · rcases hq with ⟨h, _⟩ | ⟨_, rfl | rfl⟩
    · omega
    · exact rd7_9_4g
    · exact rd7_9_4r
  · rcases hq with ⟨h, _⟩ | ⟨_, rfl | rfl⟩
    · omega
    · exact rd7_9_5g
    · exact rd7_9_5r
  · rcases hq with ⟨h, _⟩ | ⟨_, rfl | rfl⟩
    · omega
    · exact rd7_9_6g
    · exact rd7_9_6r
  · rcases hq with ⟨h, _⟩ | ⟨_, rfl | rfl⟩
    · omega
    · exact rd7_9_7g
    · exact rd7_9_7r
  · rcases hq with ⟨h, _⟩ | ⟨_, rfl | rfl⟩
    · omega
    · exact rd7_9_8g
    · exact rd7_9_8r
theorem rd7_10 {e : Nat} {q : Fo} (he : e < 10) (hq : FoAt e q) : Rd7 10 e q := by
  have h : e = 0 ∨ e = 1 ∨ e = 2 ∨ e = 3 ∨ e = 4 ∨ e = 5 ∨ e = 6 ∨ e = 7 ∨ e = 8 ∨ e = 9 := by omega
  rcases h with rfl | rfl | rfl | rfl | rfl | rfl | rfl | rfl | rfl | rfl
  · rcases hq with ⟨_, rfl⟩ | ⟨h, _⟩
    · exact rd7_10_0o
    · omega
  · rcases hq with ⟨h, _⟩ | ⟨_, rfl | rfl⟩
    · omega
    · exact rd7_10_1g
    · exact rd7_10_1r
  · rcases hq with ⟨h, _⟩ | ⟨_, rfl | rfl⟩
    · omega
    · exact rd7_10_2g
    · exact rd7_10_2r
  · rcases hq with ⟨h, _⟩ | ⟨_, rfl | rfl⟩
    · omega
    · exact rd7_10_3g
    · exact rd7_10_3r
  · rcases hq with ⟨h, _⟩ | ⟨_, rfl | rfl⟩
    · omega
    · exact rd7_10_4g
    · exact rd7_10_4r
  · rcases hq with ⟨h, _⟩ | ⟨_, rfl | rfl⟩
    · omega
    · exact rd7_10_5g
    · exact rd7_10_5r
  · rcases hq with ⟨h, _⟩ | ⟨_, rfl | rfl⟩
    · omega
    · exact rd7_10_6g
    · exact rd7_10_6r
  · rcases hq with ⟨h, _⟩ | ⟨_, rfl | rfl⟩
    · omega
    · exact rd7_10_7g
    · exact rd7_10_7r
  · rcases hq with ⟨h, _⟩ | ⟨_, rfl | rfl⟩
    · omega
    · exact rd7_10_8g
    · exact rd7_10_8r
  · rcases hq with ⟨h, _⟩ | ⟨_, rfl | rfl⟩
    · omega
    · exact rd7_10_9g
    · exact rd7_10_9r
theorem rd7 {D e : Nat} {q : Fo} (hD : D ≤ 10) (he : e < D) (hq : FoAt e q) : Rd7 D e q := by
  have h : D = 1 ∨ D = 2 ∨ D = 3 ∨ D = 4 ∨ D = 5 ∨ D = 6 ∨ D = 7 ∨ D = 8 ∨ D = 9 ∨ D = 10 := by omega
  rcases h with rfl | rfl | rfl | rfl | rfl | rfl | rfl | rfl | rfl | rfl
  · exact rd7_1 he hq
  · exact rd7_2 he hq
  · exact rd7_3 he hq
  · exact rd7_4 he hq
  · exact rd7_5 he hq
  · exact rd7_6 he hq
  · exact rd7_7 he hq
  · exact rd7_8 he hq
  · exact rd7_9 he hq
  · exact rd7_10 he hq
end Go.Proofs.Ytjfopbpkophoeaa

/- Chapter 06: what Trip's closure (77) answers, and what it leaves in memory. -/
namespace Go.Proofs.Ytjfopbpkophoeaa
open Go Go.AE
set_option maxRecDepth 100000
def P7 (k : Nat) (f : Nat → Int) (ds : List DV) : Nat → Int := match ds with
  | [_, .int _ n] => pw k f n.toNat
  | _ => f
noncomputable abbrev ok7 (k : Nat) (f : Nat → Int) : Nat → List DV → Bool := okS fun _ ds => .agg (mx25 k (P7 k f ds))
theorem g62 {k : Nat} (h1 : 1 ≤ k) (h5 : k ≤ 5) (f : Nat → Int) (n : Nat) (hn : n ≤ 1000) : ok7 k f 62 [.agg (mx25 k f), iD (n : Int)] = true := okS_is (by
  show PureOK Try.prog 62 _ (.agg (mx25 k (pw k f ((n : Int)).toNat)))
  rw [Int.toNat_natCast]
  exact c62 h1 h5 f n hn)
theorem mx_at (k : Nat) (f : Nat → Int) : ∀ i, i < 25 → nth (mx25 k f) (i + 1) = some (iD (f i))
  | 0, _ => rfl | 1, _ => rfl | 2, _ => rfl | 3, _ => rfl | 4, _ => rfl | 5, _ => rfl | 6, _ => rfl | 7, _ => rfl | 8, _ => rfl | 9, _ => rfl
  | 10, _ => rfl | 11, _ => rfl | 12, _ => rfl | 13, _ => rfl | 14, _ => rfl | 15, _ => rfl | 16, _ => rfl | 17, _ => rfl | 18, _ => rfl | 19, _ => rfl
  | 20, _ => rfl | 21, _ => rfl | 22, _ => rfl | 23, _ => rfl | 24, _ => rfl
  | n + 25, h => absurd h (by omega)
theorem mx_tail (k : Nat) (f : Nat → Int) (i : Nat) (h : i < 25) : nth (mx25 k f).tail i = some (iD (f i)) := mx_at k f i h
theorem nth5 (x1 x2 x3 x4 x5 : Int) (g : Nat → Int) (h1 : x1 = g 0) (h2 : x2 = g 1) (h3 : x3 = g 2) (h4 : x4 = g 3) (h5 : x5 = g 4) : ∀ j, j < 5 → nth [iD x1, iD x2, iD x3, iD x4, iD x5] j = some (iD (g j))
  | 0, _ => by subst h1; rfl
  | 1, _ => by subst h2; rfl
  | 2, _ => by subst h3; rfl
  | 3, _ => by subst h4; rfl
  | 4, _ => by subst h5; rfl
  | n + 5, h => absurd h (by omega)
theorem W77_ok {X : Type} {k : Nat} (h1 : 1 ≤ k) (h5 : k ≤ 5) {f : Nat → Int} (hf : ∀ i < 25, 0 ≤ f i ∧ f i ≤ 9) {j : Nat} (hj : j < k) {a : Nat} (ha : a < k) {D e n : Nat} (he : e + n = D) (hD : D ≤ 10) (zero full loop : Option X) :
    W77 (ok7 k f) (P7 k f) k f (j : Int) (D : Int) (a : Int) ((e + 1 : Nat) : Int) zero full loop = bif reach k f j n a then (bif Nat.beq n 0 then full else loop) else zero := by
  unfold W77
  have hn : IntKind.wrap .i64 (IntKind.wrap .i64 ((D : Int) + 1) - ((e + 1 : Nat) : Int)) = (n : Int) := by
    rw [wrap64_o (n := (D : Int) + 1) (by omega) (by omega), wrap64_o (by omega) (by omega)]; omega
  rw [hn, g62 h1 h5 f n (by omega)]
  have hp : P7 k f [.agg (mx25 k f), iD (n : Int)] = pw k f n := by
    show pw k f ((n : Int)).toNat = _
    rw [Int.toNat_natCast]
  rw [hp]
  simp only [cond_true, Int.toNat_natCast, Nat.mul_one]
  have hi : inRange (a : Int) 5 = true := by simp [inRange]; omega
  have hi2 : inRange (j : Int) 5 = true := by simp [inRange]; omega
  rw [hi, hi2]
  simp only [cond_true]
  rw [mx_tail _ _ _ (by omega), mx_tail _ _ _ (by omega), mx_tail _ _ _ (by omega), mx_tail _ _ _ (by omega), mx_tail _ _ _ (by omega)]
  simp only [getI_some]
  rw [nth5 (pw k f n (a * 5)) (pw k f n (a * 5 + 1)) (pw k f n (a * 5 + 1 + 1)) (pw k f n (a * 5 + 1 + 1 + 1)) (pw k f n (a * 5 + 1 + 1 + 1 + 1)) (fun c => pw k f n (a * 5 + c)) rfl rfl rfl rfl rfl j (by omega), getI_some]
  have hpo := (pw_ok h5 hf hj n (by omega) a ha).2.2
  rw [show a * 5 + j = 5 * a + j by omega]
  have hz : decide ((n : Int) = 0) = Nat.beq n 0 := by
    cases n with
    | zero => rfl
    | succ n => exact (decide_eq_false (by omega)).trans rfl
  rw [hz]
  cases hr : reach k f j n a with
  | true =>
    have := hpo.2 hr
    rw [decide_eq_false this]; rfl
  | false =>
    have : pw k f n (5 * a + j) = 0 := by
      apply Classical.byContradiction
      intro hc
      rw [hpo.1 hc] at hr; cases hr
    rw [decide_eq_true this]; rfl
theorem V77_ok {X : Type} {k : Nat} (h5 : k ≤ 5) (f : Nat → Int) {a s : Nat} (ha : a < k) (hs : s < k) (skip call out : Option X) : V77 k f (a : Int) (s : Int) skip call out = bif decide (f (5 * a + s) = 0) then skip else call := by
  unfold V77
  have hi : inRange (a : Int) 5 = true := by simp [inRange]; omega
  have hi2 : inRange (s : Int) 5 = true := by simp [inRange]; omega
  rw [decide_eq_true (show (s : Int) < (k : Int) by omega), hi, hi2]
  simp only [cond_true, Int.toNat_natCast, Nat.mul_one]
  rw [show 1 + a * 5 + s = (5 * a + s) + 1 by omega, mx_at _ _ _ (by omega), getI_some]
theorem F77_ok (q1 q2 : List AV → List Blk → Bool) {Z : List Blk} (h2 : ∀ xs h, q2 xs h = true → CallOK Try.prog 77 xs h (.d (bD true)) Z) (h1 : ∀ xs h, q1 xs h = true → CallOK Try.prog 77 xs h (.d (bD false)) h) : RulesFOK Try.prog (F77 q1 q2 Z) := by
  refine ⟨fun xs h v h' e => ?_, trivial⟩
  simp only [Tr.val] at e
  rcases cond_some e with ⟨c, e⟩ | ⟨_, e⟩
  · cases e; exact h2 xs h c
  · obtain ⟨c, e⟩ := cond_none e
    cases e; exact h1 xs h c
theorem ev7_ok (k : Nat) (P : List DV → Nat → Int) {F : List (Nat × RuleF)} (hF : RulesFOK Try.prog F) : EvOK Try.prog (ev7 (okS fun _ ds => .agg (mx25 k (P ds))) k P F) :=
  ⟨(evT_ok fun _ ds => .agg (mx25 k (P ds))).pure, (evK_ok (L := []) (F := F) trivial hF).fn, (evK_ok (L := []) (F := F) trivial hF).calm, (evT_ok fun _ ds => .agg (mx25 k (P ds))).round⟩
def lastD : List DV → Int
  | [] => 0
  | [.int _ n] => n
  | _ :: r => lastD r
def lastO : Blk → Int
  | .dc cs => lastD cs
  | _ => 0
def lastB : List Blk → Int
  | [] => 0
  | b :: r => match r with
    | [] => lastO b
    | _ :: _ => lastB r
theorem lastD_app : ∀ (l : List Int) (s : Int), lastD (ints (l ++ [s])) = s
  | [], s => rfl
  | [x], s => rfl
  | x :: y :: l, s => by
    show lastD (iD x :: iD y :: ints (l ++ [s])) = s
    have := lastD_app (y :: l) s
    exact this
theorem lastB_rep : ∀ (n : Nat) (cs : List DV), lastB (List.replicate n .dead ++ [.dc cs]) = lastD cs
  | 0, cs => rfl
  | n + 1, cs => by
    rw [List.replicate_succ, List.cons_append]
    cases n with
    | zero => rfl
    | succ n =>
      have := lastB_rep (n + 1) cs
      rw [List.replicate_succ, List.cons_append] at this ⊢
      exact this
theorem lastB_G {j m : Int} {k : Nat} {f : Nat → Int} {O : Blk} (T : List Blk) (cs : List DV) (n : Nat) (hT : T = List.replicate n .dead ++ [.dc cs]) : lastB (G7 j m k f O T) = lastD cs := by
  subst hT
  have h := lastB_rep n cs
  unfold G7
  cases n with
  | zero => exact h
  | succ n =>
    rw [List.replicate_succ, List.cons_append] at h ⊢
    exact h
theorem lastB_g (j m : Int) (k : Nat) (f : Nat → Int) (e : Nat) (l : List Int) (s : Int) : lastB (hp j m k f .g e (l ++ [s])) = s := (lastB_G _ _ (e - 1) rfl).trans (lastD_app l s)
theorem lastB_r (j m : Int) (k : Nat) (f : Nat → Int) (e : Nat) (l : List Int) (s : Int) : lastB (hp j m k f .r e (l ++ [s])) = s := (lastB_G _ _ (e - 1) rfl).trans (lastD_app l s)
/-- The search for the next state, once the list was cut. -/
theorem loopX {k : Nat} (h5 : k ≤ 5) {f : Nat → Int} {a : Nat} (ha : a < k) {b : Nat} {E : Ev} {q1 q2 : List AV → List Blk → Bool} {Zo : List Blk} {HX CR : Int → List Blk} {g : Nat} (hg : g < k) (hfg : f (5 * a + g) ≠ 0)
    (rX : ∀ y s : Int, startS aeC6 E 77 b Try.f77 (some 0) (s77 a k s (HX y)) (roundD aeC6 77 b 0) = V77 k f a s (some (.norm, s77 a k (IntKind.wrap .i64 (s + 1)) (HX y))) (C77 q1 q2 Zo (CR s) (some (.norm, s77 a k (IntKind.wrap .i64 (s + 1)) (HX s)))) (some (.exit 0, ⟨[], HX y, []⟩)))
    (h2 : ∀ s : Nat, s < g → q2 a7 (CR s) = false) (h1 : ∀ s : Nat, s < g → f (5 * a + s) ≠ 0 → q1 a7 (CR s) = true) (hq : q2 a7 (CR g) = true) :
    ∀ (t s : Nat) (y : Int), s + t = g → LoopAt aeC6 E 77 b Try.f77 0 (s77 a k s (HX y)) .ret ⟨[(5, .d (bD true))], Zo, []⟩
  | 0, s, y, hs => by
    have : s = g := by omega
    subst this
    refine .out k77_0 (by simp) ((rX y s).trans ((V77_ok h5 f ha hg ..).trans ?_))
    rw [decide_eq_false hfg]
    unfold C77
    rw [hq]; rfl
  | t + 1, s, y, hs => by
    have hw : IntKind.wrap .i64 ((s : Int) + 1) = ((s + 1 : Nat) : Int) := by rw [wrap64_o (by omega) (by omega)]; rfl
    have hr := (rX y s).trans (V77_ok h5 f ha (show s < k by omega) ..)
    rw [hw] at hr
    by_cases hz : f (5 * a + s) = 0
    · rw [decide_eq_true hz] at hr
      exact .next k77_0 hr (loopX h5 ha hg hfg rX h2 h1 hq t (s + 1) y (by omega))
    · rw [decide_eq_false hz] at hr
      unfold C77 at hr
      rw [h2 s (by omega), h1 s (by omega) hz] at hr
      exact .next k77_0 hr (loopX h5 ha hg hfg rX h2 h1 hq t (s + 1) s (by omega))
/-- The search for the next state. -/
theorem loopE {k : Nat} (h5 : k ≤ 5) {f : Nat → Int} {a : Nat} (ha : a < k) {b : Nat} {E : Ev} {q1 q2 : List AV → List Blk → Bool} {Zo HE : List Blk} {HX CR CG : Int → List Blk} {g : Nat} (hg : g < k) (hfg : f (5 * a + g) ≠ 0)
    (rE : ∀ s : Int, startS aeC6 E 77 b Try.f77 (some 0) (s77 a k s HE) (roundD aeC6 77 b 0) = V77 k f a s (some (.norm, s77 a k (IntKind.wrap .i64 (s + 1)) HE)) (C77 q1 q2 Zo (CG s) (some (.norm, s77 a k (IntKind.wrap .i64 (s + 1)) (HX s)))) (some (.exit 0, ⟨[], HE, []⟩)))
    (rX : ∀ y s : Int, startS aeC6 E 77 b Try.f77 (some 0) (s77 a k s (HX y)) (roundD aeC6 77 b 0) = V77 k f a s (some (.norm, s77 a k (IntKind.wrap .i64 (s + 1)) (HX y))) (C77 q1 q2 Zo (CR s) (some (.norm, s77 a k (IntKind.wrap .i64 (s + 1)) (HX s)))) (some (.exit 0, ⟨[], HX y, []⟩)))
    (h2 : ∀ s : Nat, s < g → q2 a7 (CR s) = false ∧ q2 a7 (CG s) = false) (h1 : ∀ s : Nat, s < g → f (5 * a + s) ≠ 0 → q1 a7 (CR s) = true ∧ q1 a7 (CG s) = true)
    (hq : ((∀ s : Nat, s < g → f (5 * a + s) = 0) ∧ q2 a7 (CG g) = true) ∨ ((∃ s : Nat, s < g ∧ f (5 * a + s) ≠ 0) ∧ q2 a7 (CR g) = true)) :
    ∀ (t s : Nat), s + t = g → (∀ s' : Nat, s' < s → f (5 * a + s') = 0) → LoopAt aeC6 E 77 b Try.f77 0 (s77 a k s HE) .ret ⟨[(5, .d (bD true))], Zo, []⟩
  | 0, s, hs, hz => by
    have : s = g := by omega
    subst this
    refine .out k77_0 (by simp) ((rE s).trans ((V77_ok h5 f ha hg ..).trans ?_))
    rw [decide_eq_false hfg]
    unfold C77
    rcases hq with ⟨_, hq⟩ | ⟨⟨s', h3, h4⟩, _⟩
    · rw [hq]; rfl
    · exact absurd (hz s' h3) h4
  | t + 1, s, hs, hz => by
    have hw : IntKind.wrap .i64 ((s : Int) + 1) = ((s + 1 : Nat) : Int) := by rw [wrap64_o (by omega) (by omega)]; rfl
    have hr := (rE s).trans (V77_ok h5 f ha (show s < k by omega) ..)
    rw [hw] at hr
    by_cases hz' : f (5 * a + s) = 0
    · rw [decide_eq_true hz'] at hr
      refine .next k77_0 hr (loopE h5 ha hg hfg rE rX h2 h1 hq t (s + 1) (by omega) fun s' h => ?_)
      rcases Nat.lt_or_ge s' s with h6 | h6
      · exact hz s' h6
      · have : s' = s := by omega
        subst this; exact hz'
    · rw [decide_eq_false hz'] at hr
      unfold C77 at hr
      rw [(h2 s (by omega)).2, (h1 s (by omega) hz').2] at hr
      refine .next k77_0 hr (loopX h5 ha hg hfg rX (fun s h => (h2 s h).1) (fun s h h' => (h1 s h h').1) ?_ t (s + 1) s (by omega))
      rcases hq with ⟨h3, _⟩ | ⟨_, hq⟩
      · exact absurd (h3 s (by omega)) hz'
      · exact hq
theorem e77 (ok : Nat → List DV → Bool) (P : List DV → Nat → Int) (F : List (Nat × RuleF)) (j m : Int) (k : Nat) (f : Nat → Int) (O : Blk) (T : List Blk) (b : Nat) : nextS aeC6 (ev7 ok k P F) 77 b Try.f77 none 0 .ret ⟨[(5, .d (bD true))], (G7 j m k f O T), []⟩ (doneE aeC6 Try.f77 b fun v h => some (v, h)) = some (.d (bD true), G7 j m k f O T) := by kernel_rfl
theorem hz_G (j m : Int) (k : Nat) (f : Nat → Int) (q : Fo) (e : Nat) (L : List Int) : ∃ O T, hz j m k f q e L = G7 j m k f O T := by cases q <;> exact ⟨_, _, rfl⟩
theorem hp_len (j m : Int) (k : Nat) (f : Nat → Int) {q : Fo} {e : Nat} (hq : FoAt e q) (L : List Int) : (hp j m k f q e L).length = 5 + e := by
  rcases hq with ⟨rfl, rfl⟩ | ⟨h, rfl | rfl⟩
  · rfl
  · simp only [hp, G7, List.length_cons, List.length_append, List.length_replicate, List.length_nil]; omega
  · simp only [hp, G7, List.length_cons, List.length_append, List.length_replicate, List.length_nil]; omega
theorem hp_hz (j m : Int) (k : Nat) (f : Nat → Int) {e : Nat} {z : Bool} {L : List Int} (hL : L.length = e + 1) : hp j m k f (zf z) e L = hz j m k f (zf z) e L := by
  cases z
  · show hp j m k f .r e L = hz j m k f .r e L
    simp only [hp, hz, hL]
  · rfl
/-- What the closure answers with e + 1 states in the list, n before the end. -/
theorem c77 {k : Nat} (h1 : 1 ≤ k) (h5 : k ≤ 5) {f : Nat → Int} (hf : ∀ i < 25, 0 ≤ f i ∧ f i ≤ 9) {j : Nat} (hj : j < k) {D : Nat} (hD : D ≤ 10) : ∀ (n e : Nat) (q : Fo) (l : List Int) (a : Nat), e + n = D → FoAt e q → l.length = e → a < k →
    (reach k f j n a = false → CallOK Try.prog 77 a7 (hp j D k f q e (l ++ [(a : Int)])) (.d (bD false)) (hp j D k f q e (l ++ [(a : Int)]))) ∧
    (reach k f j n a = true → (n = 0 → CallOK Try.prog 77 a7 (hp j D k f q e (l ++ [(a : Int)])) (.d (bD true)) (hp j D k f q e (l ++ [(a : Int)]))) ∧
      (n ≠ 0 → ∃ z, CallOK Try.prog 77 a7 (hp j D k f q e (l ++ [(a : Int)])) (.d (bD true)) (hz j D k f (zf z) (e + 1) ((l ++ [(a : Int)]) ++ (trip k f j n a).map Int.ofNat)))) := by
  intro n
  induction n with
  | zero =>
    intro e q l a he hq hl ha
    have hlen := hp_len (j : Int) (D : Int) k f hq (l ++ [(a : Int)])
    have hb : (Try.f77.body.isSome && Nat.ble a7.length Try.f77.ntmps) = true := by kernel_rfl
    have dn := ((hd7 (by omega) hq).dn (ok7 k f) (P7 k f) j D k f [] l a hl).trans (W77_ok h1 h5 hf hj ha he hD _ _ _)
    refine ⟨fun hr => ?_, fun hr => ⟨fun _ => ?_, fun h => absurd rfl h⟩⟩
    · rw [hr] at dn
      exact ae_call6 (ev7_ok k (P7 k f) (F := []) trivial) (fn := Try.f77) k77 (by kernel_rfl) hb (by rw [hlen]; exact startF_done k77 done_plain dn)
    · rw [hr] at dn
      exact ae_call6 (ev7_ok k (P7 k f) (F := []) trivial) (fn := Try.f77) k77 (by kernel_rfl) hb (by rw [hlen]; exact startF_done k77 done_plain dn)
  | succ n ih =>
    intro e q l a he hq hl ha
    have hlen := hp_len (j : Int) (D : Int) k f hq (l ++ [(a : Int)])
    have hb : (Try.f77.body.isSome && Nat.ble a7.length Try.f77.ntmps) = true := by kernel_rfl
    have dn := ((hd7 (by omega) hq).dn (ok7 k f) (P7 k f) j D k f [] l a hl).trans (W77_ok h1 h5 hf hj ha he hD _ _ _)
    refine ⟨fun hr => ?_, fun hr => ⟨fun h => absurd h (by omega), fun _ => ?_⟩⟩
    · rw [hr] at dn
      exact ae_call6 (ev7_ok k (P7 k f) (F := []) trivial) (fn := Try.f77) k77 (by kernel_rfl) hb (by rw [hlen]; exact startF_done k77 done_plain dn)
    · obtain ⟨g1, g2, g3, g4⟩ := nxt_ok hr
      have hL : (l ++ [(a : Int)]).length = e + 1 := by simp [hl]
      have qG : FoAt (e + 1) .g := .inr ⟨by omega, .inl rfl⟩
      have qR : FoAt (e + 1) .r := .inr ⟨by omega, .inr rfl⟩
      -- those ahead of the next state lead nowhere
      have no : ∀ s : Nat, s < nxt k f j n a → f (5 * a + s) ≠ 0 → reach k f j n s = false := fun s hs hfs => by
        have := g4 s hs
        have h0 := (hf (5 * a + s) (by omega)).1
        simp only [stepB, Bool.and_eq_false_iff, decide_eq_false_iff_not] at this
        rcases this with h | h
        · exact absurd (show 0 < f (5 * a + s) by omega) h
        · exact h
      have fin : ∀ q' : Fo, FoAt (e + 1) q' → (q' = .g ∨ q' = .r) → ∃ z, CallOK Try.prog 77 a7 (hp j D k f q' (e + 1) ((l ++ [(a : Int)]) ++ [((nxt k f j n a : Nat) : Int)])) (.d (bD true)) (hz j D k f (zf z) (zin D e) ((l ++ [(a : Int)]) ++ (trip k f j (n + 1) a).map Int.ofNat)) := by
        intro q' hq' hgr
        obtain ⟨_, h4⟩ := ih (e + 1) q' (l ++ [(a : Int)]) (nxt k f j n a) (by omega) hq' hL g1
        obtain ⟨h6, h7⟩ := h4 g3
        by_cases hn : n = 0
        · have h8 := h6 hn
          subst hn
          have hzD : zin D e = e + 1 := by
            have : Nat.beq (e + 1) D = true := by rw [show e + 1 = D by omega]; exact Nat.beq_refl D
            unfold zin; rw [this]; simp only [cond_true]; omega
          have ht : (trip k f j (0 + 1) a).map Int.ofNat = [((nxt k f j 0 a : Nat) : Int)] := rfl
          rw [hzD, ht]
          have hLL : ((l ++ [(a : Int)]) ++ [((nxt k f j 0 a : Nat) : Int)]).length = e + 1 + 1 := by simp [hl]
          rcases hgr with rfl | rfl
          · exact ⟨true, by rw [← hp_hz _ _ _ _ (z := true) hLL]; exact h8⟩
          · exact ⟨false, by rw [← hp_hz _ _ _ _ (z := false) hLL]; exact h8⟩
        · obtain ⟨z, h8⟩ := h7 hn
          have hzD : zin D e = e + 2 := by
            have : Nat.beq (e + 1) D = false := by
              cases hb : Nat.beq (e + 1) D with
              | false => rfl
              | true => have := Nat.eq_of_beq_eq_true hb; omega
            unfold zin; rw [this]; rfl
          refine ⟨z, ?_⟩
          rw [hzD]
          have ht : ((l ++ [(a : Int)]) ++ [((nxt k f j n a : Nat) : Int)]) ++ (trip k f j n (nxt k f j n a)).map Int.ofNat = (l ++ [(a : Int)]) ++ (trip k f j (n + 1) a).map Int.ofNat := by
            show _ = (l ++ [(a : Int)]) ++ (Int.ofNat (nxt k f j n a) :: (trip k f j n (nxt k f j n a)).map Int.ofNat)
            rw [List.append_assoc]
            rfl
          rw [← ht]; exact h8
      have hw : ((l ++ [(a : Int)]) ++ (trip k f j (n + 1) a).map Int.ofNat).length = D + 1 := by simp [hl, trip_len]; omega
      -- which call finds the way
      have key : ∃ z, ((∀ s : Nat, s < nxt k f j n a → f (5 * a + s) = 0) ∧ CallOK Try.prog 77 a7 (hp j D k f .g (e + 1) ((l ++ [(a : Int)]) ++ [((nxt k f j n a : Nat) : Int)])) (.d (bD true)) (hz j D k f (zf z) (zin D e) ((l ++ [(a : Int)]) ++ (trip k f j (n + 1) a).map Int.ofNat))) ∨
          ((∃ s : Nat, s < nxt k f j n a ∧ f (5 * a + s) ≠ 0) ∧ CallOK Try.prog 77 a7 (hp j D k f .r (e + 1) ((l ++ [(a : Int)]) ++ [((nxt k f j n a : Nat) : Int)])) (.d (bD true)) (hz j D k f (zf z) (zin D e) ((l ++ [(a : Int)]) ++ (trip k f j (n + 1) a).map Int.ofNat))) := by
        by_cases hx : ∃ s : Nat, s < nxt k f j n a ∧ f (5 * a + s) ≠ 0
        · obtain ⟨z, h⟩ := fin .r qR (.inr rfl)
          exact ⟨z, .inr ⟨hx, h⟩⟩
        · obtain ⟨z, h⟩ := fin .g qG (.inl rfl)
          refine ⟨z, .inl ⟨fun s hs => ?_, h⟩⟩
          apply Classical.byContradiction
          intro hc; exact hx ⟨s, hs, hc⟩
      obtain ⟨z, key⟩ := key
      refine ⟨z, ?_⟩
      let W := (l ++ [(a : Int)]) ++ (trip k f j (n + 1) a).map Int.ofNat
      let q1 : List AV → List Blk → Bool := fun xs h => isP (CallOK Try.prog 77 xs h (.d (bD false)) h)
      let q2 : List AV → List Blk → Bool := fun xs h => isP (CallOK Try.prog 77 xs h (.d (bD true)) (hz j D k f (zf z) (zin D e) W)) && decide (lastB h = ((nxt k f j n a : Nat) : Int))
      have hF : RulesFOK Try.prog (F77 q1 q2 (hz j D k f (zf z) (zin D e) W)) := F77_ok q1 q2 (fun xs h hq => isP_iff.1 (Bool.and_eq_true_iff.1 hq).1) (fun xs h hq => isP_iff.1 hq)
      have hd := ((hd7 (by omega) hq).hd (ok7 k f) (P7 k f) j D k f (F77 q1 q2 (hz j D k f (zf z) (zin D e) W)) l a hl).trans (W77_ok h1 h5 hf hj ha he hD _ _ _)
      rw [hr] at hd
      have rd := rd7 (q := q) hD (show e < D by omega) hq
      have hlo := loopE h5 ha g1 (by omega) (fun s => rd.rE z W hw (ok7 k f) (P7 k f) j D k f q1 q2 a s (l ++ [(a : Int)]) hL) (fun y s => rd.rX z W hw (ok7 k f) (P7 k f) j D k f q1 q2 a s y (l ++ [(a : Int)]) hL)
        (fun s hs => by
          have n1 : decide ((s : Int) = ((nxt k f j n a : Nat) : Int)) = false := decide_eq_false (by omega)
          constructor
          · show (isP _ && decide (lastB (hp _ _ _ _ .r _ _) = _)) = false
            rw [lastB_r, n1, Bool.and_false]
          · show (isP _ && decide (lastB (hp _ _ _ _ .g _ _) = _)) = false
            rw [lastB_g, n1, Bool.and_false])
        (fun s hs hfs => by
          have hrs := no s hs hfs
          exact ⟨isP_iff.2 ((ih (e + 1) .r (l ++ [(a : Int)]) s (by omega) qR hL (by omega)).1 hrs), isP_iff.2 ((ih (e + 1) .g (l ++ [(a : Int)]) s (by omega) qG hL (by omega)).1 hrs)⟩)
        (by
          rcases key with ⟨k1, k2⟩ | ⟨k1, k2⟩
          · refine .inl ⟨k1, ?_⟩
            show (isP _ && decide (lastB (hp _ _ _ _ .g _ _) = _)) = true
            rw [lastB_g, decide_eq_true rfl, Bool.and_true]
            exact isP_iff.2 k2
          · refine .inr ⟨k1, ?_⟩
            show (isP _ && decide (lastB (hp _ _ _ _ .r _ _) = _)) = true
            rw [lastB_r, decide_eq_true rfl, Bool.and_true]
            exact isP_iff.2 k2)
        (nxt k f j n a) 0 (by omega) (fun s' h => absurd h (by omega))
      obtain ⟨O, T, hG⟩ := hz_G (j : Int) (D : Int) k f (zf z) (e + 1) W
      refine ae_call6 (ev7_ok k (P7 k f) hF) (fn := Try.f77) k77 (by kernel_rfl) hb ?_
      rw [hlen]
      refine (startF_seg k77 hd hlo).trans (nextF_done k77 done_plain ?_)
      show nextS aeC6 _ 77 _ Try.f77 none 0 .ret ⟨_, hz j D k f (zf z) (e + 1) W, []⟩ _ = some (_, hz j D k f (zf z) (e + 1) W)
      rw [hG]
      exact e77 ..
end Go.Proofs.Ytjfopbpkophoeaa

/- Chapter 06: sets of states that are reached (76). -/
namespace Go.Proofs.Ytjfopbpkophoeaa
open Go Go.AE
set_option maxRecDepth 100000
theorem reach_snoc {k : Nat} {f : Nat → Int} {j : Nat} (hj : j < k) : ∀ (n i : Nat), i < k → (reach k f j (n + 1) i = true ↔ ∃ y, y < k ∧ reach k f y n i = true ∧ 0 < f (5 * y + j))
  | 0, i, hi => by
    rw [reach_succ]
    constructor
    · rintro ⟨x, h1, h2, h3⟩
      have : x = j := Nat.eq_of_beq_eq_true h3
      subst this
      exact ⟨i, hi, Nat.beq_refl i, h2⟩
    · rintro ⟨y, h1, h2, h3⟩
      have : i = y := Nat.eq_of_beq_eq_true h2
      subst this
      exact ⟨j, hj, h3, Nat.beq_refl j⟩
  | n + 1, i, hi => by
    rw [reach_succ]
    constructor
    · rintro ⟨x, h1, h2, h3⟩
      obtain ⟨y, h4, h5, h6⟩ := (reach_snoc hj n x h1).1 h3
      exact ⟨y, h4, reach_succ.2 ⟨x, h1, h2, h5⟩, h6⟩
    · rintro ⟨y, h4, h5, h6⟩
      obtain ⟨x, h1, h2, h3⟩ := reach_succ.1 h5
      exact ⟨x, h1, h2, (reach_snoc hj n x h1).2 ⟨y, h4, h3, h6⟩⟩
/-! ### The walk of reached (76) -/
theorem wr1 {n : Nat} (h : n ≤ 1000) : IntKind.wrap .i64 ((n : Int) + 1) = ((n + 1 : Nat) : Int) := by rw [wrap64_o (by omega) (by omega)]; rfl
section
variable {k : Nat} {M : List (List Int)}
end
end Go.Proofs.Ytjfopbpkophoeaa

/- Chapter 06: Trip (35), the document's Trip (36), lists compared (37). Written by wip/tools/genW7.py. -/
namespace Go.Proofs.Ytjfopbpkophoeaa
open Go Go.AE
set_option maxRecDepth 100000
def nil3 (e : Int) : DV := .tup [.sl [] 0 0 false true, bD false, iD e]
noncomputable def ev35 (ok : Nat → List DV → Bool) (k : Nat) (f : Nat → Int) (F : List (Nat × RuleF)) : Ev := { evT ok (fun _ _ => .tup [.agg (mx25 k f), iD 0]) with fn := fun f xs h => .node (calmF f) .fail (toldF F f xs h) }
theorem ev35_ok (k : Nat) (f : Nat → Int) {F : List (Nat × RuleF)} (hF : RulesFOK Try.prog F) : EvOK Try.prog (ev35 (okS fun _ _ => .tup [.agg (mx25 k f), iD 0]) k f F) :=
  ⟨(evT_ok fun _ _ => .tup [.agg (mx25 k f), iD 0]).pure, (evK_ok (L := []) (F := F) trivial hF).fn, (evK_ok (L := []) (F := F) trivial hF).calm, (evT_ok fun _ _ => .tup [.agg (mx25 k f), iD 0]).round⟩
def W35 (ok : Nat → List DV → Bool) (a : DV) (k : Nat) (i j m : Int) (q1 q2 : List AV → List Blk → Bool) (H : List Blk) (ans : DV) : Option DV :=
  bif ok 61 [a] then (bif decide ((if j < i then j else i) < 0) then some (nil3 1) else bif decide ((k : Int) ≤ if j > i then j else i) then some (nil3 1) else bif decide (m < 0) then some (nil3 1) else bif decide (10 < m) then some (nil3 1) else
    bif q2 a7 H then some ans else bif q1 a7 H then some (nil3 0) else none) else none
theorem k35 : OkSeg Try.f35 none [] := ⟨by kernel_rfl, by kernel_rfl, by decide⟩
theorem t35_0 (ok : Nat → List DV → Bool) (q1 q2 : List AV → List Blk → Bool) (a : DV) (i j m : Int) (k : Nat) (f : Nat → Int) (w0 : Int) : startS aeC6 (ev35 ok k f (F77 q1 q2 (hp j m k f .o 0 [w0]))) 35 0 Try.f35 none ⟨envOf 0 [.d a, .d (iD i), .d (iD j), .d (iD m)], [], []⟩ (doneE aeC6 Try.f35 0 fun v h => freezeV h 4 v) = W35 ok a k i j m q1 q2 (hp j m k f .o 0 [i]) (.tup [.sl (ints [w0]) 1 1 true false, bD true, iD 0]) := by kernel_rfl
theorem t35_1g (ok : Nat → List DV → Bool) (q1 q2 : List AV → List Blk → Bool) (a : DV) (i j m : Int) (k : Nat) (f : Nat → Int) (w0 w1 : Int) : startS aeC6 (ev35 ok k f (F77 q1 q2 (hz j m k f .g 1 [w0, w1]))) 35 0 Try.f35 none ⟨envOf 0 [.d a, .d (iD i), .d (iD j), .d (iD m)], [], []⟩ (doneE aeC6 Try.f35 0 fun v h => freezeV h 4 v) = W35 ok a k i j m q1 q2 (hp j m k f .o 0 [i]) (.tup [.sl (ints [w0, w1]) 2 1 false false, bD true, iD 0]) := by kernel_rfl
theorem t35_1r (ok : Nat → List DV → Bool) (q1 q2 : List AV → List Blk → Bool) (a : DV) (i j m : Int) (k : Nat) (f : Nat → Int) (w0 w1 : Int) : startS aeC6 (ev35 ok k f (F77 q1 q2 (hz j m k f .r 1 [w0, w1]))) 35 0 Try.f35 none ⟨envOf 0 [.d a, .d (iD i), .d (iD j), .d (iD m)], [], []⟩ (doneE aeC6 Try.f35 0 fun v h => freezeV h 4 v) = W35 ok a k i j m q1 q2 (hp j m k f .o 0 [i]) (.tup [.sl (ints [w0, w1]) 2 1 false false, bD true, iD 0]) := by kernel_rfl
theorem t35_2g (ok : Nat → List DV → Bool) (q1 q2 : List AV → List Blk → Bool) (a : DV) (i j m : Int) (k : Nat) (f : Nat → Int) (w0 w1 w2 : Int) : startS aeC6 (ev35 ok k f (F77 q1 q2 (hz j m k f .g 1 [w0, w1, w2]))) 35 0 Try.f35 none ⟨envOf 0 [.d a, .d (iD i), .d (iD j), .d (iD m)], [], []⟩ (doneE aeC6 Try.f35 0 fun v h => freezeV h 4 v) = W35 ok a k i j m q1 q2 (hp j m k f .o 0 [i]) (.tup [.sl (ints [w0, w1, w2]) 3 1 false false, bD true, iD 0]) := by kernel_rfl
theorem t35_2r (ok : Nat → List DV → Bool) (q1 q2 : List AV → List Blk → Bool) (a : DV) (i j m : Int) (k : Nat) (f : Nat → Int) (w0 w1 w2 : Int) : startS aeC6 (ev35 ok k f (F77 q1 q2 (hz j m k f .r 1 [w0, w1, w2]))) 35 0 Try.f35 none ⟨envOf 0 [.d a, .d (iD i), .d (iD j), .d (iD m)], [], []⟩ (doneE aeC6 Try.f35 0 fun v h => freezeV h 4 v) = W35 ok a k i j m q1 q2 (hp j m k f .o 0 [i]) (.tup [.sl (ints [w0, w1, w2]) 3 1 false false, bD true, iD 0]) := by kernel_rfl
theorem t35_3g (ok : Nat → List DV → Bool) (q1 q2 : List AV → List Blk → Bool) (a : DV) (i j m : Int) (k : Nat) (f : Nat → Int) (w0 w1 w2 w3 : Int) : startS aeC6 (ev35 ok k f (F77 q1 q2 (hz j m k f .g 1 [w0, w1, w2, w3]))) 35 0 Try.f35 none ⟨envOf 0 [.d a, .d (iD i), .d (iD j), .d (iD m)], [], []⟩ (doneE aeC6 Try.f35 0 fun v h => freezeV h 4 v) = W35 ok a k i j m q1 q2 (hp j m k f .o 0 [i]) (.tup [.sl (ints [w0, w1, w2, w3]) 4 1 false false, bD true, iD 0]) := by kernel_rfl
theorem t35_3r (ok : Nat → List DV → Bool) (q1 q2 : List AV → List Blk → Bool) (a : DV) (i j m : Int) (k : Nat) (f : Nat → Int) (w0 w1 w2 w3 : Int) : startS aeC6 (ev35 ok k f (F77 q1 q2 (hz j m k f .r 1 [w0, w1, w2, w3]))) 35 0 Try.f35 none ⟨envOf 0 [.d a, .d (iD i), .d (iD j), .d (iD m)], [], []⟩ (doneE aeC6 Try.f35 0 fun v h => freezeV h 4 v) = W35 ok a k i j m q1 q2 (hp j m k f .o 0 [i]) (.tup [.sl (ints [w0, w1, w2, w3]) 4 1 false false, bD true, iD 0]) := by kernel_rfl
theorem t35_4g (ok : Nat → List DV → Bool) (q1 q2 : List AV → List Blk → Bool) (a : DV) (i j m : Int) (k : Nat) (f : Nat → Int) (w0 w1 w2 w3 w4 : Int) : startS aeC6 (ev35 ok k f (F77 q1 q2 (hz j m k f .g 1 [w0, w1, w2, w3, w4]))) 35 0 Try.f35 none ⟨envOf 0 [.d a, .d (iD i), .d (iD j), .d (iD m)], [], []⟩ (doneE aeC6 Try.f35 0 fun v h => freezeV h 4 v) = W35 ok a k i j m q1 q2 (hp j m k f .o 0 [i]) (.tup [.sl (ints [w0, w1, w2, w3, w4]) 5 1 false false, bD true, iD 0]) := by kernel_rfl
theorem t35_4r (ok : Nat → List DV → Bool) (q1 q2 : List AV → List Blk → Bool) (a : DV) (i j m : Int) (k : Nat) (f : Nat → Int) (w0 w1 w2 w3 w4 : Int) : startS aeC6 (ev35 ok k f (F77 q1 q2 (hz j m k f .r 1 [w0, w1, w2, w3, w4]))) 35 0 Try.f35 none ⟨envOf 0 [.d a, .d (iD i), .d (iD j), .d (iD m)], [], []⟩ (doneE aeC6 Try.f35 0 fun v h => freezeV h 4 v) = W35 ok a k i j m q1 q2 (hp j m k f .o 0 [i]) (.tup [.sl (ints [w0, w1, w2, w3, w4]) 5 1 false false, bD true, iD 0]) := by kernel_rfl
theorem t35_5g (ok : Nat → List DV → Bool) (q1 q2 : List AV → List Blk → Bool) (a : DV) (i j m : Int) (k : Nat) (f : Nat → Int) (w0 w1 w2 w3 w4 w5 : Int) : startS aeC6 (ev35 ok k f (F77 q1 q2 (hz j m k f .g 1 [w0, w1, w2, w3, w4, w5]))) 35 0 Try.f35 none ⟨envOf 0 [.d a, .d (iD i), .d (iD j), .d (iD m)], [], []⟩ (doneE aeC6 Try.f35 0 fun v h => freezeV h 4 v) = W35 ok a k i j m q1 q2 (hp j m k f .o 0 [i]) (.tup [.sl (ints [w0, w1, w2, w3, w4, w5]) 6 1 false false, bD true, iD 0]) := by kernel_rfl
theorem t35_5r (ok : Nat → List DV → Bool) (q1 q2 : List AV → List Blk → Bool) (a : DV) (i j m : Int) (k : Nat) (f : Nat → Int) (w0 w1 w2 w3 w4 w5 : Int) : startS aeC6 (ev35 ok k f (F77 q1 q2 (hz j m k f .r 1 [w0, w1, w2, w3, w4, w5]))) 35 0 Try.f35 none ⟨envOf 0 [.d a, .d (iD i), .d (iD j), .d (iD m)], [], []⟩ (doneE aeC6 Try.f35 0 fun v h => freezeV h 4 v) = W35 ok a k i j m q1 q2 (hp j m k f .o 0 [i]) (.tup [.sl (ints [w0, w1, w2, w3, w4, w5]) 6 1 false false, bD true, iD 0]) := by kernel_rfl
theorem t35_6g (ok : Nat → List DV → Bool) (q1 q2 : List AV → List Blk → Bool) (a : DV) (i j m : Int) (k : Nat) (f : Nat → Int) (w0 w1 w2 w3 w4 w5 w6 : Int) : startS aeC6 (ev35 ok k f (F77 q1 q2 (hz j m k f .g 1 [w0, w1, w2, w3, w4, w5, w6]))) 35 0 Try.f35 none ⟨envOf 0 [.d a, .d (iD i), .d (iD j), .d (iD m)], [], []⟩ (doneE aeC6 Try.f35 0 fun v h => freezeV h 4 v) = W35 ok a k i j m q1 q2 (hp j m k f .o 0 [i]) (.tup [.sl (ints [w0, w1, w2, w3, w4, w5, w6]) 7 1 false false, bD true, iD 0]) := by kernel_rfl
theorem t35_6r (ok : Nat → List DV → Bool) (q1 q2 : List AV → List Blk → Bool) (a : DV) (i j m : Int) (k : Nat) (f : Nat → Int) (w0 w1 w2 w3 w4 w5 w6 : Int) : startS aeC6 (ev35 ok k f (F77 q1 q2 (hz j m k f .r 1 [w0, w1, w2, w3, w4, w5, w6]))) 35 0 Try.f35 none ⟨envOf 0 [.d a, .d (iD i), .d (iD j), .d (iD m)], [], []⟩ (doneE aeC6 Try.f35 0 fun v h => freezeV h 4 v) = W35 ok a k i j m q1 q2 (hp j m k f .o 0 [i]) (.tup [.sl (ints [w0, w1, w2, w3, w4, w5, w6]) 7 1 false false, bD true, iD 0]) := by kernel_rfl
theorem t35_7g (ok : Nat → List DV → Bool) (q1 q2 : List AV → List Blk → Bool) (a : DV) (i j m : Int) (k : Nat) (f : Nat → Int) (w0 w1 w2 w3 w4 w5 w6 w7 : Int) : startS aeC6 (ev35 ok k f (F77 q1 q2 (hz j m k f .g 1 [w0, w1, w2, w3, w4, w5, w6, w7]))) 35 0 Try.f35 none ⟨envOf 0 [.d a, .d (iD i), .d (iD j), .d (iD m)], [], []⟩ (doneE aeC6 Try.f35 0 fun v h => freezeV h 4 v) = W35 ok a k i j m q1 q2 (hp j m k f .o 0 [i]) (.tup [.sl (ints [w0, w1, w2, w3, w4, w5, w6, w7]) 8 1 false false, bD true, iD 0]) := by kernel_rfl
theorem t35_7r (ok : Nat → List DV → Bool) (q1 q2 : List AV → List Blk → Bool) (a : DV) (i j m : Int) (k : Nat) (f : Nat → Int) (w0 w1 w2 w3 w4 w5 w6 w7 : Int) : startS aeC6 (ev35 ok k f (F77 q1 q2 (hz j m k f .r 1 [w0, w1, w2, w3, w4, w5, w6, w7]))) 35 0 Try.f35 none ⟨envOf 0 [.d a, .d (iD i), .d (iD j), .d (iD m)], [], []⟩ (doneE aeC6 Try.f35 0 fun v h => freezeV h 4 v) = W35 ok a k i j m q1 q2 (hp j m k f .o 0 [i]) (.tup [.sl (ints [w0, w1, w2, w3, w4, w5, w6, w7]) 8 1 false false, bD true, iD 0]) := by kernel_rfl
theorem t35_8g (ok : Nat → List DV → Bool) (q1 q2 : List AV → List Blk → Bool) (a : DV) (i j m : Int) (k : Nat) (f : Nat → Int) (w0 w1 w2 w3 w4 w5 w6 w7 w8 : Int) : startS aeC6 (ev35 ok k f (F77 q1 q2 (hz j m k f .g 1 [w0, w1, w2, w3, w4, w5, w6, w7, w8]))) 35 0 Try.f35 none ⟨envOf 0 [.d a, .d (iD i), .d (iD j), .d (iD m)], [], []⟩ (doneE aeC6 Try.f35 0 fun v h => freezeV h 4 v) = W35 ok a k i j m q1 q2 (hp j m k f .o 0 [i]) (.tup [.sl (ints [w0, w1, w2, w3, w4, w5, w6, w7, w8]) 9 1 false false, bD true, iD 0]) := by kernel_rfl
theorem t35_8r (ok : Nat → List DV → Bool) (q1 q2 : List AV → List Blk → Bool) (a : DV) (i j m : Int) (k : Nat) (f : Nat → Int) (w0 w1 w2 w3 w4 w5 w6 w7 w8 : Int) : startS aeC6 (ev35 ok k f (F77 q1 q2 (hz j m k f .r 1 [w0, w1, w2, w3, w4, w5, w6, w7, w8]))) 35 0 Try.f35 none ⟨envOf 0 [.d a, .d (iD i), .d (iD j), .d (iD m)], [], []⟩ (doneE aeC6 Try.f35 0 fun v h => freezeV h 4 v) = W35 ok a k i j m q1 q2 (hp j m k f .o 0 [i]) (.tup [.sl (ints [w0, w1, w2, w3, w4, w5, w6, w7, w8]) 9 1 false false, bD true, iD 0]) := by kernel_rfl
theorem t35_9g (ok : Nat → List DV → Bool) (q1 q2 : List AV → List Blk → Bool) (a : DV) (i j m : Int) (k : Nat) (f : Nat → Int) (w0 w1 w2 w3 w4 w5 w6 w7 w8 w9 : Int) : startS aeC6 (ev35 ok k f (F77 q1 q2 (hz j m k f .g 1 [w0, w1, w2, w3, w4, w5, w6, w7, w8, w9]))) 35 0 Try.f35 none ⟨envOf 0 [.d a, .d (iD i), .d (iD j), .d (iD m)], [], []⟩ (doneE aeC6 Try.f35 0 fun v h => freezeV h 4 v) = W35 ok a k i j m q1 q2 (hp j m k f .o 0 [i]) (.tup [.sl (ints [w0, w1, w2, w3, w4, w5, w6, w7, w8, w9]) 10 1 false false, bD true, iD 0]) := by kernel_rfl
theorem t35_9r (ok : Nat → List DV → Bool) (q1 q2 : List AV → List Blk → Bool) (a : DV) (i j m : Int) (k : Nat) (f : Nat → Int) (w0 w1 w2 w3 w4 w5 w6 w7 w8 w9 : Int) : startS aeC6 (ev35 ok k f (F77 q1 q2 (hz j m k f .r 1 [w0, w1, w2, w3, w4, w5, w6, w7, w8, w9]))) 35 0 Try.f35 none ⟨envOf 0 [.d a, .d (iD i), .d (iD j), .d (iD m)], [], []⟩ (doneE aeC6 Try.f35 0 fun v h => freezeV h 4 v) = W35 ok a k i j m q1 q2 (hp j m k f .o 0 [i]) (.tup [.sl (ints [w0, w1, w2, w3, w4, w5, w6, w7, w8, w9]) 10 1 false false, bD true, iD 0]) := by kernel_rfl
theorem t35_10g (ok : Nat → List DV → Bool) (q1 q2 : List AV → List Blk → Bool) (a : DV) (i j m : Int) (k : Nat) (f : Nat → Int) (w0 w1 w2 w3 w4 w5 w6 w7 w8 w9 w10 : Int) : startS aeC6 (ev35 ok k f (F77 q1 q2 (hz j m k f .g 1 [w0, w1, w2, w3, w4, w5, w6, w7, w8, w9, w10]))) 35 0 Try.f35 none ⟨envOf 0 [.d a, .d (iD i), .d (iD j), .d (iD m)], [], []⟩ (doneE aeC6 Try.f35 0 fun v h => freezeV h 4 v) = W35 ok a k i j m q1 q2 (hp j m k f .o 0 [i]) (.tup [.sl (ints [w0, w1, w2, w3, w4, w5, w6, w7, w8, w9, w10]) 11 1 false false, bD true, iD 0]) := by kernel_rfl
theorem t35_10r (ok : Nat → List DV → Bool) (q1 q2 : List AV → List Blk → Bool) (a : DV) (i j m : Int) (k : Nat) (f : Nat → Int) (w0 w1 w2 w3 w4 w5 w6 w7 w8 w9 w10 : Int) : startS aeC6 (ev35 ok k f (F77 q1 q2 (hz j m k f .r 1 [w0, w1, w2, w3, w4, w5, w6, w7, w8, w9, w10]))) 35 0 Try.f35 none ⟨envOf 0 [.d a, .d (iD i), .d (iD j), .d (iD m)], [], []⟩ (doneE aeC6 Try.f35 0 fun v h => freezeV h 4 v) = W35 ok a k i j m q1 q2 (hp j m k f .o 0 [i]) (.tup [.sl (ints [w0, w1, w2, w3, w4, w5, w6, w7, w8, w9, w10]) 11 1 false false, bD true, iD 0]) := by kernel_rfl
theorem t35 {D : Nat} (h1 : 1 ≤ D) (h10 : D ≤ 10) (z : Bool) {w : List Int} (hw : w.length = D + 1) (ok : Nat → List DV → Bool) (q1 q2 : List AV → List Blk → Bool) (a : DV) (i j m : Int) (k : Nat) (f : Nat → Int) : startS aeC6 (ev35 ok k f (F77 q1 q2 (hz j m k f (zf z) 1 w))) 35 0 Try.f35 none ⟨envOf 0 [.d a, .d (iD i), .d (iD j), .d (iD m)], [], []⟩ (doneE aeC6 Try.f35 0 fun v h => freezeV h 4 v) = W35 ok a k i j m q1 q2 (hp j m k f .o 0 [i]) (.tup [.sl (ints w) (D + 1) 1 false false, bD true, iD 0]) := by
  have h : D = 1 ∨ D = 2 ∨ D = 3 ∨ D = 4 ∨ D = 5 ∨ D = 6 ∨ D = 7 ∨ D = 8 ∨ D = 9 ∨ D = 10 := by omega
  rcases h with rfl | rfl | rfl | rfl | rfl | rfl | rfl | rfl | rfl | rfl
  · obtain ⟨w0, w1, rfl⟩ := len2 hw
    cases z
    · exact t35_1r ok q1 q2 a i j m k f w0 w1
    · exact t35_1g ok q1 q2 a i j m k f w0 w1
  · obtain ⟨w0, w1, w2, rfl⟩ := len3 hw
    cases z
    · exact t35_2r ok q1 q2 a i j m k f w0 w1 w2
    · exact t35_2g ok q1 q2 a i j m k f w0 w1 w2
  · obtain ⟨w0, w1, w2, w3, rfl⟩ := len4 hw
    cases z
    · exact t35_3r ok q1 q2 a i j m k f w0 w1 w2 w3
    · exact t35_3g ok q1 q2 a i j m k f w0 w1 w2 w3
  · obtain ⟨w0, w1, w2, w3, w4, rfl⟩ := len5 hw
    cases z
    · exact t35_4r ok q1 q2 a i j m k f w0 w1 w2 w3 w4
    · exact t35_4g ok q1 q2 a i j m k f w0 w1 w2 w3 w4
  · obtain ⟨w0, w1, w2, w3, w4, w5, rfl⟩ := len6 hw
    cases z
    · exact t35_5r ok q1 q2 a i j m k f w0 w1 w2 w3 w4 w5
    · exact t35_5g ok q1 q2 a i j m k f w0 w1 w2 w3 w4 w5
  · obtain ⟨w0, w1, w2, w3, w4, w5, w6, rfl⟩ := len7 hw
    cases z
    · exact t35_6r ok q1 q2 a i j m k f w0 w1 w2 w3 w4 w5 w6
    · exact t35_6g ok q1 q2 a i j m k f w0 w1 w2 w3 w4 w5 w6
  · obtain ⟨w0, w1, w2, w3, w4, w5, w6, w7, rfl⟩ := len8 hw
    cases z
    · exact t35_7r ok q1 q2 a i j m k f w0 w1 w2 w3 w4 w5 w6 w7
    · exact t35_7g ok q1 q2 a i j m k f w0 w1 w2 w3 w4 w5 w6 w7
  · obtain ⟨w0, w1, w2, w3, w4, w5, w6, w7, w8, rfl⟩ := len9 hw
    cases z
    · exact t35_8r ok q1 q2 a i j m k f w0 w1 w2 w3 w4 w5 w6 w7 w8
    · exact t35_8g ok q1 q2 a i j m k f w0 w1 w2 w3 w4 w5 w6 w7 w8
  · obtain ⟨w0, w1, w2, w3, w4, w5, w6, w7, w8, w9, rfl⟩ := len10 hw
    cases z
    · exact t35_9r ok q1 q2 a i j m k f w0 w1 w2 w3 w4 w5 w6 w7 w8 w9
    · exact t35_9g ok q1 q2 a i j m k f w0 w1 w2 w3 w4 w5 w6 w7 w8 w9
  · obtain ⟨w0, w1, w2, w3, w4, w5, w6, w7, w8, w9, w10, rfl⟩ := len11 hw
    cases z
    · exact t35_10r ok q1 q2 a i j m k f w0 w1 w2 w3 w4 w5 w6 w7 w8 w9 w10
    · exact t35_10g ok q1 q2 a i j m k f w0 w1 w2 w3 w4 w5 w6 w7 w8 w9 w10
def badW (k : Nat) (i j m : Int) : Bool := decide (i < 0) || (decide (j < 0) || (decide ((k : Int) ≤ i) || (decide ((k : Int) ≤ j) || (decide (m < 0) || decide (10 < m)))))
theorem badW_no {k : Nat} {i j m : Int} (h : badW k i j m = false) : ∃ a b n : Nat, i = a ∧ j = b ∧ m = n ∧ a < k ∧ b < k ∧ n ≤ 10 := by
  simp only [badW, Bool.or_eq_false_iff, decide_eq_false_iff_not] at h
  exact ⟨i.toNat, j.toNat, m.toNat, by omega, by omega, by omega, by omega, by omega, by omega⟩
theorem W35_bad {ok : Nat → List DV → Bool} {a : DV} {k : Nat} {i j m : Int} {q1 q2 : List AV → List Blk → Bool} {H : List Blk} {ans : DV} (h : ok 61 [a] = true) (hb : badW k i j m = true) : W35 ok a k i j m q1 q2 H ans = some (nil3 1) := by
  unfold W35
  rw [h]
  simp only [badW, Bool.or_eq_true, decide_eq_true_eq] at hb
  simp only [cond_true]
  by_cases c1 : (if j < i then j else i) < 0
  · rw [decide_eq_true c1]; rfl
  by_cases c2 : (k : Int) ≤ if j > i then j else i
  · rw [decide_eq_false c1, decide_eq_true c2]; rfl
  by_cases c3 : m < 0
  · rw [decide_eq_false c1, decide_eq_false c2, decide_eq_true c3]; rfl
  by_cases c4 : 10 < m
  · rw [decide_eq_false c1, decide_eq_false c2, decide_eq_false c3, decide_eq_true c4]; rfl
  exfalso
  split at c1 <;> split at c2 <;> omega
theorem W35_in {ok : Nat → List DV → Bool} {a : DV} {k : Nat} {i j m : Nat} {q1 q2 : List AV → List Blk → Bool} {H : List Blk} {ans : DV} (h : ok 61 [a] = true) (hi : i < k) (hj : j < k) (hm : m ≤ 10) : W35 ok a k i j m q1 q2 H ans = bif q2 a7 H then some ans else bif q1 a7 H then some (nil3 0) else none := by
  unfold W35
  have c1 : ¬ (if (j : Int) < (i : Int) then (j : Int) else (i : Int)) < 0 := by split <;> omega
  have c2 : ¬ (k : Int) ≤ (if (j : Int) > (i : Int) then (j : Int) else (i : Int)) := by split <;> omega
  rw [h, decide_eq_false c1, decide_eq_false c2, decide_eq_false (show ¬ (m : Int) < 0 by omega), decide_eq_false (show ¬ (10 : Int) < (m : Int) by omega)]
  rfl
/-- The first trip, its first state too. -/
def wayL (k : Nat) (f : Nat → Int) (i j m : Nat) : List Int := [(i : Int)] ++ (trip k f j m i).map Int.ofNat
theorem wayL_len (k : Nat) (f : Nat → Int) (i j m : Nat) : (wayL k f i j m).length = m + 1 := by simp [wayL, trip_len]
def wayD (k : Nat) (f : Nat → Int) (i j m : Nat) : DV := .sl (ints (wayL k f i j m)) (m + 1) 1 (Nat.beq m 0) false
def tripD (M : List (List Int)) (i j m : Int) : DV := bif badW M.length i j m then nil3 1 else bif reach M.length (fM M) j.toNat m.toNat i.toNat then .tup [wayD M.length (fM M) i.toNat j.toNat m.toNat, bD true, iD 0] else nil3 0
theorem c35 {k : Nat} {M : List (List Int)} (hM : matB k M) (h1 : 1 ≤ k) (h5 : k ≤ 5) (i j m : Int) : PureOK Try.prog 35 [matD M, iD i, iD j, iD m] (tripD M i j m) := by
  have h61 : okS (fun _ _ => DV.tup [.agg (mx25 k (fM M)), iD 0]) 61 [matD M] = true := okS_is (by rw [← mtx_mx hM h1 h5]; exact c61 hM h1 h5)
  unfold tripD
  rw [hM.1]
  cases hb : badW k i j m with
  | true =>
    have hF : RulesFOK Try.prog (F77 (fun _ _ => false) (fun _ _ => false) (hp j m k (fM M) .o 0 [0])) := F77_ok _ _ (fun xs h e => by cases e) (fun xs h e => by cases e)
    exact ae_pure6 (ev35_ok k (fM M) hF) (fn := Try.f35) k35 (by kernel_rfl) (by kernel_rfl) (startF_done k35 done_plain ((t35_0 _ _ _ (matD M) i j m k (fM M) 0).trans (W35_bad h61 hb)))
  | false =>
    obtain ⟨a, b, n, rfl, rfl, rfl, ha, hbk, hn⟩ := badW_no hb
    simp only [Int.toNat_natCast, cond_false]
    have hf : ∀ i < 25, 0 ≤ fM M i ∧ fM M i ≤ 9 := fun i _ => fM_b hM i
    obtain ⟨c1, c2⟩ := c77 h1 h5 hf hbk hn n 0 .o [] a (by omega) (.inl ⟨rfl, rfl⟩) rfl ha
    cases hr : reach k (fM M) b n a with
    | false =>
      have hc := c1 hr
      let q1 : List AV → List Blk → Bool := fun xs h => isP (CallOK Try.prog 77 xs h (.d (bD false)) h)
      have hF : RulesFOK Try.prog (F77 q1 (fun _ _ => false) (hp b n k (fM M) .o 0 [0])) := F77_ok _ _ (fun xs h e => by cases e) (fun xs h e => isP_iff.1 e)
      have hq : q1 a7 (hp b n k (fM M) .o 0 [(a : Int)]) = true := isP_iff.2 hc
      refine ae_pure6 (ev35_ok k (fM M) hF) (fn := Try.f35) k35 (by kernel_rfl) (by kernel_rfl) (startF_done k35 done_plain ((t35_0 _ _ _ (matD M) a b n k (fM M) 0).trans ((W35_in h61 ha hbk hn).trans ?_)))
      rw [hq]; rfl
    | true =>
      obtain ⟨c3, c4⟩ := c2 hr
      by_cases h0 : n = 0
      · subst h0
        have hc := c3 rfl
        let q2 : List AV → List Blk → Bool := fun xs h => isP (CallOK Try.prog 77 xs h (.d (bD true)) (hp b (0 : Nat) k (fM M) .o 0 [(a : Int)]))
        have hF : RulesFOK Try.prog (F77 (fun _ _ => false) q2 (hp b (0 : Nat) k (fM M) .o 0 [(a : Int)])) := F77_ok _ _ (fun xs h e => isP_iff.1 e) (fun xs h e => by cases e)
        have hq : q2 a7 (hp b (0 : Nat) k (fM M) .o 0 [(a : Int)]) = true := isP_iff.2 hc
        refine ae_pure6 (ev35_ok k (fM M) hF) (fn := Try.f35) k35 (by kernel_rfl) (by kernel_rfl) (startF_done k35 done_plain ((t35_0 _ _ _ (matD M) a b (0 : Nat) k (fM M) a).trans ((W35_in h61 ha hbk hn).trans ?_)))
        rw [hq]; rfl
      · obtain ⟨z, hc⟩ := c4 h0
        let q2 : List AV → List Blk → Bool := fun xs h => isP (CallOK Try.prog 77 xs h (.d (bD true)) (hz b n k (fM M) (zf z) 1 (wayL k (fM M) a b n)))
        have hF : RulesFOK Try.prog (F77 (fun _ _ => false) q2 (hz b n k (fM M) (zf z) 1 (wayL k (fM M) a b n))) := F77_ok _ _ (fun xs h e => isP_iff.1 e) (fun xs h e => by cases e)
        have hq : q2 a7 (hp b n k (fM M) .o 0 [(a : Int)]) = true := isP_iff.2 hc
        refine ae_pure6 (ev35_ok k (fM M) hF) (fn := Try.f35) k35 (by kernel_rfl) (by kernel_rfl) (startF_done k35 done_plain ((t35 (by omega) hn z (wayL_len k (fM M) a b n) _ _ _ (matD M) a b n k (fM M)).trans ((W35_in h61 ha hbk hn).trans ?_)))
        have hnb : Nat.beq n 0 = false := by cases n with | zero => exact absurd rfl h0 | succ n => rfl
        rw [hq]
        unfold wayD
        rw [hnb]; rfl

end Go.Proofs.Ytjfopbpkophoeaa

/- Chapter 06: the document's Trip (36); lists compared (37). -/
namespace Go.Proofs.Ytjfopbpkophoeaa
open Go Go.AE
set_option maxRecDepth 100000
section
variable {k : Nat} {M : List (List Int)}
theorem wm1 {n : Nat} (hn : n ≤ 1000) : IntKind.wrap IntKind.i64 (((n + 1 : Nat) : Int) - 1) = (n : Int) := by rw [wrap64_o (by omega) (by omega)]; omega
end
/-! ### Lists compared -/
end Go.Proofs.Ytjfopbpkophoeaa

/- Chapter 06: law 7 (Ways) on data. -/
namespace Go.Proofs.Ytjfopbpkophoeaa
open Go Go.AE
set_option maxRecDepth 100000
structure T7 where
  Y : List DV → List DV
  N : List DV → Nat
  Z : List DV → Nat
  C : List DV → Bool
  L : List DV → Bool
  I : List DV → Bool
  E : List DV → Int
  B : List DV → Bool
/-- What the functions answer that the law calls. -/
def i7 (A : List DV) (n : Nat) (T : T7) (f : Nat) (ds : List DV) : DV := bif Nat.beq f 14 then .sl A n 1 false false else bif Nat.beq f 35 then .tup [.sl (T.Y ds) (T.N ds) (T.Z ds) (T.C ds) (T.L ds), bD (T.I ds), iD (T.E ds)] else bif Nat.beq f 36 then .sl (T.Y ds) (T.N ds) (T.Z ds) (T.C ds) (T.L ds) else bif Nat.beq f 37 then bD (T.B ds) else bD true
theorem k7 : OkSeg Try.f7 none [0] := ⟨by kernel_rfl, by kernel_rfl, by decide⟩
def argI7 (i : Nat) (ds : List DV) : Int := match nth ds i with
  | some (.int _ n) => n
  | _ => 0
/-- Whether there is a trip. -/
def good7 (M : List (List Int)) (i j m : Int) : Bool := !badW M.length i j m && reach M.length (fM M) j.toNat m.toNat i.toNat
def tF7 {α : Type} (f : Int → Int → Int → α) (ds : List DV) : α := f (argI7 1 ds) (argI7 2 ds) (argI7 3 ds)
def tb7 (M : List (List Int)) : T7 where
  Y := tF7 fun i j m => bif good7 M i j m then ints (wayL M.length (fM M) i.toNat j.toNat m.toNat) else []
  N := tF7 fun i j m => bif good7 M i j m then m.toNat + 1 else 0
  Z := tF7 fun i j m => bif good7 M i j m then 1 else 0
  C := tF7 fun i j m => bif good7 M i j m then Nat.beq m.toNat 0 else false
  L := tF7 fun i j m => !good7 M i j m
  I := tF7 fun i j m => good7 M i j m
  E := tF7 fun i j m => bif badW M.length i j m then 1 else 0
  B := fun _ => true
section
variable {k : Nat} {M : List (List Int)}
theorem i35 (i j m : Int) : i7 (M.map rowD) M.length (tb7 M) 35 [matD M, iD i, iD j, iD m] = tripD M i j m := by
  show DV.tup [.sl (bif good7 M i j m then ints (wayL M.length (fM M) i.toNat j.toNat m.toNat) else []) (bif good7 M i j m then m.toNat + 1 else 0) (bif good7 M i j m then 1 else 0) (bif good7 M i j m then Nat.beq m.toNat 0 else false) (!good7 M i j m), bD (good7 M i j m), iD (bif badW M.length i j m then 1 else 0)] = _
  unfold tripD good7
  cases badW M.length i j m <;> cases reach M.length (fM M) j.toNat m.toNat i.toNat <;> rfl
end
end Go.Proofs.Ytjfopbpkophoeaa

/- Chapter 06: the records of ranges over patterns: in Mixes (31), Beat (30), hangs (73). -/
namespace Go.Proofs.Ytjfopbpkophoeaa
open Go Go.AE
set_option maxRecDepth 100000
/-- The range over a function in code. -/
def rfOf : Code → Option (Array Tmp × Code × Code)
  | .seq a b => match rfOf a with
    | some x => some x
    | none => rfOf b
  | .cond _ a b => match rfOf a with
    | some x => some x
    | none => rfOf b
  | .block _ b => rfOf b
  | .loop b => rfOf b
  | .scope b => rfOf b
  | .rangeFunc _ ps asg bo => some (ps, asg, bo)
  | _ => none
noncomputable def recB (fid : Nat) (fn : Func) (env : List (Nat × AV)) (l : Nat) (st : LoopState) (pe : Option Code) : Blk := match rfOf (bodyOf fn) with
  | some (ps, asg, bo) => .loop st pe fid fn.ntmps env ps.toList asg bo l
  | none => .dead
def env31 (a : DV) (k : Nat) (f : Nat → Int) : List (Nat × AV) := [(29, .d (.fn 87 [] [.ptr (mx25 k f) 0])), (28, .d (.agg (mx25 k f))), (9, .ref 3 0), (8, .ref 2 0), (7, .ref 1 0), (27, .d (iD (IntKind.wrap .i64 (IntKind.wrap .i64 (IntKind.wrap .i64 ((k : Int) - 1) * IntKind.wrap .i64 ((k : Int) - 1)) + 1)))), (26, .d (iD (IntKind.wrap .i64 (IntKind.wrap .i64 ((k : Int) - 1) * IntKind.wrap .i64 ((k : Int) - 1))))), (25, .d (iD (IntKind.wrap .i64 ((k : Int) - 1)))), (24, .d (iD k)), (23, .ref 0 0), (22, .d (iD (IntKind.wrap .i64 ((k : Int) - 1)))), (21, .d (iD k)), (20, .ref 0 0), (18, .d (bD false)), (17, .d (iD 0)), (6, .d (iD 0)), (5, .ref 0 0), (16, .d (iD 0)), (15, .d (.agg (mx25 k f))), (12, .d (.tup [.agg (mx25 k f), iD 0])), (14, .d (.tup [.agg (mx25 k f), iD 0])), (13, .d a), (4, .d (iD 0)), (3, .d (bD false)), (2, .d (iD 0)), (0, .d a)]
def i31 (k : Nat) (f : Nat → Int) (g : Nat) (_ : List DV) : DV := bif Nat.beq g 61 then .tup [.agg (mx25 k f), iD 0] else .fn 87 [] [.ptr (mx25 k f) 0]
noncomputable def ev31 (ok : Nat → List DV → Bool) (k : Nat) (f : Nat → Int) (F : List (Nat × RuleF)) : Ev := { evT ok (i31 k f) with fn := fun f xs h => .node (calmF f) .fail (toldF F f xs h) }
def most31 (k : Nat) : Int := IntKind.wrap .i64 (IntKind.wrap .i64 (IntKind.wrap .i64 ((k : Int) - 1) * IntKind.wrap .i64 ((k : Int) - 1)) + 1)
noncomputable def H31 (a : DV) (k : Nat) (f : Nat → Int) (o : Int) (b : Bool) (st : LoopState) (pe : Option Code) : List Blk := [.dc (mx25 k f), .dc [iD (most31 k)], .dc [iD o], .dc [bD b], .defr, recB 31 Try.f31 (env31 a k f) 4 st pe]
end Go.Proofs.Ytjfopbpkophoeaa

/- Chapter 06: the rounds over patterns. Written by wip/tools/genX2.py. -/
namespace Go.Proofs.Ytjfopbpkophoeaa
open Go Go.AE
set_option maxRecDepth 100000
def eqM (k : Nat) (g c : Nat → Int) : Bool := decide ((k : Int) = (k : Int)) && (decide (g 0 = c 0) && (decide (g 1 = c 1) && (decide (g 2 = c 2) && (decide (g 3 = c 3) && (decide (g 4 = c 4) && (decide (g 5 = c 5) && (decide (g 6 = c 6) && (decide (g 7 = c 7) && (decide (g 8 = c 8) && (decide (g 9 = c 9) && (decide (g 10 = c 10) && (decide (g 11 = c 11) && (decide (g 12 = c 12) && (decide (g 13 = c 13) && (decide (g 14 = c 14) && (decide (g 15 = c 15) && (decide (g 16 = c 16) && (decide (g 17 = c 17) && (decide (g 18 = c 18) && (decide (g 19 = c 19) && (decide (g 20 = c 20) && (decide (g 21 = c 21) && (decide (g 22 = c 22) && (decide (g 23 = c 23) && (decide (g 24 = c 24) && true)))))))))))))))))))))))))
noncomputable def evQ (ok : Nat → List DV → Bool) (k : Nat) (P : Nat → List DV → Nat → Int) : Ev := evT ok fun f ds => bif Nat.beq f 60 then iD (P f ds 0) else .agg (mx25 k (P f ds))
/-! ### hangs -/
def orI (x y : Int) : Int := IntKind.wrap .i64 (((BitVec.ofInt 64 x ||| BitVec.ofInt 64 y).toNat : Nat) : Int)
def orF (k : Nat) (al g : Nat → Int) (i : Nat) : Int := bif Nat.blt (i / 5) k && Nat.blt (i % 5) k then orI (al i) (g i) else al i
def env73 (k : Nat) (f : Nat → Int) : List (Nat × AV) := [(12, .d (.fn 87 [] [.ptr (mx25 k f) 0])), (11, .d (.agg (mx25 k f))), (3, .ref 1 0), (10, .d (.agg (mx25 k fun _ => 0))), (9, .d (iD k)), (8, .ref 0 0), (2, .d (bD false)), (1, .ref 0 0), (0, .d (.agg (mx25 k f)))]
noncomputable def H73 (k : Nat) (f al : Nat → Int) (st : LoopState) (pe : Option Code) : List Blk := [.dc (mx25 k f), .dc (mx25 k al), .defr, recB 73 Try.f73 (env73 k f) 2 st pe]
noncomputable def ev73 (ok : Nat → List DV → Bool) (k : Nat) (f : Nat → Int) (P : Nat → List DV → Nat → Int) (F : List (Nat × RuleF)) : Ev := { evT ok (fun g ds => bif Nat.beq g 74 then .fn 87 [] [.ptr (mx25 k f) 0] else .agg (mx25 k (P g ds))) with fn := fun f xs h => .node (calmF f) .fail (toldF F f xs h) }

end Go.Proofs.Ytjfopbpkophoeaa

/- Chapter 06: patterns' loop (87) in the memory of those who range over it. -/
namespace Go.Proofs.Ytjfopbpkophoeaa
open Go Go.AE
set_option maxRecDepth 100000
/-- A round, with what comes behind it. -/
def roundK {R : Type} (C : Ctx) (E : Ev) (k l : Nat) (args : List AV) (h : List Blk) (K : AV × List Blk → Option R) : Option R :=
  match nth h l with
  | some (.loop .ready _ fid nt env ps asg bo _) =>
    cond (Nat.beq args.length ps.length && (okCode C fid nt asg && (okCode C fid nt bo && ps.all fun t => Nat.blt t nt)))
      (codeE C E fid h.length k [] none 0 asg ⟨putAll ps args env, h, []⟩ fun ex s1 => match ex with
        | .norm => match nth s1.heap l with
          | some (.loop .ready pe f n e p a b d) => codeE C E fid h.length k [] none 0 bo ⟨s1.env, setNth s1.heap l (.loop .busy pe f n e p a b d), s1.marks⟩ fun ex s2 => (endE h.length l ex s2).bind K
          | _ => none
        | _ => none) none
  | _ => none
theorem roundK_eq {R : Type} (C : Ctx) (E : Ev) (k l : Nat) (args : List AV) (h : List Blk) (K : AV × List Blk → Option R) : roundK C E k l args h K = (roundE C E k l args h).bind K := by
  unfold roundK roundE
  cases nth h l with
  | none => rfl
  | some x => cases x with
    | loop st pe fid nt env ps asg bo d => cases st with
      | ready =>
        dsimp only
        cases (Nat.beq args.length ps.length && (okCode C fid nt asg && (okCode C fid nt bo && ps.all fun t => Nat.blt t nt))) with
        | false => rfl
        | true =>
          simp only [cond_true]
          rcases fac_codeE (C := C) (E := E) (fid := fid) (base := h.length) (k := k) (res := []) (out := none) asg 0 ⟨putAll ps args env, h, []⟩ with ⟨e1, s1, h1⟩ | h1
          · replace h1 : ∀ (R : Type) (K : Ex → St → Option R), codeE C E fid h.length k [] none 0 asg ⟨putAll ps args env, h, []⟩ K = K e1 s1 := h1
            rw [h1, h1]
            cases e1 with
            | norm =>
              dsimp only
              cases nth s1.heap l with
              | none => rfl
              | some y => cases y with
                | loop st pe f n e p a b d => cases st with
                  | ready =>
                    dsimp only
                    rcases fac_codeE (C := C) (E := E) (fid := fid) (base := h.length) (k := k) (res := []) (out := none) bo 0 ⟨s1.env, setNth s1.heap l (.loop .busy pe f n e p a b d), s1.marks⟩ with ⟨e2, s2, h2⟩ | h2
                    · replace h2 : ∀ (R : Type) (K : Ex → St → Option R), codeE C E fid h.length k [] none 0 bo ⟨s1.env, setNth s1.heap l (.loop .busy pe f n e p a b d), s1.marks⟩ K = K e2 s2 := h2
                      rw [h2, h2]
                    · replace h2 : ∀ (R : Type) (K : Ex → St → Option R), codeE C E fid h.length k [] none 0 bo ⟨s1.env, setNth s1.heap l (.loop .busy pe f n e p a b d), s1.marks⟩ K = none := h2
                      rw [h2, h2]; rfl
                  | _ => rfl
                | _ => rfl
            | _ => rfl
          · replace h1 : ∀ (R : Type) (K : Ex → St → Option R), codeE C E fid h.length k [] none 0 asg ⟨putAll ps args env, h, []⟩ K = none := h1
            rw [h1, h1]; rfl
      | _ => rfl
    | _ => rfl
theorem fac_roundK (C : Ctx) (E : Ev) (k l : Nat) (args : List AV) (h : List Blk) : Fac (fun R (K : AV × List Blk → Option R) => roundK C E k l args h K) := by
  cases e : roundE C E k l args h with
  | none => exact .inr fun R K => (roundK_eq ..).trans (by rw [e]; rfl)
  | some p => exact .inl ⟨p, fun R K => (roundK_eq ..).trans (by rw [e]; rfl)⟩
noncomputable def Ev.rounds (E : Ev) (C : Ctx) (k : Nat) : Ev := { E with round := fun l xs h => .cps (fun _ K => roundK C E k l xs h K) (fac_roundK C E k l xs h) }
theorem Ev.rounds_ok {E : Ev} (hE : EvOK Try.prog E) (k : Nat) : EvOK Try.prog (Ev.rounds E aeC k) :=
  ⟨hE.pure, hE.fn, hE.calm, fun l xs h v h' e => roundE_sound ae_T ae_Q ae_mixed hE (k := k) (by
    have e' : roundK aeC E k l xs h some = some (v, h') := e
    rw [roundK_eq] at e'
    cases q : roundE aeC E k l xs h with
    | none => rw [q] at e'; cases e'
    | some p => rw [q] at e'; exact e')⟩
noncomputable def evR (ok : Nat → List DV → Bool) (k : Nat) (P : Nat → List DV → Nat → Int) : Ev := Ev.rounds (evQ ok k P) aeC 20
def s87 (k : Nat) (f : Nat → Int) (y b : Nat) (n : Int) (g : Nat → Int) (H : List Blk) : St := ⟨[(0, .yld y), (1, .d (.ptr (mx25 k f) 0)), (3, .ref b 0), (4, .d (iD n))], H ++ [.dc (mx25 k g)], []⟩
def nx87 (ok : Nat → List DV → Bool) (k : Nat) (P : Nat → List DV → Nat → Int) (f g : Nat → Int) (y b : Nat) (n : Int) (H : List Blk) : Option (Ex × St) :=
  bif ok 85 [.agg (mx25 k g), .agg (mx25 k f)] then (bif ok 88 [.agg (mx25 k (P 85 [.agg (mx25 k g), .agg (mx25 k f)]))] then some (.norm, s87 k f y b (IntKind.wrap .i64 (n + 1)) (P 88 [.agg (mx25 k (P 85 [.agg (mx25 k g), .agg (mx25 k f)]))]) H) else none) else none
theorem h87_31 (ok : Nat → List DV → Bool) (a : DV) (k : Nat) (P : Nat → List DV → Nat → Int) (f : Nat → Int) (o : Int) (b : Bool) : startS aeC (evR ok k P) 87 6 Try.f87 none ⟨envOf 0 [.yld 5, .d (.ptr (mx25 k f) 0)], H31 a k f o b .ready none, []⟩ (heldD aeC 87 6) = bif ok 66 [iD k] then some (0, s87 k f 5 6 0 (P 66 [iD k]) (H31 a k f o b .ready none)) else none := by kernel_rfl
theorem t87_31 (ok : Nat → List DV → Bool) (a : DV) (k : Nat) (P : Nat → List DV → Nat → Int) (f g : Nat → Int) (n o : Int) (b : Bool) : startS aeC (evR ok k P) 87 6 Try.f87 (some 0) (s87 k f 5 6 n g (H31 a k f o b .ready none)) (roundD aeC 87 6 0) =
  bif decide (IntKind.wrap .i64 (most31 k + 1) < n) then some (.exit 0, ⟨[], H31 a k f o b .done (some (.exit 0)), []⟩) else
  bif ok 75 [iD k] then (bif !eqM k g (P 75 [iD k]) then nx87 ok k P f g 5 6 n (H31 a k f o false .ready none) else
    bif !b then nx87 ok k P f g 5 6 n (H31 a k f n true .ready none) else nx87 ok k P f g 5 6 n (H31 a k f o b .ready none)) else none := by kernel_rfl
theorem e87_31 (ok : Nat → List DV → Bool) (a : DV) (k : Nat) (P : Nat → List DV → Nat → Int) (f : Nat → Int) (o : Int) (b : Bool) : nextS aeC (evR ok k P) 87 6 Try.f87 none 0 (.exit 0) ⟨[], H31 a k f o b .done (some (.exit 0)), []⟩ (doneE aeC Try.f87 6 fun v h => some (v, h)) = some (.d (.tup []), H31 a k f o b .done (some (.exit 0))) := by kernel_rfl
theorem k87 : OkSeg Try.f87 none [0] := ⟨by kernel_rfl, by kernel_rfl, by decide⟩
theorem k87_0 : OkSeg Try.f87 (some 0) [] := ⟨by kernel_rfl, by kernel_rfl, by decide⟩
theorem t31 (ok : Nat → List DV → Bool) (a : DV) (k : Nat) (f : Nat → Int) (o : Int) (b : Bool) (q : List AV → List Blk → Bool) : startS aeC (ev31 ok k f [(87, fun xs h => .node (q xs h) (.leaf (.d (.tup []), H31 a k f o b .done (some (.exit 0)))) .fail)]) 31 0 Try.f31 none ⟨envOf 0 [.d a], [], []⟩ (doneE aeC Try.f31 0 fun v h => freezeV h 4 v) = bif ok 61 [a] then (bif ok 74 [.agg (mx25 k f)] then (bif q [.yld 5, .d (.ptr (mx25 k f) 0)] (H31 a k f 0 false .ready none) then (bif !b then some (.tup [iD 0, bD false, iD 0]) else some (.tup [iD o, bD true, iD 0])) else none) else none) else none := by kernel_rfl
theorem k31 : OkSeg Try.f31 none [] := ⟨by kernel_rfl, by kernel_rfl, by decide⟩
end Go.Proofs.Ytjfopbpkophoeaa

/- Chapter 06: patterns of powers; Mixes (31). -/
namespace Go.Proofs.Ytjfopbpkophoeaa
open Go Go.AE
set_option maxRecDepth 100000
def inK (k i : Nat) : Bool := Nat.blt (i / 5) k && Nat.blt (i % 5) k
def patF (k : Nat) (g : Nat → Int) (i : Nat) : Int := bif inK k i then (if 1 < g i then 1 else g i) else g i
def fullF (k i : Nat) : Int := bif inK k i then 1 else 0
theorem c88_1 (g : Nat → Int) : PureOK Try.prog 88 [.agg (mx25 1 g)] (.agg (mx25 1 (patF 1 g))) := walkA (by kernel_rfl : tget aeF 88 = some Try.f88) (by kernel_rfl)
theorem c88_2 (g : Nat → Int) : PureOK Try.prog 88 [.agg (mx25 2 g)] (.agg (mx25 2 (patF 2 g))) := walkA (by kernel_rfl : tget aeF 88 = some Try.f88) (by kernel_rfl)
theorem c88_3 (g : Nat → Int) : PureOK Try.prog 88 [.agg (mx25 3 g)] (.agg (mx25 3 (patF 3 g))) := walkA (by kernel_rfl : tget aeF 88 = some Try.f88) (by kernel_rfl)
theorem c88_4 (g : Nat → Int) : PureOK Try.prog 88 [.agg (mx25 4 g)] (.agg (mx25 4 (patF 4 g))) := walkA (by kernel_rfl : tget aeF 88 = some Try.f88) (by kernel_rfl)
theorem c88_5 (g : Nat → Int) : PureOK Try.prog 88 [.agg (mx25 5 g)] (.agg (mx25 5 (patF 5 g))) := walkA (by kernel_rfl : tget aeF 88 = some Try.f88) (by kernel_rfl)
theorem c75_1 : PureOK Try.prog 75 [iD 1] (.agg (mx25 1 (fullF 1))) := walkA (by kernel_rfl : tget aeF 75 = some Try.f75) (by kernel_rfl)
theorem c75_2 : PureOK Try.prog 75 [iD 2] (.agg (mx25 2 (fullF 2))) := walkA (by kernel_rfl : tget aeF 75 = some Try.f75) (by kernel_rfl)
theorem c75_3 : PureOK Try.prog 75 [iD 3] (.agg (mx25 3 (fullF 3))) := walkA (by kernel_rfl : tget aeF 75 = some Try.f75) (by kernel_rfl)
theorem c75_4 : PureOK Try.prog 75 [iD 4] (.agg (mx25 4 (fullF 4))) := walkA (by kernel_rfl : tget aeF 75 = some Try.f75) (by kernel_rfl)
theorem c75_5 : PureOK Try.prog 75 [iD 5] (.agg (mx25 5 (fullF 5))) := walkA (by kernel_rfl : tget aeF 75 = some Try.f75) (by kernel_rfl)
theorem c74 (k : Nat) (f : Nat → Int) : PureOK Try.prog 74 [.agg (mx25 k f)] (.fn 87 [] [.ptr (mx25 k f) 0]) := walkA (by kernel_rfl : tget aeF 74 = some Try.f74) (by kernel_rfl)
theorem c60_1 (g : Nat → Int) : PureOK Try.prog 60 [.agg (mx25 1 g)] (iD (IntKind.wrap .i64 (0 + g 0))) := walkA (by kernel_rfl : tget aeF 60 = some Try.f60) (by kernel_rfl)
/-- The pattern of a power. -/
def bF (k : Nat) (f : Nat → Int) (n i : Nat) : Int := bif inK k i && reach k f (i % 5) n (i / 5) then 1 else 0
theorem mx_congr {k : Nat} {g g' : Nat → Int} (h : ∀ i, i < 25 → g i = g' i) : mx25 k g = mx25 k g' := by
  unfold mx25
  rw [h 0 (by decide), h 1 (by decide), h 2 (by decide), h 3 (by decide), h 4 (by decide), h 5 (by decide), h 6 (by decide), h 7 (by decide), h 8 (by decide), h 9 (by decide), h 10 (by decide), h 11 (by decide), h 12 (by decide), h 13 (by decide), h 14 (by decide), h 15 (by decide), h 16 (by decide), h 17 (by decide), h 18 (by decide), h 19 (by decide), h 20 (by decide), h 21 (by decide), h 22 (by decide), h 23 (by decide), h 24 (by decide)]
theorem inK_iff {k i : Nat} : inK k i = true ↔ i / 5 < k ∧ i % 5 < k := by
  unfold inK
  rw [Bool.and_eq_true, Nat.blt_eq, Nat.blt_eq]
theorem bF_b (k : Nat) (f : Nat → Int) (n i : Nat) : 0 ≤ bF k f n i ∧ bF k f n i ≤ 1 := by
  unfold bF
  cases inK k i && reach k f (i % 5) n (i / 5) <;> simp
theorem bF_zero (k : Nat) (f : Nat → Int) (i : Nat) : unitF k i = bF k f 0 i := by
  unfold unitF bF inK reach
  cases h : Nat.beq (i / 5) (i % 5) with
  | false => rw [Bool.and_false, Bool.and_false]
  | true =>
    have e := Nat.eq_of_beq_eq_true h
    rw [← e, Bool.and_self, Bool.and_true]
theorem bF_succ {k : Nat} (h5 : k ≤ 5) {f : Nat → Int} (hf : ∀ i < 25, 0 ≤ f i ∧ f i ≤ 9) (n i : Nat) : patF k (mulF k (bF k f n) f) i = bF k f (n + 1) i := by
  unfold patF
  cases hk : inK k i with
  | false =>
    have e : mulF k (bF k f n) f i = 0 := by
      unfold mulF
      unfold inK at hk
      rw [hk]; rfl
    have e2 : bF k f (n + 1) i = 0 := by unfold bF; rw [hk]; rfl
    rw [e, e2]; rfl
  | true =>
    obtain ⟨h1, h2⟩ := inK_iff.1 hk
    have e : mulF k (bF k f n) f i = sumW (bF k f n) f (i / 5) (i % 5) k := by
      unfold mulF
      unfold inK at hk
      rw [hk]; rfl
    obtain ⟨s1, s2, s3⟩ := sumW_ok (f := bF k f n) (g := f) (r := i / 5) (c := i % 5) (B := 9) (by decide) (by decide) (fun x hx => by have := bF_b k f n (5 * (i / 5) + x); omega) k h5 (fun x hx => hf _ (by omega))
    have key : sumW (bF k f n) f (i / 5) (i % 5) k ≠ 0 ↔ reach k f (i % 5) (n + 1) (i / 5) = true := by
      rw [s3, reach_snoc h2 n (i / 5) h1]
      constructor
      · rintro ⟨x, hx, h3, h4⟩
        refine ⟨x, hx, ?_, by have := hf (5 * x + i % 5) (by omega); omega⟩
        have hi := idx5 (i := i / 5) (show x < 5 by omega)
        unfold bF at h3
        rw [hi.1, hi.2] at h3
        cases hr : reach k f x n (i / 5) with
        | true => rfl
        | false => rw [hr, Bool.and_false] at h3; simp at h3
      · rintro ⟨x, hx, h3, h4⟩
        refine ⟨x, hx, ?_, by omega⟩
        have hi := idx5 (i := i / 5) (show x < 5 by omega)
        have hk2 : inK k (5 * (i / 5) + x) = true := inK_iff.2 ⟨by omega, by omega⟩
        unfold bF
        rw [hk2, hi.1, hi.2, h3]; decide
    have eb : bF k f (n + 1) i = bif reach k f (i % 5) (n + 1) (i / 5) then 1 else 0 := by
      show (bif inK k i && reach k f (i % 5) (n + 1) (i / 5) then (1 : Int) else 0) = _
      rw [hk, Bool.true_and]
    rw [e, eb]
    cases hr : reach k f (i % 5) (n + 1) (i / 5) with
    | true =>
      have := key.2 hr
      simp only [cond_true]
      split <;> omega
    | false =>
      have : sumW (bF k f n) f (i / 5) (i % 5) k = 0 := by
        apply Classical.byContradiction
        intro hc
        rw [key.1 hc] at hr; cases hr
      rw [this]; rfl
/-- Whether there are trips of a length between any two states. -/
def fullB (k : Nat) (f : Nat → Int) (n : Nat) : Bool := eqM k (bF k f n) (fullF k)
theorem eqM_iff {k : Nat} {g c : Nat → Int} : eqM k g c = true ↔ ∀ i, i < 25 → g i = c i := by
  constructor
  · intro h
    simp only [eqM, Bool.and_eq_true, decide_eq_true_eq] at h
    intro i hi
    match i, hi with
    | 0, _ => exact h.2.1 | 1, _ => exact h.2.2.1 | 2, _ => exact h.2.2.2.1 | 3, _ => exact h.2.2.2.2.1 | 4, _ => exact h.2.2.2.2.2.1
    | 5, _ => exact h.2.2.2.2.2.2.1 | 6, _ => exact h.2.2.2.2.2.2.2.1 | 7, _ => exact h.2.2.2.2.2.2.2.2.1 | 8, _ => exact h.2.2.2.2.2.2.2.2.2.1 | 9, _ => exact h.2.2.2.2.2.2.2.2.2.2.1
    | 10, _ => exact h.2.2.2.2.2.2.2.2.2.2.2.1 | 11, _ => exact h.2.2.2.2.2.2.2.2.2.2.2.2.1 | 12, _ => exact h.2.2.2.2.2.2.2.2.2.2.2.2.2.1 | 13, _ => exact h.2.2.2.2.2.2.2.2.2.2.2.2.2.2.1 | 14, _ => exact h.2.2.2.2.2.2.2.2.2.2.2.2.2.2.2.1
    | 15, _ => exact h.2.2.2.2.2.2.2.2.2.2.2.2.2.2.2.2.1 | 16, _ => exact h.2.2.2.2.2.2.2.2.2.2.2.2.2.2.2.2.2.1 | 17, _ => exact h.2.2.2.2.2.2.2.2.2.2.2.2.2.2.2.2.2.2.1 | 18, _ => exact h.2.2.2.2.2.2.2.2.2.2.2.2.2.2.2.2.2.2.2.1 | 19, _ => exact h.2.2.2.2.2.2.2.2.2.2.2.2.2.2.2.2.2.2.2.2.1
    | 20, _ => exact h.2.2.2.2.2.2.2.2.2.2.2.2.2.2.2.2.2.2.2.2.2.1 | 21, _ => exact h.2.2.2.2.2.2.2.2.2.2.2.2.2.2.2.2.2.2.2.2.2.2.1 | 22, _ => exact h.2.2.2.2.2.2.2.2.2.2.2.2.2.2.2.2.2.2.2.2.2.2.2.1 | 23, _ => exact h.2.2.2.2.2.2.2.2.2.2.2.2.2.2.2.2.2.2.2.2.2.2.2.2.1 | 24, _ => exact h.2.2.2.2.2.2.2.2.2.2.2.2.2.2.2.2.2.2.2.2.2.2.2.2.2.1
    | n + 25, h => exact absurd h (by omega)
  · intro h
    simp only [eqM, Bool.and_eq_true, decide_eq_true_eq]
    exact ⟨trivial, h 0 (by decide), h 1 (by decide), h 2 (by decide), h 3 (by decide), h 4 (by decide), h 5 (by decide), h 6 (by decide), h 7 (by decide), h 8 (by decide), h 9 (by decide), h 10 (by decide), h 11 (by decide), h 12 (by decide), h 13 (by decide), h 14 (by decide), h 15 (by decide), h 16 (by decide), h 17 (by decide), h 18 (by decide), h 19 (by decide), h 20 (by decide), h 21 (by decide), h 22 (by decide), h 23 (by decide), h 24 (by decide), trivial⟩
theorem fullB_iff {k : Nat} (h5 : k ≤ 5) {f : Nat → Int} {n : Nat} : fullB k f n = true ↔ ∀ i j, i < k → j < k → reach k f j n i = true := by
  unfold fullB
  rw [eqM_iff]
  constructor
  · intro h i j hi hj
    have hx := idx5 (i := i) (show j < 5 by omega)
    have hk : inK k (5 * i + j) = true := inK_iff.2 ⟨by omega, by omega⟩
    have := h (5 * i + j) (by omega)
    unfold bF fullF at this
    rw [hk, hx.1, hx.2, Bool.true_and] at this
    cases hr : reach k f j n i with
    | true => rfl
    | false => rw [hr] at this; simp at this
  · intro h i hi
    unfold bF fullF
    cases hk : inK k i with
    | false => rfl
    | true =>
      obtain ⟨h1, h2⟩ := inK_iff.1 hk
      rw [h (i / 5) (i % 5) h1 h2]; rfl
end Go.Proofs.Ytjfopbpkophoeaa

/- Chapter 06: what Mixes (31) answers. -/
namespace Go.Proofs.Ytjfopbpkophoeaa
open Go Go.AE
set_option maxRecDepth 100000
def trF (k : Nat) (g : Nat → Int) : Nat → Int
  | 0 => 0
  | n + 1 => IntKind.wrap .i64 (trF k g n + g (6 * n))
def PX (k : Nat) (f : Nat) (ds : List DV) : Nat → Int := bif Nat.beq f 85 then (match ds with | [a, b] => mulF k (dec a) (dec b) | _ => unitF k) else bif Nat.beq f 88 then (match ds with | [a] => patF k (dec a) | _ => unitF k) else bif Nat.beq f 75 then fullF k else bif Nat.beq f 60 then (match ds with | [a] => fun _ => trF k (dec a) k | _ => unitF k) else unitF k
def shX (k : Nat) (f : Nat) (ds : List DV) : DV := bif Nat.beq f 60 then iD (PX k f ds 0) else .agg (mx25 k (PX k f ds))
noncomputable abbrev okX' (k : Nat) : Nat → List DV → Bool := okS (shX k)
theorem evR_ok (k : Nat) : EvOK Try.prog (evR (okX' k) k (PX k)) := Ev.rounds_ok (evT_ok (shX k)) 20
theorem c75 {k : Nat} (h1 : 1 ≤ k) (h5 : k ≤ 5) : PureOK Try.prog 75 [iD k] (.agg (mx25 k (fullF k))) := by
  rcases five h1 h5 with rfl | rfl | rfl | rfl | rfl
  · exact c75_1
  · exact c75_2
  · exact c75_3
  · exact c75_4
  · exact c75_5
theorem c66 {k : Nat} (h1 : 1 ≤ k) (h5 : k ≤ 5) : PureOK Try.prog 66 [iD k] (.agg (mx25 k (unitF k))) := by
  rcases five h1 h5 with rfl | rfl | rfl | rfl | rfl
  · exact c66_1
  · exact c66_2
  · exact c66_3
  · exact c66_4
  · exact c66_5
theorem c88 {k : Nat} (h1 : 1 ≤ k) (h5 : k ≤ 5) (g : Nat → Int) : PureOK Try.prog 88 [.agg (mx25 k g)] (.agg (mx25 k (patF k g))) := by
  rcases five h1 h5 with rfl | rfl | rfl | rfl | rfl
  · exact c88_1 g
  · exact c88_2 g
  · exact c88_3 g
  · exact c88_4 g
  · exact c88_5 g
section
variable {k : Nat}
theorem px85 (h1 : 1 ≤ k) (h5 : k ≤ 5) (g f : Nat → Int) : mx25 k (PX k 85 [.agg (mx25 k g), .agg (mx25 k f)]) = mx25 k (mulF k g f) := by
  rcases five h1 h5 with rfl | rfl | rfl | rfl | rfl
  · kernel_rfl
  · kernel_rfl
  · kernel_rfl
  · kernel_rfl
  · kernel_rfl
theorem px88 (h1 : 1 ≤ k) (h5 : k ≤ 5) (g : Nat → Int) : mx25 k (PX k 88 [.agg (mx25 k g)]) = mx25 k (patF k g) := by
  rcases five h1 h5 with rfl | rfl | rfl | rfl | rfl
  · kernel_rfl
  · kernel_rfl
  · kernel_rfl
  · kernel_rfl
  · kernel_rfl
theorem x85 (h1 : 1 ≤ k) (h5 : k ≤ 5) (g f : Nat → Int) : okX' k 85 [.agg (mx25 k g), .agg (mx25 k f)] = true := okS_is (by
  show PureOK Try.prog 85 _ (.agg (mx25 k (PX k 85 _)))
  rw [px85 h1 h5]; exact c85 h1 h5 g f)
theorem x88 (h1 : 1 ≤ k) (h5 : k ≤ 5) (g : Nat → Int) : okX' k 88 [.agg (mx25 k g)] = true := okS_is (by
  show PureOK Try.prog 88 _ (.agg (mx25 k (PX k 88 _)))
  rw [px88 h1 h5]; exact c88 h1 h5 g)
theorem x75 (h1 : 1 ≤ k) (h5 : k ≤ 5) : okX' k 75 [iD k] = true := okS_is (c75 h1 h5)
theorem x66 (h1 : 1 ≤ k) (h5 : k ≤ 5) : okX' k 66 [iD k] = true := okS_is (c66 h1 h5)
/-- The next pattern. -/
theorem nx87_ok (h1 : 1 ≤ k) (h5 : k ≤ 5) {f : Nat → Int} (hf : ∀ i < 25, 0 ≤ f i ∧ f i ≤ 9) (y b n : Nat) (hn : n ≤ 1000) (H : List Blk) : nx87 (okX' k) k (PX k) f (bF k f n) y b n H = some (.norm, s87 k f y b ((n + 1 : Nat) : Int) (bF k f (n + 1)) H) := by
  unfold nx87
  rw [x85 h1 h5, px85 h1 h5, x88 h1 h5, wr1 hn]
  simp only [cond_true]
  have e : mx25 k (PX k 88 [.agg (mx25 k (mulF k (bF k f n) f))]) = mx25 k (bF k f (n + 1)) := (px88 h1 h5 _).trans (mx_congr fun i _ => bF_succ h5 hf n i)
  unfold s87
  rw [e]
def mixS (k : Nat) (f : Nat → Int) : Nat → Int × Bool
  | 0 => (0, false)
  | n + 1 => bif !fullB k f n then ((mixS k f n).1, false) else bif !(mixS k f n).2 then ((n : Int), true) else mixS k f n
def mostN (k : Nat) : Nat := (k - 1) * (k - 1) + 1
theorem most_eq (h1 : 1 ≤ k) (h5 : k ≤ 5) : IntKind.wrap .i64 (most31 k + 1) = ((mostN k + 1 : Nat) : Int) := by
  rcases five h1 h5 with rfl | rfl | rfl | rfl | rfl <;> decide +kernel
theorem mostN_le (h1 : 1 ≤ k) (h5 : k ≤ 5) : mostN k ≤ 17 := by
  rcases five h1 h5 with rfl | rfl | rfl | rfl | rfl <;> decide
theorem loop31 (h1 : 1 ≤ k) (h5 : k ≤ 5) {f : Nat → Int} (hf : ∀ i < 25, 0 ≤ f i ∧ f i ≤ 9) (a : DV) : ∀ (t n : Nat), n + t = mostN k + 2 →
    LoopAt aeC (evR (okX' k) k (PX k)) 87 6 Try.f87 0 (s87 k f 5 6 n (bF k f n) (H31 a k f (mixS k f n).1 (mixS k f n).2 .ready none)) (.exit 0) ⟨[], H31 a k f (mixS k f (mostN k + 2)).1 (mixS k f (mostN k + 2)).2 .done (some (.exit 0)), []⟩
  | 0, n, hn => by
    have : n = mostN k + 2 := by omega
    subst this
    refine .out k87_0 (by simp) ((t87_31 ..).trans ?_)
    rw [most_eq h1 h5]
    exact cnd_pos (by omega)
  | t + 1, n, hn => by
    have hm := mostN_le h1 h5
    refine .next k87_0 ((t87_31 ..).trans ?_) (loop31 h1 h5 hf a t (n + 1) (by omega))
    rw [most_eq h1 h5]
    refine (cnd_neg (by omega)).trans ((cond_is' (x75 h1 h5)).trans ?_)
    have hfb : eqM k (bF k f n) (PX k 75 [iD k]) = fullB k f n := rfl
    rw [hfb]
    show _ = some (Ex.norm, s87 k f 5 6 ((n + 1 : Nat) : Int) (bF k f (n + 1)) (H31 a k f (bif !fullB k f n then ((mixS k f n).1, false) else bif !(mixS k f n).2 then ((n : Int), true) else mixS k f n).1 (bif !fullB k f n then ((mixS k f n).1, false) else bif !(mixS k f n).2 then ((n : Int), true) else mixS k f n).2 .ready none))
    cases fullB k f n with
    | false => exact nx87_ok h1 h5 hf 5 6 n (by omega) _
    | true =>
      cases hb : (mixS k f n).2 with
      | false => exact nx87_ok h1 h5 hf 5 6 n (by omega) _
      | true =>
        refine (nx87_ok h1 h5 hf 5 6 n (by omega) _).trans ?_
        show _ = some (Ex.norm, s87 k f 5 6 ((n + 1 : Nat) : Int) (bF k f (n + 1)) (H31 a k f (mixS k f n).1 (mixS k f n).2 .ready none))
        rw [hb]
theorem unit_bF (k : Nat) (f : Nat → Int) : mx25 k (unitF k) = mx25 k (bF k f 0) := mx_congr fun i _ => bF_zero k f i
theorem c87_31 (h1 : 1 ≤ k) (h5 : k ≤ 5) {f : Nat → Int} (hf : ∀ i < 25, 0 ≤ f i ∧ f i ≤ 9) (a : DV) : CallOK Try.prog 87 [.yld 5, .d (.ptr (mx25 k f) 0)] (H31 a k f 0 false .ready none) (.d (.tup [])) (H31 a k f (mixS k f (mostN k + 2)).1 (mixS k f (mostN k + 2)).2 .done (some (.exit 0))) := by
  have hh := (h87_31 (okX' k) a k (PX k) f 0 false).trans (cond_is' (x66 h1 h5))
  have hu : s87 k f 5 6 0 (PX k 66 [iD k]) (H31 a k f 0 false .ready none) = s87 k f 5 6 0 (bF k f 0) (H31 a k f 0 false .ready none) := by
    unfold s87
    rw [show mx25 k (PX k 66 [iD k]) = mx25 k (bF k f 0) from unit_bF k f]
  rw [hu] at hh
  exact ae_call (evR_ok k) (fn := Try.f87) k87 (by kernel_rfl) (by kernel_rfl) ((startF_seg k87 hh (loop31 h1 h5 hf a (mostN k + 2) 0 (by omega))).trans (nextF_done k87 done_plain (e87_31 ..)))
def mixD (k : Nat) (f : Nat → Int) : DV := bif (mixS k f (mostN k + 2)).2 then .tup [iD (mixS k f (mostN k + 2)).1, bD true, iD 0] else .tup [iD 0, bD false, iD 0]
theorem c31 {M : List (List Int)} (hM : matB k M) (h1 : 1 ≤ k) (h5 : k ≤ 5) : PureOK Try.prog 31 [matD M] (mixD k (fM M)) := by
  have hf : ∀ i < 25, 0 ≤ fM M i ∧ fM M i ≤ 9 := fun i _ => fM_b hM i
  have g61 : okS (i31 k (fM M)) 61 [matD M] = true := okS_is (by show PureOK Try.prog 61 _ (.tup [.agg (mx25 k (fM M)), iD 0]); rw [← mtx_mx hM h1 h5]; exact c61 hM h1 h5)
  have g74 : okS (i31 k (fM M)) 74 [.agg (mx25 k (fM M))] = true := okS_is (c74 k (fM M))
  have hc := c87_31 h1 h5 hf (matD M)
  let q : List AV → List Blk → Bool := fun xs h => isP (CallOK Try.prog 87 xs h (.d (.tup [])) (H31 (matD M) k (fM M) (mixS k (fM M) (mostN k + 2)).1 (mixS k (fM M) (mostN k + 2)).2 .done (some (.exit 0))))
  have hF : RulesFOK Try.prog [(87, fun xs h => .node (q xs h) (.leaf (.d (.tup []), H31 (matD M) k (fM M) (mixS k (fM M) (mostN k + 2)).1 (mixS k (fM M) (mostN k + 2)).2 .done (some (.exit 0)))) .fail)] := ⟨fun xs h v h' e => by
    simp only [Tr.val] at e
    obtain ⟨c, e⟩ := cond_none e
    cases e; exact isP_iff.1 c, trivial⟩
  have hE : EvOK Try.prog (ev31 (okS (i31 k (fM M))) k (fM M) [(87, fun xs h => .node (q xs h) (.leaf (.d (.tup []), H31 (matD M) k (fM M) (mixS k (fM M) (mostN k + 2)).1 (mixS k (fM M) (mostN k + 2)).2 .done (some (.exit 0)))) .fail)]) :=
    ⟨(evT_ok (i31 k (fM M))).pure, (evK_ok (L := []) (F := _) trivial hF).fn, (evK_ok (L := []) (F := _) trivial hF).calm, (evT_ok (i31 k (fM M))).round⟩
  have hq : q [.yld 5, .d (.ptr (mx25 k (fM M)) 0)] (H31 (matD M) k (fM M) 0 false .ready none) = true := isP_iff.2 hc
  refine ae_pure hE (fn := Try.f31) k31 (by kernel_rfl) (by kernel_rfl) (startF_done k31 done_plain ((t31 ..).trans ((cond_is' g61).trans ((cond_is' g74).trans ((cond_is' hq).trans ?_)))))
  unfold mixD
  cases (mixS k (fM M) (mostN k + 2)).2 <;> rfl
end
end Go.Proofs.Ytjfopbpkophoeaa

/- Chapter 06: hangs (73) and Hangs (29). -/
namespace Go.Proofs.Ytjfopbpkophoeaa
open Go Go.AE
set_option maxRecDepth 100000
theorem h87_73 (ok : Nat → List DV → Bool) (k : Nat) (P : Nat → List DV → Nat → Int) (f al : Nat → Int) : startS aeC (evR ok k P) 87 4 Try.f87 none ⟨envOf 0 [.yld 3, .d (.ptr (mx25 k f) 0)], H73 k f al .ready none, []⟩ (heldD aeC 87 4) = bif ok 66 [iD k] then some (0, s87 k f 3 4 0 (P 66 [iD k]) (H73 k f al .ready none)) else none := by kernel_rfl
theorem e87_73 (ok : Nat → List DV → Bool) (k : Nat) (P : Nat → List DV → Nat → Int) (f al : Nat → Int) : nextS aeC (evR ok k P) 87 4 Try.f87 none 0 (.exit 0) ⟨[], H73 k f al .done (some (.exit 0)), []⟩ (doneE aeC Try.f87 4 fun v h => some (v, h)) = some (.d (.tup []), H73 k f al .done (some (.exit 0))) := by kernel_rfl
theorem t73 (ok : Nat → List DV → Bool) (k : Nat) (P : Nat → List DV → Nat → Int) (f al : Nat → Int) (q : List AV → List Blk → Bool) : startS aeC (ev73 ok k f P [(87, fun xs h => .node (q xs h) (.leaf (.d (.tup []), H73 k f al .done (some (.exit 0)))) .fail)]) 73 0 Try.f73 none ⟨envOf 0 [.d (.agg (mx25 k f))], [], []⟩ (doneE aeC Try.f73 0 fun v h => freezeV h 4 v) = bif ok 74 [.agg (mx25 k f)] then (bif q [.yld 3, .d (.ptr (mx25 k f) 0)] (H73 k f (fun _ => 0) .ready none) then (bif ok 75 [iD k] then some (bD (eqM k al (P 75 [iD k]))) else none) else none) else none := by kernel_rfl
theorem k73 : OkSeg Try.f73 none [] := ⟨by kernel_rfl, by kernel_rfl, by decide⟩

theorem t87_73_1 (ok : Nat → List DV → Bool) (P : Nat → List DV → Nat → Int) (f al g : Nat → Int) (n : Int) : startS aeC (evR ok 1 P) 87 4 Try.f87 (some 0) (s87 1 f 3 4 n g (H73 1 f al .ready none)) (roundD aeC 87 4 0) =
  bif decide (((1 : Nat) : Int) < n) then some (.exit 0, ⟨[], H73 1 f al .done (some (.exit 0)), []⟩) else bif decide (n = 0) then nx87 ok 1 P f g 3 4 n (H73 1 f al .ready none) else nx87 ok 1 P f g 3 4 n (H73 1 f (orF 1 al g) .ready none) := by kernel_rfl
theorem t87_73_2 (ok : Nat → List DV → Bool) (P : Nat → List DV → Nat → Int) (f al g : Nat → Int) (n : Int) : startS aeC (evR ok 2 P) 87 4 Try.f87 (some 0) (s87 2 f 3 4 n g (H73 2 f al .ready none)) (roundD aeC 87 4 0) =
  bif decide (((2 : Nat) : Int) < n) then some (.exit 0, ⟨[], H73 2 f al .done (some (.exit 0)), []⟩) else bif decide (n = 0) then nx87 ok 2 P f g 3 4 n (H73 2 f al .ready none) else nx87 ok 2 P f g 3 4 n (H73 2 f (orF 2 al g) .ready none) := by kernel_rfl
theorem t87_73_3 (ok : Nat → List DV → Bool) (P : Nat → List DV → Nat → Int) (f al g : Nat → Int) (n : Int) : startS aeC (evR ok 3 P) 87 4 Try.f87 (some 0) (s87 3 f 3 4 n g (H73 3 f al .ready none)) (roundD aeC 87 4 0) =
  bif decide (((3 : Nat) : Int) < n) then some (.exit 0, ⟨[], H73 3 f al .done (some (.exit 0)), []⟩) else bif decide (n = 0) then nx87 ok 3 P f g 3 4 n (H73 3 f al .ready none) else nx87 ok 3 P f g 3 4 n (H73 3 f (orF 3 al g) .ready none) := by kernel_rfl
theorem t87_73_4 (ok : Nat → List DV → Bool) (P : Nat → List DV → Nat → Int) (f al g : Nat → Int) (n : Int) : startS aeC (evR ok 4 P) 87 4 Try.f87 (some 0) (s87 4 f 3 4 n g (H73 4 f al .ready none)) (roundD aeC 87 4 0) =
  bif decide (((4 : Nat) : Int) < n) then some (.exit 0, ⟨[], H73 4 f al .done (some (.exit 0)), []⟩) else bif decide (n = 0) then nx87 ok 4 P f g 3 4 n (H73 4 f al .ready none) else nx87 ok 4 P f g 3 4 n (H73 4 f (orF 4 al g) .ready none) := by kernel_rfl
theorem t87_73_5 (ok : Nat → List DV → Bool) (P : Nat → List DV → Nat → Int) (f al g : Nat → Int) (n : Int) : startS aeC (evR ok 5 P) 87 4 Try.f87 (some 0) (s87 5 f 3 4 n g (H73 5 f al .ready none)) (roundD aeC 87 4 0) =
  bif decide (((5 : Nat) : Int) < n) then some (.exit 0, ⟨[], H73 5 f al .done (some (.exit 0)), []⟩) else bif decide (n = 0) then nx87 ok 5 P f g 3 4 n (H73 5 f al .ready none) else nx87 ok 5 P f g 3 4 n (H73 5 f (orF 5 al g) .ready none) := by kernel_rfl
theorem t87_73 {k : Nat} (h1 : 1 ≤ k) (h5 : k ≤ 5) (ok : Nat → List DV → Bool) (P : Nat → List DV → Nat → Int) (f al g : Nat → Int) (n : Int) : startS aeC (evR ok k P) 87 4 Try.f87 (some 0) (s87 k f 3 4 n g (H73 k f al .ready none)) (roundD aeC 87 4 0) =
  bif decide ((k : Int) < n) then some (.exit 0, ⟨[], H73 k f al .done (some (.exit 0)), []⟩) else bif decide (n = 0) then nx87 ok k P f g 3 4 n (H73 k f al .ready none) else nx87 ok k P f g 3 4 n (H73 k f (orF k al g) .ready none) := by
  rcases five h1 h5 with rfl | rfl | rfl | rfl | rfl
  · exact t87_73_1 ok P f al g n
  · exact t87_73_2 ok P f al g n
  · exact t87_73_3 ok P f al g n
  · exact t87_73_4 ok P f al g n
  · exact t87_73_5 ok P f al g n
/-- Trips of a length from 1 on, below n. -/
def uF (k : Nat) (f : Nat → Int) : Nat → Nat → Int
  | 0 => fun _ => 0
  | n + 1 => bif Nat.beq n 0 then uF k f n else orF k (uF k f n) (bF k f n)
section
variable {k : Nat}
theorem loop73 (h1 : 1 ≤ k) (h5 : k ≤ 5) {f : Nat → Int} (hf : ∀ i < 25, 0 ≤ f i ∧ f i ≤ 9) : ∀ (t n : Nat), n + t = k + 1 →
    LoopAt aeC (evR (okX' k) k (PX k)) 87 4 Try.f87 0 (s87 k f 3 4 n (bF k f n) (H73 k f (uF k f n) .ready none)) (.exit 0) ⟨[], H73 k f (uF k f (k + 1)) .done (some (.exit 0)), []⟩
  | 0, n, hn => by
    have : n = k + 1 := by omega
    subst this
    exact .out k87_0 (by simp) ((t87_73 h1 h5 ..).trans (cnd_pos (by omega)))
  | t + 1, n, hn => by
    refine .next k87_0 ((t87_73 h1 h5 ..).trans ((cnd_neg (by omega)).trans ?_)) (loop73 h1 h5 hf t (n + 1) (by omega))
    show _ = some (Ex.norm, s87 k f 3 4 ((n + 1 : Nat) : Int) (bF k f (n + 1)) (H73 k f (bif Nat.beq n 0 then uF k f n else orF k (uF k f n) (bF k f n)) .ready none))
    cases n with
    | zero => exact nx87_ok h1 h5 hf 3 4 0 (by omega) _
    | succ n =>
      rw [decide_eq_false (show ¬ ((n + 1 : Nat) : Int) = 0 by omega)]
      exact nx87_ok h1 h5 hf 3 4 (n + 1) (by omega) _
def hangsB (k : Nat) (f : Nat → Int) : Bool := eqM k (uF k f (k + 1)) (fullF k)
def sh73 (k : Nat) (f : Nat → Int) (g : Nat) (ds : List DV) : DV := bif Nat.beq g 74 then .fn 87 [] [.ptr (mx25 k f) 0] else .agg (mx25 k (PX k g ds))
theorem c73 (h1 : 1 ≤ k) (h5 : k ≤ 5) {f : Nat → Int} (hf : ∀ i < 25, 0 ≤ f i ∧ f i ≤ 9) : PureOK Try.prog 73 [.agg (mx25 k f)] (bD (hangsB k f)) := by
  have hh := (h87_73 (okX' k) k (PX k) f fun _ => 0).trans (cond_is' (x66 h1 h5))
  have hu : s87 k f 3 4 0 (PX k 66 [iD k]) (H73 k f (fun _ => 0) .ready none) = s87 k f 3 4 0 (bF k f 0) (H73 k f (uF k f 0) .ready none) := by
    unfold s87
    rw [show mx25 k (PX k 66 [iD k]) = mx25 k (bF k f 0) from unit_bF k f]
    rfl
  rw [hu] at hh
  have hc : CallOK Try.prog 87 [.yld 3, .d (.ptr (mx25 k f) 0)] (H73 k f (fun _ => 0) .ready none) (.d (.tup [])) (H73 k f (uF k f (k + 1)) .done (some (.exit 0))) :=
    ae_call (evR_ok k) (fn := Try.f87) k87 (by kernel_rfl) (by kernel_rfl) ((startF_seg k87 hh (loop73 h1 h5 hf (k + 1) 0 (by omega))).trans (nextF_done k87 done_plain (e87_73 ..)))
  let q : List AV → List Blk → Bool := fun xs h => isP (CallOK Try.prog 87 xs h (.d (.tup [])) (H73 k f (uF k f (k + 1)) .done (some (.exit 0))))
  have hF : RulesFOK Try.prog [(87, fun xs h => .node (q xs h) (.leaf (.d (.tup []), H73 k f (uF k f (k + 1)) .done (some (.exit 0)))) .fail)] := ⟨fun xs h v h' e => by
    simp only [Tr.val] at e
    obtain ⟨c, e⟩ := cond_none e
    cases e; exact isP_iff.1 c, trivial⟩
  have hE : EvOK Try.prog (ev73 (okS (sh73 k f)) k f (PX k) [(87, fun xs h => .node (q xs h) (.leaf (.d (.tup []), H73 k f (uF k f (k + 1)) .done (some (.exit 0)))) .fail)]) :=
    ⟨(evT_ok (sh73 k f)).pure, (evK_ok (L := []) (F := _) trivial hF).fn, (evK_ok (L := []) (F := _) trivial hF).calm, (evT_ok (sh73 k f)).round⟩
  have hq : q [.yld 3, .d (.ptr (mx25 k f) 0)] (H73 k f (fun _ => 0) .ready none) = true := isP_iff.2 hc
  have g74 : okS (sh73 k f) 74 [.agg (mx25 k f)] = true := okS_is (c74 k f)
  have g75 : okS (sh73 k f) 75 [iD k] = true := okS_is (c75 h1 h5)
  exact ae_pure hE (fn := Try.f73) k73 (by kernel_rfl) (by kernel_rfl) (startF_done k73 done_plain ((t73 ..).trans ((cond_is' g74).trans ((cond_is' hq).trans (cond_is' g75)))))
/-! ### Hangs -/
def i29 (k : Nat) (f : Nat → Int) (B : Bool) (g : Nat) (_ : List DV) : DV := bif Nat.beq g 61 then .tup [.agg (mx25 k f), iD 0] else bD B
theorem t29 (ok : Nat → List DV → Bool) (a : DV) (k : Nat) (f : Nat → Int) (B : Bool) : startS aeC (evT ok (i29 k f B)) 29 0 Try.f29 none ⟨envOf 0 [.d a], [], []⟩ (doneE aeC Try.f29 0 fun v h => freezeV h 4 v) = bif ok 61 [a] then (bif ok 73 [.agg (mx25 k f)] then some (.tup [bD B, iD 0]) else none) else none := by kernel_rfl
theorem k29 : OkSeg Try.f29 none [] := ⟨by kernel_rfl, by kernel_rfl, by decide⟩
theorem c29 {M : List (List Int)} (hM : matB k M) (h1 : 1 ≤ k) (h5 : k ≤ 5) : PureOK Try.prog 29 [matD M] (.tup [bD (hangsB k (fM M)), iD 0]) := by
  have hf : ∀ i < 25, 0 ≤ fM M i ∧ fM M i ≤ 9 := fun i _ => fM_b hM i
  have g61 : okS (i29 k (fM M) (hangsB k (fM M))) 61 [matD M] = true := okS_is (by show PureOK Try.prog 61 _ (.tup [.agg (mx25 k (fM M)), iD 0]); rw [← mtx_mx hM h1 h5]; exact c61 hM h1 h5)
  have g73 : okS (i29 k (fM M) (hangsB k (fM M))) 73 [.agg (mx25 k (fM M))] = true := okS_is (c73 h1 h5 hf)
  exact ae_pure (evT_ok (i29 k (fM M) (hangsB k (fM M)))) (fn := Try.f29) k29 (by kernel_rfl) (by kernel_rfl) (startF_done k29 done_plain ((t29 ..).trans ((cond_is' g61).trans (cond_is' g73))))
theorem orI_01 {x y : Int} (hx : x = 0 ∨ x = 1) (hy : y = 0 ∨ y = 1) : orI x y = if x = 1 ∨ y = 1 then 1 else 0 := by
  rcases hx with rfl | rfl <;> rcases hy with rfl | rfl <;> decide +kernel
theorem uF_ok (h5 : k ≤ 5) (f : Nat → Int) {i j : Nat} (hi : i < k) (hj : j < k) : ∀ n, (uF k f n (5 * i + j) = 0 ∨ uF k f n (5 * i + j) = 1) ∧ (uF k f n (5 * i + j) = 1 ↔ ∃ m, 1 ≤ m ∧ m < n ∧ reach k f j m i = true)
  | 0 => ⟨.inl rfl, by constructor; · intro h; cases h
                       · rintro ⟨m, _, h, _⟩; omega⟩
  | n + 1 => by
    obtain ⟨ih1, ih2⟩ := uF_ok h5 f hi hj n
    cases n with
    | zero =>
      refine ⟨.inl rfl, ?_⟩
      constructor
      · intro h; cases h
      · rintro ⟨m, _, h, _⟩; omega
    | succ n =>
      have hx := idx5 (i := i) (show j < 5 by omega)
      have hk : inK k (5 * i + j) = true := inK_iff.2 ⟨by omega, by omega⟩
      have hb : bF k f (n + 1) (5 * i + j) = bif reach k f j (n + 1) i then 1 else 0 := by
        unfold bF
        rw [hk, hx.1, hx.2, Bool.true_and]
      have e : uF k f (n + 1 + 1) (5 * i + j) = orI (uF k f (n + 1) (5 * i + j)) (bF k f (n + 1) (5 * i + j)) := by
        show orF k (uF k f (n + 1)) (bF k f (n + 1)) (5 * i + j) = _
        unfold orF
        unfold inK at hk
        rw [hk]; rfl
      have hb01 : bF k f (n + 1) (5 * i + j) = 0 ∨ bF k f (n + 1) (5 * i + j) = 1 := by rw [hb]; cases reach k f j (n + 1) i <;> simp
      rw [e, orI_01 ih1 hb01]
      refine ⟨by split <;> simp, ?_⟩
      constructor
      · intro h
        split at h
        · rename_i hc
          rcases hc with hc | hc
          · obtain ⟨m, h1, h2, h3⟩ := ih2.1 hc
            exact ⟨m, h1, by omega, h3⟩
          · rw [hb] at hc
            cases hr : reach k f j (n + 1) i with
            | true => exact ⟨n + 1, by omega, by omega, hr⟩
            | false => rw [hr] at hc; cases hc
        · cases h
      · rintro ⟨m, h1, h2, h3⟩
        rw [if_pos]
        rcases Nat.lt_or_ge m (n + 1) with q | q
        · exact .inl (ih2.2 ⟨m, h1, q, h3⟩)
        · have : m = n + 1 := by omega
          subst this
          right; rw [hb, h3]; rfl
theorem uF_out (h5 : k ≤ 5) (f : Nat → Int) {i : Nat} (hi : inK k i = false) : ∀ n, uF k f n i = 0
  | 0 => rfl
  | n + 1 => by
    have ih := uF_out h5 f hi n
    cases n with
    | zero => rfl
    | succ n =>
      show orF k (uF k f (n + 1)) (bF k f (n + 1)) i = 0
      unfold orF
      unfold inK at hi
      rw [hi]; exact ih
theorem hangsB_iff (h5 : k ≤ 5) {f : Nat → Int} : hangsB k f = true ↔ ∀ i j, i < k → j < k → ∃ m, 1 ≤ m ∧ m ≤ k ∧ reach k f j m i = true := by
  unfold hangsB
  rw [eqM_iff]
  constructor
  · intro h i j hi hj
    have hx := idx5 (i := i) (show j < 5 by omega)
    have hk : inK k (5 * i + j) = true := inK_iff.2 ⟨by omega, by omega⟩
    have := h (5 * i + j) (by omega)
    unfold fullF at this
    rw [hk] at this
    obtain ⟨m, h1, h2, h3⟩ := (uF_ok h5 f hi hj (k + 1)).2.1 this
    exact ⟨m, h1, by omega, h3⟩
  · intro h i hi
    unfold fullF
    cases hk : inK k i with
    | false => exact uF_out h5 f hk _
    | true =>
      obtain ⟨h1, h2⟩ := inK_iff.1 hk
      obtain ⟨m, q1, q2, q3⟩ := h (i / 5) (i % 5) h1 h2
      have := (uF_ok h5 f h1 h2 (k + 1)).2.2 ⟨m, q1, by omega, q3⟩
      rw [show 5 * (i / 5) + i % 5 = i by omega] at this
      exact this
end
end Go.Proofs.Ytjfopbpkophoeaa

/- Chapter 06: Beat (30). Written by wip/tools/genX7.py. -/
namespace Go.Proofs.Ytjfopbpkophoeaa
open Go Go.AE
set_option maxRecDepth 100000
def env30 (a : DV) (k : Nat) (f : Nat → Int) : List (Nat × AV) := [(22, .d (.fn 87 [] [.ptr (mx25 k f) 0])), (21, .d (.agg (mx25 k f))), (6, .ref 1 0), (20, .d (bD false)), (19, .d (bD true)), (18, .d (.agg (mx25 k f))), (16, .d (bD false)), (15, .d (iD 0)), (5, .d (iD 0)), (4, .ref 0 0), (14, .d (iD 0)), (13, .d (.agg (mx25 k f))), (10, .d (.tup [.agg (mx25 k f), iD 0])), (12, .d (.tup [.agg (mx25 k f), iD 0])), (11, .d a), (3, .d (iD 0)), (2, .d (iD 0)), (0, .d a)]
noncomputable def H30 (a : DV) (k : Nat) (f : Nat → Int) (x : Int) (st : LoopState) (pe : Option Code) : List Blk := [.dc (mx25 k f), .dc [iD x], .defr, recB 30 Try.f30 (env30 a k f) 2 st pe]
def i30 (k : Nat) (f : Nat → Int) (B : Bool) (g : Nat) (_ : List DV) : DV := bif Nat.beq g 61 then .tup [.agg (mx25 k f), iD 0] else bif Nat.beq g 73 then bD B else .fn 87 [] [.ptr (mx25 k f) 0]
noncomputable def ev30 (ok : Nat → List DV → Bool) (k : Nat) (f : Nat → Int) (B : Bool) (F : List (Nat × RuleF)) : Ev := { evT ok (i30 k f B) with fn := fun f xs h => .node (calmF f) .fail (toldF F f xs h) }
theorem t30 (ok : Nat → List DV → Bool) (a : DV) (k : Nat) (f : Nat → Int) (x : Int) (q : List AV → List Blk → Bool) : startS aeC (ev30 ok k f true [(87, fun xs h => .node (q xs h) (.leaf (.d (.tup []), H30 a k f x .done (some (.exit 0)))) .fail)]) 30 0 Try.f30 none ⟨envOf 0 [.d a], [], []⟩ (doneE aeC Try.f30 0 fun v h => freezeV h 4 v) = bif ok 61 [a] then (bif ok 73 [.agg (mx25 k f)] then (bif ok 74 [.agg (mx25 k f)] then (bif q [.yld 3, .d (.ptr (mx25 k f) 0)] (H30 a k f 0 .ready none) then some (.tup [iD x, iD 0]) else none) else none) else none) else none := by kernel_rfl
theorem t30f (ok : Nat → List DV → Bool) (a : DV) (k : Nat) (f : Nat → Int) (F : List (Nat × RuleF)) : startS aeC (ev30 ok k f false F) 30 0 Try.f30 none ⟨envOf 0 [.d a], [], []⟩ (doneE aeC Try.f30 0 fun v h => freezeV h 4 v) = bif ok 61 [a] then (bif ok 73 [.agg (mx25 k f)] then some (.tup [iD 0, iD 4]) else none) else none := by kernel_rfl
theorem k30 : OkSeg Try.f30 none [] := ⟨by kernel_rfl, by kernel_rfl, by decide⟩
theorem h87_30 (ok : Nat → List DV → Bool) (a : DV) (k : Nat) (P : Nat → List DV → Nat → Int) (f : Nat → Int) (x : Int) : startS aeC (evR ok k P) 87 4 Try.f87 none ⟨envOf 0 [.yld 3, .d (.ptr (mx25 k f) 0)], H30 a k f x .ready none, []⟩ (heldD aeC 87 4) = bif ok 66 [iD k] then some (0, s87 k f 3 4 0 (P 66 [iD k]) (H30 a k f x .ready none)) else none := by kernel_rfl
theorem e87_30 (ok : Nat → List DV → Bool) (a : DV) (k : Nat) (P : Nat → List DV → Nat → Int) (f : Nat → Int) (x : Int) : nextS aeC (evR ok k P) 87 4 Try.f87 none 0 (.exit 0) ⟨[], H30 a k f x .done (some (.exit 0)), []⟩ (doneE aeC Try.f87 4 fun v h => some (v, h)) = some (.d (.tup []), H30 a k f x .done (some (.exit 0))) := by kernel_rfl
noncomputable def R30 (ok : Nat → List DV → Bool) (a : DV) (k : Nat) (P : Nat → List DV → Nat → Int) (f g : Nat → Int) (n x : Nat) : Option (Ex × St) :=
  bif decide (IntKind.wrap .i64 (2 * (k : Int)) < (n : Int)) then some (.exit 0, ⟨[], H30 a k f x .done (some (.exit 0)), []⟩) else bif ok 60 [.agg (mx25 k g)] then (bif decide (0 < P 60 [.agg (mx25 k g)] 0) then nx87 ok k P f g 3 4 n (H30 a k f (Nat.gcd x n : Nat) .ready none) else nx87 ok k P f g 3 4 n (H30 a k f x .ready none)) else none

theorem t87_30_0_0 (ok : Nat → List DV → Bool) (a : DV) (k : Nat) (P : Nat → List DV → Nat → Int) (f g : Nat → Int) : startS aeC (evR ok k P) 87 4 Try.f87 (some 0) (s87 k f 3 4 ((0 : Nat) : Int) g (H30 a k f ((0 : Nat) : Int) .ready none)) (roundD aeC 87 4 0) = R30 ok a k P f g 0 0 := by kernel_rfl
theorem t87_30_0_1 (ok : Nat → List DV → Bool) (a : DV) (k : Nat) (P : Nat → List DV → Nat → Int) (f g : Nat → Int) : startS aeC (evR ok k P) 87 4 Try.f87 (some 0) (s87 k f 3 4 ((0 : Nat) : Int) g (H30 a k f ((1 : Nat) : Int) .ready none)) (roundD aeC 87 4 0) = R30 ok a k P f g 0 1 := by kernel_rfl
theorem t87_30_0_2 (ok : Nat → List DV → Bool) (a : DV) (k : Nat) (P : Nat → List DV → Nat → Int) (f g : Nat → Int) : startS aeC (evR ok k P) 87 4 Try.f87 (some 0) (s87 k f 3 4 ((0 : Nat) : Int) g (H30 a k f ((2 : Nat) : Int) .ready none)) (roundD aeC 87 4 0) = R30 ok a k P f g 0 2 := by kernel_rfl
theorem t87_30_0_3 (ok : Nat → List DV → Bool) (a : DV) (k : Nat) (P : Nat → List DV → Nat → Int) (f g : Nat → Int) : startS aeC (evR ok k P) 87 4 Try.f87 (some 0) (s87 k f 3 4 ((0 : Nat) : Int) g (H30 a k f ((3 : Nat) : Int) .ready none)) (roundD aeC 87 4 0) = R30 ok a k P f g 0 3 := by kernel_rfl
theorem t87_30_0_4 (ok : Nat → List DV → Bool) (a : DV) (k : Nat) (P : Nat → List DV → Nat → Int) (f g : Nat → Int) : startS aeC (evR ok k P) 87 4 Try.f87 (some 0) (s87 k f 3 4 ((0 : Nat) : Int) g (H30 a k f ((4 : Nat) : Int) .ready none)) (roundD aeC 87 4 0) = R30 ok a k P f g 0 4 := by kernel_rfl
theorem t87_30_0_5 (ok : Nat → List DV → Bool) (a : DV) (k : Nat) (P : Nat → List DV → Nat → Int) (f g : Nat → Int) : startS aeC (evR ok k P) 87 4 Try.f87 (some 0) (s87 k f 3 4 ((0 : Nat) : Int) g (H30 a k f ((5 : Nat) : Int) .ready none)) (roundD aeC 87 4 0) = R30 ok a k P f g 0 5 := by kernel_rfl
theorem t87_30_0_6 (ok : Nat → List DV → Bool) (a : DV) (k : Nat) (P : Nat → List DV → Nat → Int) (f g : Nat → Int) : startS aeC (evR ok k P) 87 4 Try.f87 (some 0) (s87 k f 3 4 ((0 : Nat) : Int) g (H30 a k f ((6 : Nat) : Int) .ready none)) (roundD aeC 87 4 0) = R30 ok a k P f g 0 6 := by kernel_rfl
theorem t87_30_0_7 (ok : Nat → List DV → Bool) (a : DV) (k : Nat) (P : Nat → List DV → Nat → Int) (f g : Nat → Int) : startS aeC (evR ok k P) 87 4 Try.f87 (some 0) (s87 k f 3 4 ((0 : Nat) : Int) g (H30 a k f ((7 : Nat) : Int) .ready none)) (roundD aeC 87 4 0) = R30 ok a k P f g 0 7 := by kernel_rfl
theorem t87_30_0_8 (ok : Nat → List DV → Bool) (a : DV) (k : Nat) (P : Nat → List DV → Nat → Int) (f g : Nat → Int) : startS aeC (evR ok k P) 87 4 Try.f87 (some 0) (s87 k f 3 4 ((0 : Nat) : Int) g (H30 a k f ((8 : Nat) : Int) .ready none)) (roundD aeC 87 4 0) = R30 ok a k P f g 0 8 := by kernel_rfl
theorem t87_30_0_9 (ok : Nat → List DV → Bool) (a : DV) (k : Nat) (P : Nat → List DV → Nat → Int) (f g : Nat → Int) : startS aeC (evR ok k P) 87 4 Try.f87 (some 0) (s87 k f 3 4 ((0 : Nat) : Int) g (H30 a k f ((9 : Nat) : Int) .ready none)) (roundD aeC 87 4 0) = R30 ok a k P f g 0 9 := by kernel_rfl
theorem t87_30_0_10 (ok : Nat → List DV → Bool) (a : DV) (k : Nat) (P : Nat → List DV → Nat → Int) (f g : Nat → Int) : startS aeC (evR ok k P) 87 4 Try.f87 (some 0) (s87 k f 3 4 ((0 : Nat) : Int) g (H30 a k f ((10 : Nat) : Int) .ready none)) (roundD aeC 87 4 0) = R30 ok a k P f g 0 10 := by kernel_rfl
theorem t87_30_1_0 (ok : Nat → List DV → Bool) (a : DV) (k : Nat) (P : Nat → List DV → Nat → Int) (f g : Nat → Int) : startS aeC (evR ok k P) 87 4 Try.f87 (some 0) (s87 k f 3 4 ((1 : Nat) : Int) g (H30 a k f ((0 : Nat) : Int) .ready none)) (roundD aeC 87 4 0) = R30 ok a k P f g 1 0 := by kernel_rfl
theorem t87_30_1_1 (ok : Nat → List DV → Bool) (a : DV) (k : Nat) (P : Nat → List DV → Nat → Int) (f g : Nat → Int) : startS aeC (evR ok k P) 87 4 Try.f87 (some 0) (s87 k f 3 4 ((1 : Nat) : Int) g (H30 a k f ((1 : Nat) : Int) .ready none)) (roundD aeC 87 4 0) = R30 ok a k P f g 1 1 := by kernel_rfl
theorem t87_30_1_2 (ok : Nat → List DV → Bool) (a : DV) (k : Nat) (P : Nat → List DV → Nat → Int) (f g : Nat → Int) : startS aeC (evR ok k P) 87 4 Try.f87 (some 0) (s87 k f 3 4 ((1 : Nat) : Int) g (H30 a k f ((2 : Nat) : Int) .ready none)) (roundD aeC 87 4 0) = R30 ok a k P f g 1 2 := by kernel_rfl
theorem t87_30_1_3 (ok : Nat → List DV → Bool) (a : DV) (k : Nat) (P : Nat → List DV → Nat → Int) (f g : Nat → Int) : startS aeC (evR ok k P) 87 4 Try.f87 (some 0) (s87 k f 3 4 ((1 : Nat) : Int) g (H30 a k f ((3 : Nat) : Int) .ready none)) (roundD aeC 87 4 0) = R30 ok a k P f g 1 3 := by kernel_rfl
theorem t87_30_1_4 (ok : Nat → List DV → Bool) (a : DV) (k : Nat) (P : Nat → List DV → Nat → Int) (f g : Nat → Int) : startS aeC (evR ok k P) 87 4 Try.f87 (some 0) (s87 k f 3 4 ((1 : Nat) : Int) g (H30 a k f ((4 : Nat) : Int) .ready none)) (roundD aeC 87 4 0) = R30 ok a k P f g 1 4 := by kernel_rfl
theorem t87_30_1_5 (ok : Nat → List DV → Bool) (a : DV) (k : Nat) (P : Nat → List DV → Nat → Int) (f g : Nat → Int) : startS aeC (evR ok k P) 87 4 Try.f87 (some 0) (s87 k f 3 4 ((1 : Nat) : Int) g (H30 a k f ((5 : Nat) : Int) .ready none)) (roundD aeC 87 4 0) = R30 ok a k P f g 1 5 := by kernel_rfl
theorem t87_30_1_6 (ok : Nat → List DV → Bool) (a : DV) (k : Nat) (P : Nat → List DV → Nat → Int) (f g : Nat → Int) : startS aeC (evR ok k P) 87 4 Try.f87 (some 0) (s87 k f 3 4 ((1 : Nat) : Int) g (H30 a k f ((6 : Nat) : Int) .ready none)) (roundD aeC 87 4 0) = R30 ok a k P f g 1 6 := by kernel_rfl
theorem t87_30_1_7 (ok : Nat → List DV → Bool) (a : DV) (k : Nat) (P : Nat → List DV → Nat → Int) (f g : Nat → Int) : startS aeC (evR ok k P) 87 4 Try.f87 (some 0) (s87 k f 3 4 ((1 : Nat) : Int) g (H30 a k f ((7 : Nat) : Int) .ready none)) (roundD aeC 87 4 0) = R30 ok a k P f g 1 7 := by kernel_rfl
theorem t87_30_1_8 (ok : Nat → List DV → Bool) (a : DV) (k : Nat) (P : Nat → List DV → Nat → Int) (f g : Nat → Int) : startS aeC (evR ok k P) 87 4 Try.f87 (some 0) (s87 k f 3 4 ((1 : Nat) : Int) g (H30 a k f ((8 : Nat) : Int) .ready none)) (roundD aeC 87 4 0) = R30 ok a k P f g 1 8 := by kernel_rfl
theorem t87_30_1_9 (ok : Nat → List DV → Bool) (a : DV) (k : Nat) (P : Nat → List DV → Nat → Int) (f g : Nat → Int) : startS aeC (evR ok k P) 87 4 Try.f87 (some 0) (s87 k f 3 4 ((1 : Nat) : Int) g (H30 a k f ((9 : Nat) : Int) .ready none)) (roundD aeC 87 4 0) = R30 ok a k P f g 1 9 := by kernel_rfl
theorem t87_30_1_10 (ok : Nat → List DV → Bool) (a : DV) (k : Nat) (P : Nat → List DV → Nat → Int) (f g : Nat → Int) : startS aeC (evR ok k P) 87 4 Try.f87 (some 0) (s87 k f 3 4 ((1 : Nat) : Int) g (H30 a k f ((10 : Nat) : Int) .ready none)) (roundD aeC 87 4 0) = R30 ok a k P f g 1 10 := by kernel_rfl
theorem t87_30_2_0 (ok : Nat → List DV → Bool) (a : DV) (k : Nat) (P : Nat → List DV → Nat → Int) (f g : Nat → Int) : startS aeC (evR ok k P) 87 4 Try.f87 (some 0) (s87 k f 3 4 ((2 : Nat) : Int) g (H30 a k f ((0 : Nat) : Int) .ready none)) (roundD aeC 87 4 0) = R30 ok a k P f g 2 0 := by kernel_rfl
theorem t87_30_2_1 (ok : Nat → List DV → Bool) (a : DV) (k : Nat) (P : Nat → List DV → Nat → Int) (f g : Nat → Int) : startS aeC (evR ok k P) 87 4 Try.f87 (some 0) (s87 k f 3 4 ((2 : Nat) : Int) g (H30 a k f ((1 : Nat) : Int) .ready none)) (roundD aeC 87 4 0) = R30 ok a k P f g 2 1 := by kernel_rfl
theorem t87_30_2_2 (ok : Nat → List DV → Bool) (a : DV) (k : Nat) (P : Nat → List DV → Nat → Int) (f g : Nat → Int) : startS aeC (evR ok k P) 87 4 Try.f87 (some 0) (s87 k f 3 4 ((2 : Nat) : Int) g (H30 a k f ((2 : Nat) : Int) .ready none)) (roundD aeC 87 4 0) = R30 ok a k P f g 2 2 := by kernel_rfl
theorem t87_30_2_3 (ok : Nat → List DV → Bool) (a : DV) (k : Nat) (P : Nat → List DV → Nat → Int) (f g : Nat → Int) : startS aeC (evR ok k P) 87 4 Try.f87 (some 0) (s87 k f 3 4 ((2 : Nat) : Int) g (H30 a k f ((3 : Nat) : Int) .ready none)) (roundD aeC 87 4 0) = R30 ok a k P f g 2 3 := by kernel_rfl
theorem t87_30_2_4 (ok : Nat → List DV → Bool) (a : DV) (k : Nat) (P : Nat → List DV → Nat → Int) (f g : Nat → Int) : startS aeC (evR ok k P) 87 4 Try.f87 (some 0) (s87 k f 3 4 ((2 : Nat) : Int) g (H30 a k f ((4 : Nat) : Int) .ready none)) (roundD aeC 87 4 0) = R30 ok a k P f g 2 4 := by kernel_rfl
theorem t87_30_2_5 (ok : Nat → List DV → Bool) (a : DV) (k : Nat) (P : Nat → List DV → Nat → Int) (f g : Nat → Int) : startS aeC (evR ok k P) 87 4 Try.f87 (some 0) (s87 k f 3 4 ((2 : Nat) : Int) g (H30 a k f ((5 : Nat) : Int) .ready none)) (roundD aeC 87 4 0) = R30 ok a k P f g 2 5 := by kernel_rfl
theorem t87_30_2_6 (ok : Nat → List DV → Bool) (a : DV) (k : Nat) (P : Nat → List DV → Nat → Int) (f g : Nat → Int) : startS aeC (evR ok k P) 87 4 Try.f87 (some 0) (s87 k f 3 4 ((2 : Nat) : Int) g (H30 a k f ((6 : Nat) : Int) .ready none)) (roundD aeC 87 4 0) = R30 ok a k P f g 2 6 := by kernel_rfl
theorem t87_30_2_7 (ok : Nat → List DV → Bool) (a : DV) (k : Nat) (P : Nat → List DV → Nat → Int) (f g : Nat → Int) : startS aeC (evR ok k P) 87 4 Try.f87 (some 0) (s87 k f 3 4 ((2 : Nat) : Int) g (H30 a k f ((7 : Nat) : Int) .ready none)) (roundD aeC 87 4 0) = R30 ok a k P f g 2 7 := by kernel_rfl
theorem t87_30_2_8 (ok : Nat → List DV → Bool) (a : DV) (k : Nat) (P : Nat → List DV → Nat → Int) (f g : Nat → Int) : startS aeC (evR ok k P) 87 4 Try.f87 (some 0) (s87 k f 3 4 ((2 : Nat) : Int) g (H30 a k f ((8 : Nat) : Int) .ready none)) (roundD aeC 87 4 0) = R30 ok a k P f g 2 8 := by kernel_rfl
theorem t87_30_2_9 (ok : Nat → List DV → Bool) (a : DV) (k : Nat) (P : Nat → List DV → Nat → Int) (f g : Nat → Int) : startS aeC (evR ok k P) 87 4 Try.f87 (some 0) (s87 k f 3 4 ((2 : Nat) : Int) g (H30 a k f ((9 : Nat) : Int) .ready none)) (roundD aeC 87 4 0) = R30 ok a k P f g 2 9 := by kernel_rfl
theorem t87_30_2_10 (ok : Nat → List DV → Bool) (a : DV) (k : Nat) (P : Nat → List DV → Nat → Int) (f g : Nat → Int) : startS aeC (evR ok k P) 87 4 Try.f87 (some 0) (s87 k f 3 4 ((2 : Nat) : Int) g (H30 a k f ((10 : Nat) : Int) .ready none)) (roundD aeC 87 4 0) = R30 ok a k P f g 2 10 := by kernel_rfl
theorem t87_30_3_0 (ok : Nat → List DV → Bool) (a : DV) (k : Nat) (P : Nat → List DV → Nat → Int) (f g : Nat → Int) : startS aeC (evR ok k P) 87 4 Try.f87 (some 0) (s87 k f 3 4 ((3 : Nat) : Int) g (H30 a k f ((0 : Nat) : Int) .ready none)) (roundD aeC 87 4 0) = R30 ok a k P f g 3 0 := by kernel_rfl
theorem t87_30_3_1 (ok : Nat → List DV → Bool) (a : DV) (k : Nat) (P : Nat → List DV → Nat → Int) (f g : Nat → Int) : startS aeC (evR ok k P) 87 4 Try.f87 (some 0) (s87 k f 3 4 ((3 : Nat) : Int) g (H30 a k f ((1 : Nat) : Int) .ready none)) (roundD aeC 87 4 0) = R30 ok a k P f g 3 1 := by kernel_rfl
theorem t87_30_3_2 (ok : Nat → List DV → Bool) (a : DV) (k : Nat) (P : Nat → List DV → Nat → Int) (f g : Nat → Int) : startS aeC (evR ok k P) 87 4 Try.f87 (some 0) (s87 k f 3 4 ((3 : Nat) : Int) g (H30 a k f ((2 : Nat) : Int) .ready none)) (roundD aeC 87 4 0) = R30 ok a k P f g 3 2 := by kernel_rfl
theorem t87_30_3_3 (ok : Nat → List DV → Bool) (a : DV) (k : Nat) (P : Nat → List DV → Nat → Int) (f g : Nat → Int) : startS aeC (evR ok k P) 87 4 Try.f87 (some 0) (s87 k f 3 4 ((3 : Nat) : Int) g (H30 a k f ((3 : Nat) : Int) .ready none)) (roundD aeC 87 4 0) = R30 ok a k P f g 3 3 := by kernel_rfl
theorem t87_30_3_4 (ok : Nat → List DV → Bool) (a : DV) (k : Nat) (P : Nat → List DV → Nat → Int) (f g : Nat → Int) : startS aeC (evR ok k P) 87 4 Try.f87 (some 0) (s87 k f 3 4 ((3 : Nat) : Int) g (H30 a k f ((4 : Nat) : Int) .ready none)) (roundD aeC 87 4 0) = R30 ok a k P f g 3 4 := by kernel_rfl
theorem t87_30_3_5 (ok : Nat → List DV → Bool) (a : DV) (k : Nat) (P : Nat → List DV → Nat → Int) (f g : Nat → Int) : startS aeC (evR ok k P) 87 4 Try.f87 (some 0) (s87 k f 3 4 ((3 : Nat) : Int) g (H30 a k f ((5 : Nat) : Int) .ready none)) (roundD aeC 87 4 0) = R30 ok a k P f g 3 5 := by kernel_rfl
theorem t87_30_3_6 (ok : Nat → List DV → Bool) (a : DV) (k : Nat) (P : Nat → List DV → Nat → Int) (f g : Nat → Int) : startS aeC (evR ok k P) 87 4 Try.f87 (some 0) (s87 k f 3 4 ((3 : Nat) : Int) g (H30 a k f ((6 : Nat) : Int) .ready none)) (roundD aeC 87 4 0) = R30 ok a k P f g 3 6 := by kernel_rfl
theorem t87_30_3_7 (ok : Nat → List DV → Bool) (a : DV) (k : Nat) (P : Nat → List DV → Nat → Int) (f g : Nat → Int) : startS aeC (evR ok k P) 87 4 Try.f87 (some 0) (s87 k f 3 4 ((3 : Nat) : Int) g (H30 a k f ((7 : Nat) : Int) .ready none)) (roundD aeC 87 4 0) = R30 ok a k P f g 3 7 := by kernel_rfl
theorem t87_30_3_8 (ok : Nat → List DV → Bool) (a : DV) (k : Nat) (P : Nat → List DV → Nat → Int) (f g : Nat → Int) : startS aeC (evR ok k P) 87 4 Try.f87 (some 0) (s87 k f 3 4 ((3 : Nat) : Int) g (H30 a k f ((8 : Nat) : Int) .ready none)) (roundD aeC 87 4 0) = R30 ok a k P f g 3 8 := by kernel_rfl
theorem t87_30_3_9 (ok : Nat → List DV → Bool) (a : DV) (k : Nat) (P : Nat → List DV → Nat → Int) (f g : Nat → Int) : startS aeC (evR ok k P) 87 4 Try.f87 (some 0) (s87 k f 3 4 ((3 : Nat) : Int) g (H30 a k f ((9 : Nat) : Int) .ready none)) (roundD aeC 87 4 0) = R30 ok a k P f g 3 9 := by kernel_rfl
theorem t87_30_3_10 (ok : Nat → List DV → Bool) (a : DV) (k : Nat) (P : Nat → List DV → Nat → Int) (f g : Nat → Int) : startS aeC (evR ok k P) 87 4 Try.f87 (some 0) (s87 k f 3 4 ((3 : Nat) : Int) g (H30 a k f ((10 : Nat) : Int) .ready none)) (roundD aeC 87 4 0) = R30 ok a k P f g 3 10 := by kernel_rfl
theorem t87_30_4_0 (ok : Nat → List DV → Bool) (a : DV) (k : Nat) (P : Nat → List DV → Nat → Int) (f g : Nat → Int) : startS aeC (evR ok k P) 87 4 Try.f87 (some 0) (s87 k f 3 4 ((4 : Nat) : Int) g (H30 a k f ((0 : Nat) : Int) .ready none)) (roundD aeC 87 4 0) = R30 ok a k P f g 4 0 := by kernel_rfl
theorem t87_30_4_1 (ok : Nat → List DV → Bool) (a : DV) (k : Nat) (P : Nat → List DV → Nat → Int) (f g : Nat → Int) : startS aeC (evR ok k P) 87 4 Try.f87 (some 0) (s87 k f 3 4 ((4 : Nat) : Int) g (H30 a k f ((1 : Nat) : Int) .ready none)) (roundD aeC 87 4 0) = R30 ok a k P f g 4 1 := by kernel_rfl
theorem t87_30_4_2 (ok : Nat → List DV → Bool) (a : DV) (k : Nat) (P : Nat → List DV → Nat → Int) (f g : Nat → Int) : startS aeC (evR ok k P) 87 4 Try.f87 (some 0) (s87 k f 3 4 ((4 : Nat) : Int) g (H30 a k f ((2 : Nat) : Int) .ready none)) (roundD aeC 87 4 0) = R30 ok a k P f g 4 2 := by kernel_rfl
theorem t87_30_4_3 (ok : Nat → List DV → Bool) (a : DV) (k : Nat) (P : Nat → List DV → Nat → Int) (f g : Nat → Int) : startS aeC (evR ok k P) 87 4 Try.f87 (some 0) (s87 k f 3 4 ((4 : Nat) : Int) g (H30 a k f ((3 : Nat) : Int) .ready none)) (roundD aeC 87 4 0) = R30 ok a k P f g 4 3 := by kernel_rfl
theorem t87_30_4_4 (ok : Nat → List DV → Bool) (a : DV) (k : Nat) (P : Nat → List DV → Nat → Int) (f g : Nat → Int) : startS aeC (evR ok k P) 87 4 Try.f87 (some 0) (s87 k f 3 4 ((4 : Nat) : Int) g (H30 a k f ((4 : Nat) : Int) .ready none)) (roundD aeC 87 4 0) = R30 ok a k P f g 4 4 := by kernel_rfl
theorem t87_30_4_5 (ok : Nat → List DV → Bool) (a : DV) (k : Nat) (P : Nat → List DV → Nat → Int) (f g : Nat → Int) : startS aeC (evR ok k P) 87 4 Try.f87 (some 0) (s87 k f 3 4 ((4 : Nat) : Int) g (H30 a k f ((5 : Nat) : Int) .ready none)) (roundD aeC 87 4 0) = R30 ok a k P f g 4 5 := by kernel_rfl
theorem t87_30_4_6 (ok : Nat → List DV → Bool) (a : DV) (k : Nat) (P : Nat → List DV → Nat → Int) (f g : Nat → Int) : startS aeC (evR ok k P) 87 4 Try.f87 (some 0) (s87 k f 3 4 ((4 : Nat) : Int) g (H30 a k f ((6 : Nat) : Int) .ready none)) (roundD aeC 87 4 0) = R30 ok a k P f g 4 6 := by kernel_rfl
theorem t87_30_4_7 (ok : Nat → List DV → Bool) (a : DV) (k : Nat) (P : Nat → List DV → Nat → Int) (f g : Nat → Int) : startS aeC (evR ok k P) 87 4 Try.f87 (some 0) (s87 k f 3 4 ((4 : Nat) : Int) g (H30 a k f ((7 : Nat) : Int) .ready none)) (roundD aeC 87 4 0) = R30 ok a k P f g 4 7 := by kernel_rfl
theorem t87_30_4_8 (ok : Nat → List DV → Bool) (a : DV) (k : Nat) (P : Nat → List DV → Nat → Int) (f g : Nat → Int) : startS aeC (evR ok k P) 87 4 Try.f87 (some 0) (s87 k f 3 4 ((4 : Nat) : Int) g (H30 a k f ((8 : Nat) : Int) .ready none)) (roundD aeC 87 4 0) = R30 ok a k P f g 4 8 := by kernel_rfl
theorem t87_30_4_9 (ok : Nat → List DV → Bool) (a : DV) (k : Nat) (P : Nat → List DV → Nat → Int) (f g : Nat → Int) : startS aeC (evR ok k P) 87 4 Try.f87 (some 0) (s87 k f 3 4 ((4 : Nat) : Int) g (H30 a k f ((9 : Nat) : Int) .ready none)) (roundD aeC 87 4 0) = R30 ok a k P f g 4 9 := by kernel_rfl
theorem t87_30_4_10 (ok : Nat → List DV → Bool) (a : DV) (k : Nat) (P : Nat → List DV → Nat → Int) (f g : Nat → Int) : startS aeC (evR ok k P) 87 4 Try.f87 (some 0) (s87 k f 3 4 ((4 : Nat) : Int) g (H30 a k f ((10 : Nat) : Int) .ready none)) (roundD aeC 87 4 0) = R30 ok a k P f g 4 10 := by kernel_rfl
theorem t87_30_5_0 (ok : Nat → List DV → Bool) (a : DV) (k : Nat) (P : Nat → List DV → Nat → Int) (f g : Nat → Int) : startS aeC (evR ok k P) 87 4 Try.f87 (some 0) (s87 k f 3 4 ((5 : Nat) : Int) g (H30 a k f ((0 : Nat) : Int) .ready none)) (roundD aeC 87 4 0) = R30 ok a k P f g 5 0 := by kernel_rfl
theorem t87_30_5_1 (ok : Nat → List DV → Bool) (a : DV) (k : Nat) (P : Nat → List DV → Nat → Int) (f g : Nat → Int) : startS aeC (evR ok k P) 87 4 Try.f87 (some 0) (s87 k f 3 4 ((5 : Nat) : Int) g (H30 a k f ((1 : Nat) : Int) .ready none)) (roundD aeC 87 4 0) = R30 ok a k P f g 5 1 := by kernel_rfl
theorem t87_30_5_2 (ok : Nat → List DV → Bool) (a : DV) (k : Nat) (P : Nat → List DV → Nat → Int) (f g : Nat → Int) : startS aeC (evR ok k P) 87 4 Try.f87 (some 0) (s87 k f 3 4 ((5 : Nat) : Int) g (H30 a k f ((2 : Nat) : Int) .ready none)) (roundD aeC 87 4 0) = R30 ok a k P f g 5 2 := by kernel_rfl
theorem t87_30_5_3 (ok : Nat → List DV → Bool) (a : DV) (k : Nat) (P : Nat → List DV → Nat → Int) (f g : Nat → Int) : startS aeC (evR ok k P) 87 4 Try.f87 (some 0) (s87 k f 3 4 ((5 : Nat) : Int) g (H30 a k f ((3 : Nat) : Int) .ready none)) (roundD aeC 87 4 0) = R30 ok a k P f g 5 3 := by kernel_rfl
theorem t87_30_5_4 (ok : Nat → List DV → Bool) (a : DV) (k : Nat) (P : Nat → List DV → Nat → Int) (f g : Nat → Int) : startS aeC (evR ok k P) 87 4 Try.f87 (some 0) (s87 k f 3 4 ((5 : Nat) : Int) g (H30 a k f ((4 : Nat) : Int) .ready none)) (roundD aeC 87 4 0) = R30 ok a k P f g 5 4 := by kernel_rfl
theorem t87_30_5_5 (ok : Nat → List DV → Bool) (a : DV) (k : Nat) (P : Nat → List DV → Nat → Int) (f g : Nat → Int) : startS aeC (evR ok k P) 87 4 Try.f87 (some 0) (s87 k f 3 4 ((5 : Nat) : Int) g (H30 a k f ((5 : Nat) : Int) .ready none)) (roundD aeC 87 4 0) = R30 ok a k P f g 5 5 := by kernel_rfl
theorem t87_30_5_6 (ok : Nat → List DV → Bool) (a : DV) (k : Nat) (P : Nat → List DV → Nat → Int) (f g : Nat → Int) : startS aeC (evR ok k P) 87 4 Try.f87 (some 0) (s87 k f 3 4 ((5 : Nat) : Int) g (H30 a k f ((6 : Nat) : Int) .ready none)) (roundD aeC 87 4 0) = R30 ok a k P f g 5 6 := by kernel_rfl
theorem t87_30_5_7 (ok : Nat → List DV → Bool) (a : DV) (k : Nat) (P : Nat → List DV → Nat → Int) (f g : Nat → Int) : startS aeC (evR ok k P) 87 4 Try.f87 (some 0) (s87 k f 3 4 ((5 : Nat) : Int) g (H30 a k f ((7 : Nat) : Int) .ready none)) (roundD aeC 87 4 0) = R30 ok a k P f g 5 7 := by kernel_rfl
theorem t87_30_5_8 (ok : Nat → List DV → Bool) (a : DV) (k : Nat) (P : Nat → List DV → Nat → Int) (f g : Nat → Int) : startS aeC (evR ok k P) 87 4 Try.f87 (some 0) (s87 k f 3 4 ((5 : Nat) : Int) g (H30 a k f ((8 : Nat) : Int) .ready none)) (roundD aeC 87 4 0) = R30 ok a k P f g 5 8 := by kernel_rfl
theorem t87_30_5_9 (ok : Nat → List DV → Bool) (a : DV) (k : Nat) (P : Nat → List DV → Nat → Int) (f g : Nat → Int) : startS aeC (evR ok k P) 87 4 Try.f87 (some 0) (s87 k f 3 4 ((5 : Nat) : Int) g (H30 a k f ((9 : Nat) : Int) .ready none)) (roundD aeC 87 4 0) = R30 ok a k P f g 5 9 := by kernel_rfl
theorem t87_30_5_10 (ok : Nat → List DV → Bool) (a : DV) (k : Nat) (P : Nat → List DV → Nat → Int) (f g : Nat → Int) : startS aeC (evR ok k P) 87 4 Try.f87 (some 0) (s87 k f 3 4 ((5 : Nat) : Int) g (H30 a k f ((10 : Nat) : Int) .ready none)) (roundD aeC 87 4 0) = R30 ok a k P f g 5 10 := by kernel_rfl
theorem t87_30_6_0 (ok : Nat → List DV → Bool) (a : DV) (k : Nat) (P : Nat → List DV → Nat → Int) (f g : Nat → Int) : startS aeC (evR ok k P) 87 4 Try.f87 (some 0) (s87 k f 3 4 ((6 : Nat) : Int) g (H30 a k f ((0 : Nat) : Int) .ready none)) (roundD aeC 87 4 0) = R30 ok a k P f g 6 0 := by kernel_rfl
theorem t87_30_6_1 (ok : Nat → List DV → Bool) (a : DV) (k : Nat) (P : Nat → List DV → Nat → Int) (f g : Nat → Int) : startS aeC (evR ok k P) 87 4 Try.f87 (some 0) (s87 k f 3 4 ((6 : Nat) : Int) g (H30 a k f ((1 : Nat) : Int) .ready none)) (roundD aeC 87 4 0) = R30 ok a k P f g 6 1 := by kernel_rfl
theorem t87_30_6_2 (ok : Nat → List DV → Bool) (a : DV) (k : Nat) (P : Nat → List DV → Nat → Int) (f g : Nat → Int) : startS aeC (evR ok k P) 87 4 Try.f87 (some 0) (s87 k f 3 4 ((6 : Nat) : Int) g (H30 a k f ((2 : Nat) : Int) .ready none)) (roundD aeC 87 4 0) = R30 ok a k P f g 6 2 := by kernel_rfl
theorem t87_30_6_3 (ok : Nat → List DV → Bool) (a : DV) (k : Nat) (P : Nat → List DV → Nat → Int) (f g : Nat → Int) : startS aeC (evR ok k P) 87 4 Try.f87 (some 0) (s87 k f 3 4 ((6 : Nat) : Int) g (H30 a k f ((3 : Nat) : Int) .ready none)) (roundD aeC 87 4 0) = R30 ok a k P f g 6 3 := by kernel_rfl
theorem t87_30_6_4 (ok : Nat → List DV → Bool) (a : DV) (k : Nat) (P : Nat → List DV → Nat → Int) (f g : Nat → Int) : startS aeC (evR ok k P) 87 4 Try.f87 (some 0) (s87 k f 3 4 ((6 : Nat) : Int) g (H30 a k f ((4 : Nat) : Int) .ready none)) (roundD aeC 87 4 0) = R30 ok a k P f g 6 4 := by kernel_rfl
theorem t87_30_6_5 (ok : Nat → List DV → Bool) (a : DV) (k : Nat) (P : Nat → List DV → Nat → Int) (f g : Nat → Int) : startS aeC (evR ok k P) 87 4 Try.f87 (some 0) (s87 k f 3 4 ((6 : Nat) : Int) g (H30 a k f ((5 : Nat) : Int) .ready none)) (roundD aeC 87 4 0) = R30 ok a k P f g 6 5 := by kernel_rfl
theorem t87_30_6_6 (ok : Nat → List DV → Bool) (a : DV) (k : Nat) (P : Nat → List DV → Nat → Int) (f g : Nat → Int) : startS aeC (evR ok k P) 87 4 Try.f87 (some 0) (s87 k f 3 4 ((6 : Nat) : Int) g (H30 a k f ((6 : Nat) : Int) .ready none)) (roundD aeC 87 4 0) = R30 ok a k P f g 6 6 := by kernel_rfl
theorem t87_30_6_7 (ok : Nat → List DV → Bool) (a : DV) (k : Nat) (P : Nat → List DV → Nat → Int) (f g : Nat → Int) : startS aeC (evR ok k P) 87 4 Try.f87 (some 0) (s87 k f 3 4 ((6 : Nat) : Int) g (H30 a k f ((7 : Nat) : Int) .ready none)) (roundD aeC 87 4 0) = R30 ok a k P f g 6 7 := by kernel_rfl
theorem t87_30_6_8 (ok : Nat → List DV → Bool) (a : DV) (k : Nat) (P : Nat → List DV → Nat → Int) (f g : Nat → Int) : startS aeC (evR ok k P) 87 4 Try.f87 (some 0) (s87 k f 3 4 ((6 : Nat) : Int) g (H30 a k f ((8 : Nat) : Int) .ready none)) (roundD aeC 87 4 0) = R30 ok a k P f g 6 8 := by kernel_rfl
theorem t87_30_6_9 (ok : Nat → List DV → Bool) (a : DV) (k : Nat) (P : Nat → List DV → Nat → Int) (f g : Nat → Int) : startS aeC (evR ok k P) 87 4 Try.f87 (some 0) (s87 k f 3 4 ((6 : Nat) : Int) g (H30 a k f ((9 : Nat) : Int) .ready none)) (roundD aeC 87 4 0) = R30 ok a k P f g 6 9 := by kernel_rfl
theorem t87_30_6_10 (ok : Nat → List DV → Bool) (a : DV) (k : Nat) (P : Nat → List DV → Nat → Int) (f g : Nat → Int) : startS aeC (evR ok k P) 87 4 Try.f87 (some 0) (s87 k f 3 4 ((6 : Nat) : Int) g (H30 a k f ((10 : Nat) : Int) .ready none)) (roundD aeC 87 4 0) = R30 ok a k P f g 6 10 := by kernel_rfl
theorem t87_30_7_0 (ok : Nat → List DV → Bool) (a : DV) (k : Nat) (P : Nat → List DV → Nat → Int) (f g : Nat → Int) : startS aeC (evR ok k P) 87 4 Try.f87 (some 0) (s87 k f 3 4 ((7 : Nat) : Int) g (H30 a k f ((0 : Nat) : Int) .ready none)) (roundD aeC 87 4 0) = R30 ok a k P f g 7 0 := by kernel_rfl
theorem t87_30_7_1 (ok : Nat → List DV → Bool) (a : DV) (k : Nat) (P : Nat → List DV → Nat → Int) (f g : Nat → Int) : startS aeC (evR ok k P) 87 4 Try.f87 (some 0) (s87 k f 3 4 ((7 : Nat) : Int) g (H30 a k f ((1 : Nat) : Int) .ready none)) (roundD aeC 87 4 0) = R30 ok a k P f g 7 1 := by kernel_rfl
theorem t87_30_7_2 (ok : Nat → List DV → Bool) (a : DV) (k : Nat) (P : Nat → List DV → Nat → Int) (f g : Nat → Int) : startS aeC (evR ok k P) 87 4 Try.f87 (some 0) (s87 k f 3 4 ((7 : Nat) : Int) g (H30 a k f ((2 : Nat) : Int) .ready none)) (roundD aeC 87 4 0) = R30 ok a k P f g 7 2 := by kernel_rfl
theorem t87_30_7_3 (ok : Nat → List DV → Bool) (a : DV) (k : Nat) (P : Nat → List DV → Nat → Int) (f g : Nat → Int) : startS aeC (evR ok k P) 87 4 Try.f87 (some 0) (s87 k f 3 4 ((7 : Nat) : Int) g (H30 a k f ((3 : Nat) : Int) .ready none)) (roundD aeC 87 4 0) = R30 ok a k P f g 7 3 := by kernel_rfl
theorem t87_30_7_4 (ok : Nat → List DV → Bool) (a : DV) (k : Nat) (P : Nat → List DV → Nat → Int) (f g : Nat → Int) : startS aeC (evR ok k P) 87 4 Try.f87 (some 0) (s87 k f 3 4 ((7 : Nat) : Int) g (H30 a k f ((4 : Nat) : Int) .ready none)) (roundD aeC 87 4 0) = R30 ok a k P f g 7 4 := by kernel_rfl
theorem t87_30_7_5 (ok : Nat → List DV → Bool) (a : DV) (k : Nat) (P : Nat → List DV → Nat → Int) (f g : Nat → Int) : startS aeC (evR ok k P) 87 4 Try.f87 (some 0) (s87 k f 3 4 ((7 : Nat) : Int) g (H30 a k f ((5 : Nat) : Int) .ready none)) (roundD aeC 87 4 0) = R30 ok a k P f g 7 5 := by kernel_rfl
theorem t87_30_7_6 (ok : Nat → List DV → Bool) (a : DV) (k : Nat) (P : Nat → List DV → Nat → Int) (f g : Nat → Int) : startS aeC (evR ok k P) 87 4 Try.f87 (some 0) (s87 k f 3 4 ((7 : Nat) : Int) g (H30 a k f ((6 : Nat) : Int) .ready none)) (roundD aeC 87 4 0) = R30 ok a k P f g 7 6 := by kernel_rfl
theorem t87_30_7_7 (ok : Nat → List DV → Bool) (a : DV) (k : Nat) (P : Nat → List DV → Nat → Int) (f g : Nat → Int) : startS aeC (evR ok k P) 87 4 Try.f87 (some 0) (s87 k f 3 4 ((7 : Nat) : Int) g (H30 a k f ((7 : Nat) : Int) .ready none)) (roundD aeC 87 4 0) = R30 ok a k P f g 7 7 := by kernel_rfl
theorem t87_30_7_8 (ok : Nat → List DV → Bool) (a : DV) (k : Nat) (P : Nat → List DV → Nat → Int) (f g : Nat → Int) : startS aeC (evR ok k P) 87 4 Try.f87 (some 0) (s87 k f 3 4 ((7 : Nat) : Int) g (H30 a k f ((8 : Nat) : Int) .ready none)) (roundD aeC 87 4 0) = R30 ok a k P f g 7 8 := by kernel_rfl
theorem t87_30_7_9 (ok : Nat → List DV → Bool) (a : DV) (k : Nat) (P : Nat → List DV → Nat → Int) (f g : Nat → Int) : startS aeC (evR ok k P) 87 4 Try.f87 (some 0) (s87 k f 3 4 ((7 : Nat) : Int) g (H30 a k f ((9 : Nat) : Int) .ready none)) (roundD aeC 87 4 0) = R30 ok a k P f g 7 9 := by kernel_rfl
theorem t87_30_7_10 (ok : Nat → List DV → Bool) (a : DV) (k : Nat) (P : Nat → List DV → Nat → Int) (f g : Nat → Int) : startS aeC (evR ok k P) 87 4 Try.f87 (some 0) (s87 k f 3 4 ((7 : Nat) : Int) g (H30 a k f ((10 : Nat) : Int) .ready none)) (roundD aeC 87 4 0) = R30 ok a k P f g 7 10 := by kernel_rfl
theorem t87_30_8_0 (ok : Nat → List DV → Bool) (a : DV) (k : Nat) (P : Nat → List DV → Nat → Int) (f g : Nat → Int) : startS aeC (evR ok k P) 87 4 Try.f87 (some 0) (s87 k f 3 4 ((8 : Nat) : Int) g (H30 a k f ((0 : Nat) : Int) .ready none)) (roundD aeC 87 4 0) = R30 ok a k P f g 8 0 := by kernel_rfl
theorem t87_30_8_1 (ok : Nat → List DV → Bool) (a : DV) (k : Nat) (P : Nat → List DV → Nat → Int) (f g : Nat → Int) : startS aeC (evR ok k P) 87 4 Try.f87 (some 0) (s87 k f 3 4 ((8 : Nat) : Int) g (H30 a k f ((1 : Nat) : Int) .ready none)) (roundD aeC 87 4 0) = R30 ok a k P f g 8 1 := by kernel_rfl
theorem t87_30_8_2 (ok : Nat → List DV → Bool) (a : DV) (k : Nat) (P : Nat → List DV → Nat → Int) (f g : Nat → Int) : startS aeC (evR ok k P) 87 4 Try.f87 (some 0) (s87 k f 3 4 ((8 : Nat) : Int) g (H30 a k f ((2 : Nat) : Int) .ready none)) (roundD aeC 87 4 0) = R30 ok a k P f g 8 2 := by kernel_rfl
theorem t87_30_8_3 (ok : Nat → List DV → Bool) (a : DV) (k : Nat) (P : Nat → List DV → Nat → Int) (f g : Nat → Int) : startS aeC (evR ok k P) 87 4 Try.f87 (some 0) (s87 k f 3 4 ((8 : Nat) : Int) g (H30 a k f ((3 : Nat) : Int) .ready none)) (roundD aeC 87 4 0) = R30 ok a k P f g 8 3 := by kernel_rfl
theorem t87_30_8_4 (ok : Nat → List DV → Bool) (a : DV) (k : Nat) (P : Nat → List DV → Nat → Int) (f g : Nat → Int) : startS aeC (evR ok k P) 87 4 Try.f87 (some 0) (s87 k f 3 4 ((8 : Nat) : Int) g (H30 a k f ((4 : Nat) : Int) .ready none)) (roundD aeC 87 4 0) = R30 ok a k P f g 8 4 := by kernel_rfl
theorem t87_30_8_5 (ok : Nat → List DV → Bool) (a : DV) (k : Nat) (P : Nat → List DV → Nat → Int) (f g : Nat → Int) : startS aeC (evR ok k P) 87 4 Try.f87 (some 0) (s87 k f 3 4 ((8 : Nat) : Int) g (H30 a k f ((5 : Nat) : Int) .ready none)) (roundD aeC 87 4 0) = R30 ok a k P f g 8 5 := by kernel_rfl
theorem t87_30_8_6 (ok : Nat → List DV → Bool) (a : DV) (k : Nat) (P : Nat → List DV → Nat → Int) (f g : Nat → Int) : startS aeC (evR ok k P) 87 4 Try.f87 (some 0) (s87 k f 3 4 ((8 : Nat) : Int) g (H30 a k f ((6 : Nat) : Int) .ready none)) (roundD aeC 87 4 0) = R30 ok a k P f g 8 6 := by kernel_rfl
theorem t87_30_8_7 (ok : Nat → List DV → Bool) (a : DV) (k : Nat) (P : Nat → List DV → Nat → Int) (f g : Nat → Int) : startS aeC (evR ok k P) 87 4 Try.f87 (some 0) (s87 k f 3 4 ((8 : Nat) : Int) g (H30 a k f ((7 : Nat) : Int) .ready none)) (roundD aeC 87 4 0) = R30 ok a k P f g 8 7 := by kernel_rfl
theorem t87_30_8_8 (ok : Nat → List DV → Bool) (a : DV) (k : Nat) (P : Nat → List DV → Nat → Int) (f g : Nat → Int) : startS aeC (evR ok k P) 87 4 Try.f87 (some 0) (s87 k f 3 4 ((8 : Nat) : Int) g (H30 a k f ((8 : Nat) : Int) .ready none)) (roundD aeC 87 4 0) = R30 ok a k P f g 8 8 := by kernel_rfl
theorem t87_30_8_9 (ok : Nat → List DV → Bool) (a : DV) (k : Nat) (P : Nat → List DV → Nat → Int) (f g : Nat → Int) : startS aeC (evR ok k P) 87 4 Try.f87 (some 0) (s87 k f 3 4 ((8 : Nat) : Int) g (H30 a k f ((9 : Nat) : Int) .ready none)) (roundD aeC 87 4 0) = R30 ok a k P f g 8 9 := by kernel_rfl
theorem t87_30_8_10 (ok : Nat → List DV → Bool) (a : DV) (k : Nat) (P : Nat → List DV → Nat → Int) (f g : Nat → Int) : startS aeC (evR ok k P) 87 4 Try.f87 (some 0) (s87 k f 3 4 ((8 : Nat) : Int) g (H30 a k f ((10 : Nat) : Int) .ready none)) (roundD aeC 87 4 0) = R30 ok a k P f g 8 10 := by kernel_rfl
theorem t87_30_9_0 (ok : Nat → List DV → Bool) (a : DV) (k : Nat) (P : Nat → List DV → Nat → Int) (f g : Nat → Int) : startS aeC (evR ok k P) 87 4 Try.f87 (some 0) (s87 k f 3 4 ((9 : Nat) : Int) g (H30 a k f ((0 : Nat) : Int) .ready none)) (roundD aeC 87 4 0) = R30 ok a k P f g 9 0 := by kernel_rfl
theorem t87_30_9_1 (ok : Nat → List DV → Bool) (a : DV) (k : Nat) (P : Nat → List DV → Nat → Int) (f g : Nat → Int) : startS aeC (evR ok k P) 87 4 Try.f87 (some 0) (s87 k f 3 4 ((9 : Nat) : Int) g (H30 a k f ((1 : Nat) : Int) .ready none)) (roundD aeC 87 4 0) = R30 ok a k P f g 9 1 := by kernel_rfl
theorem t87_30_9_2 (ok : Nat → List DV → Bool) (a : DV) (k : Nat) (P : Nat → List DV → Nat → Int) (f g : Nat → Int) : startS aeC (evR ok k P) 87 4 Try.f87 (some 0) (s87 k f 3 4 ((9 : Nat) : Int) g (H30 a k f ((2 : Nat) : Int) .ready none)) (roundD aeC 87 4 0) = R30 ok a k P f g 9 2 := by kernel_rfl
theorem t87_30_9_3 (ok : Nat → List DV → Bool) (a : DV) (k : Nat) (P : Nat → List DV → Nat → Int) (f g : Nat → Int) : startS aeC (evR ok k P) 87 4 Try.f87 (some 0) (s87 k f 3 4 ((9 : Nat) : Int) g (H30 a k f ((3 : Nat) : Int) .ready none)) (roundD aeC 87 4 0) = R30 ok a k P f g 9 3 := by kernel_rfl
theorem t87_30_9_4 (ok : Nat → List DV → Bool) (a : DV) (k : Nat) (P : Nat → List DV → Nat → Int) (f g : Nat → Int) : startS aeC (evR ok k P) 87 4 Try.f87 (some 0) (s87 k f 3 4 ((9 : Nat) : Int) g (H30 a k f ((4 : Nat) : Int) .ready none)) (roundD aeC 87 4 0) = R30 ok a k P f g 9 4 := by kernel_rfl
theorem t87_30_9_5 (ok : Nat → List DV → Bool) (a : DV) (k : Nat) (P : Nat → List DV → Nat → Int) (f g : Nat → Int) : startS aeC (evR ok k P) 87 4 Try.f87 (some 0) (s87 k f 3 4 ((9 : Nat) : Int) g (H30 a k f ((5 : Nat) : Int) .ready none)) (roundD aeC 87 4 0) = R30 ok a k P f g 9 5 := by kernel_rfl
theorem t87_30_9_6 (ok : Nat → List DV → Bool) (a : DV) (k : Nat) (P : Nat → List DV → Nat → Int) (f g : Nat → Int) : startS aeC (evR ok k P) 87 4 Try.f87 (some 0) (s87 k f 3 4 ((9 : Nat) : Int) g (H30 a k f ((6 : Nat) : Int) .ready none)) (roundD aeC 87 4 0) = R30 ok a k P f g 9 6 := by kernel_rfl
theorem t87_30_9_7 (ok : Nat → List DV → Bool) (a : DV) (k : Nat) (P : Nat → List DV → Nat → Int) (f g : Nat → Int) : startS aeC (evR ok k P) 87 4 Try.f87 (some 0) (s87 k f 3 4 ((9 : Nat) : Int) g (H30 a k f ((7 : Nat) : Int) .ready none)) (roundD aeC 87 4 0) = R30 ok a k P f g 9 7 := by kernel_rfl
theorem t87_30_9_8 (ok : Nat → List DV → Bool) (a : DV) (k : Nat) (P : Nat → List DV → Nat → Int) (f g : Nat → Int) : startS aeC (evR ok k P) 87 4 Try.f87 (some 0) (s87 k f 3 4 ((9 : Nat) : Int) g (H30 a k f ((8 : Nat) : Int) .ready none)) (roundD aeC 87 4 0) = R30 ok a k P f g 9 8 := by kernel_rfl
theorem t87_30_9_9 (ok : Nat → List DV → Bool) (a : DV) (k : Nat) (P : Nat → List DV → Nat → Int) (f g : Nat → Int) : startS aeC (evR ok k P) 87 4 Try.f87 (some 0) (s87 k f 3 4 ((9 : Nat) : Int) g (H30 a k f ((9 : Nat) : Int) .ready none)) (roundD aeC 87 4 0) = R30 ok a k P f g 9 9 := by kernel_rfl
theorem t87_30_9_10 (ok : Nat → List DV → Bool) (a : DV) (k : Nat) (P : Nat → List DV → Nat → Int) (f g : Nat → Int) : startS aeC (evR ok k P) 87 4 Try.f87 (some 0) (s87 k f 3 4 ((9 : Nat) : Int) g (H30 a k f ((10 : Nat) : Int) .ready none)) (roundD aeC 87 4 0) = R30 ok a k P f g 9 10 := by kernel_rfl
theorem t87_30_10_0 (ok : Nat → List DV → Bool) (a : DV) (k : Nat) (P : Nat → List DV → Nat → Int) (f g : Nat → Int) : startS aeC (evR ok k P) 87 4 Try.f87 (some 0) (s87 k f 3 4 ((10 : Nat) : Int) g (H30 a k f ((0 : Nat) : Int) .ready none)) (roundD aeC 87 4 0) = R30 ok a k P f g 10 0 := by kernel_rfl
theorem t87_30_10_1 (ok : Nat → List DV → Bool) (a : DV) (k : Nat) (P : Nat → List DV → Nat → Int) (f g : Nat → Int) : startS aeC (evR ok k P) 87 4 Try.f87 (some 0) (s87 k f 3 4 ((10 : Nat) : Int) g (H30 a k f ((1 : Nat) : Int) .ready none)) (roundD aeC 87 4 0) = R30 ok a k P f g 10 1 := by kernel_rfl
theorem t87_30_10_2 (ok : Nat → List DV → Bool) (a : DV) (k : Nat) (P : Nat → List DV → Nat → Int) (f g : Nat → Int) : startS aeC (evR ok k P) 87 4 Try.f87 (some 0) (s87 k f 3 4 ((10 : Nat) : Int) g (H30 a k f ((2 : Nat) : Int) .ready none)) (roundD aeC 87 4 0) = R30 ok a k P f g 10 2 := by kernel_rfl
theorem t87_30_10_3 (ok : Nat → List DV → Bool) (a : DV) (k : Nat) (P : Nat → List DV → Nat → Int) (f g : Nat → Int) : startS aeC (evR ok k P) 87 4 Try.f87 (some 0) (s87 k f 3 4 ((10 : Nat) : Int) g (H30 a k f ((3 : Nat) : Int) .ready none)) (roundD aeC 87 4 0) = R30 ok a k P f g 10 3 := by kernel_rfl
theorem t87_30_10_4 (ok : Nat → List DV → Bool) (a : DV) (k : Nat) (P : Nat → List DV → Nat → Int) (f g : Nat → Int) : startS aeC (evR ok k P) 87 4 Try.f87 (some 0) (s87 k f 3 4 ((10 : Nat) : Int) g (H30 a k f ((4 : Nat) : Int) .ready none)) (roundD aeC 87 4 0) = R30 ok a k P f g 10 4 := by kernel_rfl
theorem t87_30_10_5 (ok : Nat → List DV → Bool) (a : DV) (k : Nat) (P : Nat → List DV → Nat → Int) (f g : Nat → Int) : startS aeC (evR ok k P) 87 4 Try.f87 (some 0) (s87 k f 3 4 ((10 : Nat) : Int) g (H30 a k f ((5 : Nat) : Int) .ready none)) (roundD aeC 87 4 0) = R30 ok a k P f g 10 5 := by kernel_rfl
theorem t87_30_10_6 (ok : Nat → List DV → Bool) (a : DV) (k : Nat) (P : Nat → List DV → Nat → Int) (f g : Nat → Int) : startS aeC (evR ok k P) 87 4 Try.f87 (some 0) (s87 k f 3 4 ((10 : Nat) : Int) g (H30 a k f ((6 : Nat) : Int) .ready none)) (roundD aeC 87 4 0) = R30 ok a k P f g 10 6 := by kernel_rfl
theorem t87_30_10_7 (ok : Nat → List DV → Bool) (a : DV) (k : Nat) (P : Nat → List DV → Nat → Int) (f g : Nat → Int) : startS aeC (evR ok k P) 87 4 Try.f87 (some 0) (s87 k f 3 4 ((10 : Nat) : Int) g (H30 a k f ((7 : Nat) : Int) .ready none)) (roundD aeC 87 4 0) = R30 ok a k P f g 10 7 := by kernel_rfl
theorem t87_30_10_8 (ok : Nat → List DV → Bool) (a : DV) (k : Nat) (P : Nat → List DV → Nat → Int) (f g : Nat → Int) : startS aeC (evR ok k P) 87 4 Try.f87 (some 0) (s87 k f 3 4 ((10 : Nat) : Int) g (H30 a k f ((8 : Nat) : Int) .ready none)) (roundD aeC 87 4 0) = R30 ok a k P f g 10 8 := by kernel_rfl
theorem t87_30_10_9 (ok : Nat → List DV → Bool) (a : DV) (k : Nat) (P : Nat → List DV → Nat → Int) (f g : Nat → Int) : startS aeC (evR ok k P) 87 4 Try.f87 (some 0) (s87 k f 3 4 ((10 : Nat) : Int) g (H30 a k f ((9 : Nat) : Int) .ready none)) (roundD aeC 87 4 0) = R30 ok a k P f g 10 9 := by kernel_rfl
theorem t87_30_10_10 (ok : Nat → List DV → Bool) (a : DV) (k : Nat) (P : Nat → List DV → Nat → Int) (f g : Nat → Int) : startS aeC (evR ok k P) 87 4 Try.f87 (some 0) (s87 k f 3 4 ((10 : Nat) : Int) g (H30 a k f ((10 : Nat) : Int) .ready none)) (roundD aeC 87 4 0) = R30 ok a k P f g 10 10 := by kernel_rfl
theorem t87_30_11_0 (ok : Nat → List DV → Bool) (a : DV) (k : Nat) (P : Nat → List DV → Nat → Int) (f g : Nat → Int) : startS aeC (evR ok k P) 87 4 Try.f87 (some 0) (s87 k f 3 4 ((11 : Nat) : Int) g (H30 a k f ((0 : Nat) : Int) .ready none)) (roundD aeC 87 4 0) = R30 ok a k P f g 11 0 := by kernel_rfl
theorem t87_30_11_1 (ok : Nat → List DV → Bool) (a : DV) (k : Nat) (P : Nat → List DV → Nat → Int) (f g : Nat → Int) : startS aeC (evR ok k P) 87 4 Try.f87 (some 0) (s87 k f 3 4 ((11 : Nat) : Int) g (H30 a k f ((1 : Nat) : Int) .ready none)) (roundD aeC 87 4 0) = R30 ok a k P f g 11 1 := by kernel_rfl
theorem t87_30_11_2 (ok : Nat → List DV → Bool) (a : DV) (k : Nat) (P : Nat → List DV → Nat → Int) (f g : Nat → Int) : startS aeC (evR ok k P) 87 4 Try.f87 (some 0) (s87 k f 3 4 ((11 : Nat) : Int) g (H30 a k f ((2 : Nat) : Int) .ready none)) (roundD aeC 87 4 0) = R30 ok a k P f g 11 2 := by kernel_rfl
theorem t87_30_11_3 (ok : Nat → List DV → Bool) (a : DV) (k : Nat) (P : Nat → List DV → Nat → Int) (f g : Nat → Int) : startS aeC (evR ok k P) 87 4 Try.f87 (some 0) (s87 k f 3 4 ((11 : Nat) : Int) g (H30 a k f ((3 : Nat) : Int) .ready none)) (roundD aeC 87 4 0) = R30 ok a k P f g 11 3 := by kernel_rfl
theorem t87_30_11_4 (ok : Nat → List DV → Bool) (a : DV) (k : Nat) (P : Nat → List DV → Nat → Int) (f g : Nat → Int) : startS aeC (evR ok k P) 87 4 Try.f87 (some 0) (s87 k f 3 4 ((11 : Nat) : Int) g (H30 a k f ((4 : Nat) : Int) .ready none)) (roundD aeC 87 4 0) = R30 ok a k P f g 11 4 := by kernel_rfl
theorem t87_30_11_5 (ok : Nat → List DV → Bool) (a : DV) (k : Nat) (P : Nat → List DV → Nat → Int) (f g : Nat → Int) : startS aeC (evR ok k P) 87 4 Try.f87 (some 0) (s87 k f 3 4 ((11 : Nat) : Int) g (H30 a k f ((5 : Nat) : Int) .ready none)) (roundD aeC 87 4 0) = R30 ok a k P f g 11 5 := by kernel_rfl
theorem t87_30_11_6 (ok : Nat → List DV → Bool) (a : DV) (k : Nat) (P : Nat → List DV → Nat → Int) (f g : Nat → Int) : startS aeC (evR ok k P) 87 4 Try.f87 (some 0) (s87 k f 3 4 ((11 : Nat) : Int) g (H30 a k f ((6 : Nat) : Int) .ready none)) (roundD aeC 87 4 0) = R30 ok a k P f g 11 6 := by kernel_rfl
theorem t87_30_11_7 (ok : Nat → List DV → Bool) (a : DV) (k : Nat) (P : Nat → List DV → Nat → Int) (f g : Nat → Int) : startS aeC (evR ok k P) 87 4 Try.f87 (some 0) (s87 k f 3 4 ((11 : Nat) : Int) g (H30 a k f ((7 : Nat) : Int) .ready none)) (roundD aeC 87 4 0) = R30 ok a k P f g 11 7 := by kernel_rfl
theorem t87_30_11_8 (ok : Nat → List DV → Bool) (a : DV) (k : Nat) (P : Nat → List DV → Nat → Int) (f g : Nat → Int) : startS aeC (evR ok k P) 87 4 Try.f87 (some 0) (s87 k f 3 4 ((11 : Nat) : Int) g (H30 a k f ((8 : Nat) : Int) .ready none)) (roundD aeC 87 4 0) = R30 ok a k P f g 11 8 := by kernel_rfl
theorem t87_30_11_9 (ok : Nat → List DV → Bool) (a : DV) (k : Nat) (P : Nat → List DV → Nat → Int) (f g : Nat → Int) : startS aeC (evR ok k P) 87 4 Try.f87 (some 0) (s87 k f 3 4 ((11 : Nat) : Int) g (H30 a k f ((9 : Nat) : Int) .ready none)) (roundD aeC 87 4 0) = R30 ok a k P f g 11 9 := by kernel_rfl
theorem t87_30_11_10 (ok : Nat → List DV → Bool) (a : DV) (k : Nat) (P : Nat → List DV → Nat → Int) (f g : Nat → Int) : startS aeC (evR ok k P) 87 4 Try.f87 (some 0) (s87 k f 3 4 ((11 : Nat) : Int) g (H30 a k f ((10 : Nat) : Int) .ready none)) (roundD aeC 87 4 0) = R30 ok a k P f g 11 10 := by kernel_rfl
theorem t87_30_0 {x : Nat} (hx : x ≤ 10) (ok : Nat → List DV → Bool) (a : DV) (k : Nat) (P : Nat → List DV → Nat → Int) (f g : Nat → Int) : startS aeC (evR ok k P) 87 4 Try.f87 (some 0) (s87 k f 3 4 ((0 : Nat) : Int) g (H30 a k f (x : Int) .ready none)) (roundD aeC 87 4 0) = R30 ok a k P f g 0 x := by
  have h : x = 0 ∨ x = 1 ∨ x = 2 ∨ x = 3 ∨ x = 4 ∨ x = 5 ∨ x = 6 ∨ x = 7 ∨ x = 8 ∨ x = 9 ∨ x = 10 := by omega
  rcases h with rfl | rfl | rfl | rfl | rfl | rfl | rfl | rfl | rfl | rfl | rfl
  · exact t87_30_0_0 ok a k P f g
  · exact t87_30_0_1 ok a k P f g
  · exact t87_30_0_2 ok a k P f g
  · exact t87_30_0_3 ok a k P f g
  · exact t87_30_0_4 ok a k P f g
  · exact t87_30_0_5 ok a k P f g
  · exact t87_30_0_6 ok a k P f g
  · exact t87_30_0_7 ok a k P f g
  · exact t87_30_0_8 ok a k P f g
  · exact t87_30_0_9 ok a k P f g
  · exact t87_30_0_10 ok a k P f g
theorem t87_30_1 {x : Nat} (hx : x ≤ 10) (ok : Nat → List DV → Bool) (a : DV) (k : Nat) (P : Nat → List DV → Nat → Int) (f g : Nat → Int) : startS aeC (evR ok k P) 87 4 Try.f87 (some 0) (s87 k f 3 4 ((1 : Nat) : Int) g (H30 a k f (x : Int) .ready none)) (roundD aeC 87 4 0) = R30 ok a k P f g 1 x := by
  have h : x = 0 ∨ x = 1 ∨ x = 2 ∨ x = 3 ∨ x = 4 ∨ x = 5 ∨ x = 6 ∨ x = 7 ∨ x = 8 ∨ x = 9 ∨ x = 10 := by omega
  rcases h with rfl | rfl | rfl | rfl | rfl | rfl | rfl | rfl | rfl | rfl | rfl
  · exact t87_30_1_0 ok a k P f g
  · exact t87_30_1_1 ok a k P f g
  · exact t87_30_1_2 ok a k P f g
  · exact t87_30_1_3 ok a k P f g
  · exact t87_30_1_4 ok a k P f g
  · exact t87_30_1_5 ok a k P f g
  · exact t87_30_1_6 ok a k P f g
  · exact t87_30_1_7 ok a k P f g
  · exact t87_30_1_8 ok a k P f g
  · exact t87_30_1_9 ok a k P f g
  · exact t87_30_1_10 ok a k P f g
theorem t87_30_2 {x : Nat} (hx : x ≤ 10) (ok : Nat → List DV → Bool) (a : DV) (k : Nat) (P : Nat → List DV → Nat → Int) (f g : Nat → Int) : startS aeC (evR ok k P) 87 4 Try.f87 (some 0) (s87 k f 3 4 ((2 : Nat) : Int) g (H30 a k f (x : Int) .ready none)) (roundD aeC 87 4 0) = R30 ok a k P f g 2 x := by
  have h : x = 0 ∨ x = 1 ∨ x = 2 ∨ x = 3 ∨ x = 4 ∨ x = 5 ∨ x = 6 ∨ x = 7 ∨ x = 8 ∨ x = 9 ∨ x = 10 := by omega
  rcases h with rfl | rfl | rfl | rfl | rfl | rfl | rfl | rfl | rfl | rfl | rfl
  · exact t87_30_2_0 ok a k P f g
  · exact t87_30_2_1 ok a k P f g
  · exact t87_30_2_2 ok a k P f g
  · exact t87_30_2_3 ok a k P f g
  · exact t87_30_2_4 ok a k P f g
  · exact t87_30_2_5 ok a k P f g
  · exact t87_30_2_6 ok a k P f g
  · exact t87_30_2_7 ok a k P f g
  · exact t87_30_2_8 ok a k P f g
  · exact t87_30_2_9 ok a k P f g
  · exact t87_30_2_10 ok a k P f g
theorem t87_30_3 {x : Nat} (hx : x ≤ 10) (ok : Nat → List DV → Bool) (a : DV) (k : Nat) (P : Nat → List DV → Nat → Int) (f g : Nat → Int) : startS aeC (evR ok k P) 87 4 Try.f87 (some 0) (s87 k f 3 4 ((3 : Nat) : Int) g (H30 a k f (x : Int) .ready none)) (roundD aeC 87 4 0) = R30 ok a k P f g 3 x := by
  have h : x = 0 ∨ x = 1 ∨ x = 2 ∨ x = 3 ∨ x = 4 ∨ x = 5 ∨ x = 6 ∨ x = 7 ∨ x = 8 ∨ x = 9 ∨ x = 10 := by omega
  rcases h with rfl | rfl | rfl | rfl | rfl | rfl | rfl | rfl | rfl | rfl | rfl
  · exact t87_30_3_0 ok a k P f g
  · exact t87_30_3_1 ok a k P f g
  · exact t87_30_3_2 ok a k P f g
  · exact t87_30_3_3 ok a k P f g
  · exact t87_30_3_4 ok a k P f g
  · exact t87_30_3_5 ok a k P f g
  · exact t87_30_3_6 ok a k P f g
  · exact t87_30_3_7 ok a k P f g
  · exact t87_30_3_8 ok a k P f g
  · exact t87_30_3_9 ok a k P f g
  · exact t87_30_3_10 ok a k P f g
theorem t87_30_4 {x : Nat} (hx : x ≤ 10) (ok : Nat → List DV → Bool) (a : DV) (k : Nat) (P : Nat → List DV → Nat → Int) (f g : Nat → Int) : startS aeC (evR ok k P) 87 4 Try.f87 (some 0) (s87 k f 3 4 ((4 : Nat) : Int) g (H30 a k f (x : Int) .ready none)) (roundD aeC 87 4 0) = R30 ok a k P f g 4 x := by
  have h : x = 0 ∨ x = 1 ∨ x = 2 ∨ x = 3 ∨ x = 4 ∨ x = 5 ∨ x = 6 ∨ x = 7 ∨ x = 8 ∨ x = 9 ∨ x = 10 := by omega
  rcases h with rfl | rfl | rfl | rfl | rfl | rfl | rfl | rfl | rfl | rfl | rfl
  · exact t87_30_4_0 ok a k P f g
  · exact t87_30_4_1 ok a k P f g
  · exact t87_30_4_2 ok a k P f g
  · exact t87_30_4_3 ok a k P f g
  · exact t87_30_4_4 ok a k P f g
  · exact t87_30_4_5 ok a k P f g
  · exact t87_30_4_6 ok a k P f g
  · exact t87_30_4_7 ok a k P f g
  · exact t87_30_4_8 ok a k P f g
  · exact t87_30_4_9 ok a k P f g
  · exact t87_30_4_10 ok a k P f g
theorem t87_30_5 {x : Nat} (hx : x ≤ 10) (ok : Nat → List DV → Bool) (a : DV) (k : Nat) (P : Nat → List DV → Nat → Int) (f g : Nat → Int) : startS aeC (evR ok k P) 87 4 Try.f87 (some 0) (s87 k f 3 4 ((5 : Nat) : Int) g (H30 a k f (x : Int) .ready none)) (roundD aeC 87 4 0) = R30 ok a k P f g 5 x := by
  have h : x = 0 ∨ x = 1 ∨ x = 2 ∨ x = 3 ∨ x = 4 ∨ x = 5 ∨ x = 6 ∨ x = 7 ∨ x = 8 ∨ x = 9 ∨ x = 10 := by omega
  rcases h with rfl | rfl | rfl | rfl | rfl | rfl | rfl | rfl | rfl | rfl | rfl
  · exact t87_30_5_0 ok a k P f g
  · exact t87_30_5_1 ok a k P f g
  · exact t87_30_5_2 ok a k P f g
  · exact t87_30_5_3 ok a k P f g
  · exact t87_30_5_4 ok a k P f g
  · exact t87_30_5_5 ok a k P f g
  · exact t87_30_5_6 ok a k P f g
  · exact t87_30_5_7 ok a k P f g
  · exact t87_30_5_8 ok a k P f g
  · exact t87_30_5_9 ok a k P f g
  · exact t87_30_5_10 ok a k P f g
theorem t87_30_6 {x : Nat} (hx : x ≤ 10) (ok : Nat → List DV → Bool) (a : DV) (k : Nat) (P : Nat → List DV → Nat → Int) (f g : Nat → Int) : startS aeC (evR ok k P) 87 4 Try.f87 (some 0) (s87 k f 3 4 ((6 : Nat) : Int) g (H30 a k f (x : Int) .ready none)) (roundD aeC 87 4 0) = R30 ok a k P f g 6 x := by
  have h : x = 0 ∨ x = 1 ∨ x = 2 ∨ x = 3 ∨ x = 4 ∨ x = 5 ∨ x = 6 ∨ x = 7 ∨ x = 8 ∨ x = 9 ∨ x = 10 := by omega
  rcases h with rfl | rfl | rfl | rfl | rfl | rfl | rfl | rfl | rfl | rfl | rfl
  · exact t87_30_6_0 ok a k P f g
  · exact t87_30_6_1 ok a k P f g
  · exact t87_30_6_2 ok a k P f g
  · exact t87_30_6_3 ok a k P f g
  · exact t87_30_6_4 ok a k P f g
  · exact t87_30_6_5 ok a k P f g
  · exact t87_30_6_6 ok a k P f g
  · exact t87_30_6_7 ok a k P f g
  · exact t87_30_6_8 ok a k P f g
  · exact t87_30_6_9 ok a k P f g
  · exact t87_30_6_10 ok a k P f g
theorem t87_30_7 {x : Nat} (hx : x ≤ 10) (ok : Nat → List DV → Bool) (a : DV) (k : Nat) (P : Nat → List DV → Nat → Int) (f g : Nat → Int) : startS aeC (evR ok k P) 87 4 Try.f87 (some 0) (s87 k f 3 4 ((7 : Nat) : Int) g (H30 a k f (x : Int) .ready none)) (roundD aeC 87 4 0) = R30 ok a k P f g 7 x := by
  have h : x = 0 ∨ x = 1 ∨ x = 2 ∨ x = 3 ∨ x = 4 ∨ x = 5 ∨ x = 6 ∨ x = 7 ∨ x = 8 ∨ x = 9 ∨ x = 10 := by omega
  rcases h with rfl | rfl | rfl | rfl | rfl | rfl | rfl | rfl | rfl | rfl | rfl
  · exact t87_30_7_0 ok a k P f g
  · exact t87_30_7_1 ok a k P f g
  · exact t87_30_7_2 ok a k P f g
  · exact t87_30_7_3 ok a k P f g
  · exact t87_30_7_4 ok a k P f g
  · exact t87_30_7_5 ok a k P f g
  · exact t87_30_7_6 ok a k P f g
  · exact t87_30_7_7 ok a k P f g
  · exact t87_30_7_8 ok a k P f g
  · exact t87_30_7_9 ok a k P f g
  · exact t87_30_7_10 ok a k P f g
theorem t87_30_8 {x : Nat} (hx : x ≤ 10) (ok : Nat → List DV → Bool) (a : DV) (k : Nat) (P : Nat → List DV → Nat → Int) (f g : Nat → Int) : startS aeC (evR ok k P) 87 4 Try.f87 (some 0) (s87 k f 3 4 ((8 : Nat) : Int) g (H30 a k f (x : Int) .ready none)) (roundD aeC 87 4 0) = R30 ok a k P f g 8 x := by
  have h : x = 0 ∨ x = 1 ∨ x = 2 ∨ x = 3 ∨ x = 4 ∨ x = 5 ∨ x = 6 ∨ x = 7 ∨ x = 8 ∨ x = 9 ∨ x = 10 := by omega
  rcases h with rfl | rfl | rfl | rfl | rfl | rfl | rfl | rfl | rfl | rfl | rfl
  · exact t87_30_8_0 ok a k P f g
  · exact t87_30_8_1 ok a k P f g
  · exact t87_30_8_2 ok a k P f g
  · exact t87_30_8_3 ok a k P f g
  · exact t87_30_8_4 ok a k P f g
  · exact t87_30_8_5 ok a k P f g
  · exact t87_30_8_6 ok a k P f g
  · exact t87_30_8_7 ok a k P f g
  · exact t87_30_8_8 ok a k P f g
  · exact t87_30_8_9 ok a k P f g
  · exact t87_30_8_10 ok a k P f g
theorem t87_30_9 {x : Nat} (hx : x ≤ 10) (ok : Nat → List DV → Bool) (a : DV) (k : Nat) (P : Nat → List DV → Nat → Int) (f g : Nat → Int) : startS aeC (evR ok k P) 87 4 Try.f87 (some 0) (s87 k f 3 4 ((9 : Nat) : Int) g (H30 a k f (x : Int) .ready none)) (roundD aeC 87 4 0) = R30 ok a k P f g 9 x := by
  have h : x = 0 ∨ x = 1 ∨ x = 2 ∨ x = 3 ∨ x = 4 ∨ x = 5 ∨ x = 6 ∨ x = 7 ∨ x = 8 ∨ x = 9 ∨ x = 10 := by omega
  rcases h with rfl | rfl | rfl | rfl | rfl | rfl | rfl | rfl | rfl | rfl | rfl
  · exact t87_30_9_0 ok a k P f g
  · exact t87_30_9_1 ok a k P f g
  · exact t87_30_9_2 ok a k P f g
  · exact t87_30_9_3 ok a k P f g
  · exact t87_30_9_4 ok a k P f g
  · exact t87_30_9_5 ok a k P f g
  · exact t87_30_9_6 ok a k P f g
  · exact t87_30_9_7 ok a k P f g
  · exact t87_30_9_8 ok a k P f g
  · exact t87_30_9_9 ok a k P f g
  · exact t87_30_9_10 ok a k P f g
theorem t87_30_10 {x : Nat} (hx : x ≤ 10) (ok : Nat → List DV → Bool) (a : DV) (k : Nat) (P : Nat → List DV → Nat → Int) (f g : Nat → Int) : startS aeC (evR ok k P) 87 4 Try.f87 (some 0) (s87 k f 3 4 ((10 : Nat) : Int) g (H30 a k f (x : Int) .ready none)) (roundD aeC 87 4 0) = R30 ok a k P f g 10 x := by
  have h : x = 0 ∨ x = 1 ∨ x = 2 ∨ x = 3 ∨ x = 4 ∨ x = 5 ∨ x = 6 ∨ x = 7 ∨ x = 8 ∨ x = 9 ∨ x = 10 := by omega
  rcases h with rfl | rfl | rfl | rfl | rfl | rfl | rfl | rfl | rfl | rfl | rfl
  · exact t87_30_10_0 ok a k P f g
  · exact t87_30_10_1 ok a k P f g
  · exact t87_30_10_2 ok a k P f g
  · exact t87_30_10_3 ok a k P f g
  · exact t87_30_10_4 ok a k P f g
  · exact t87_30_10_5 ok a k P f g
  · exact t87_30_10_6 ok a k P f g
  · exact t87_30_10_7 ok a k P f g
  · exact t87_30_10_8 ok a k P f g
  · exact t87_30_10_9 ok a k P f g
  · exact t87_30_10_10 ok a k P f g
theorem t87_30_11 {x : Nat} (hx : x ≤ 10) (ok : Nat → List DV → Bool) (a : DV) (k : Nat) (P : Nat → List DV → Nat → Int) (f g : Nat → Int) : startS aeC (evR ok k P) 87 4 Try.f87 (some 0) (s87 k f 3 4 ((11 : Nat) : Int) g (H30 a k f (x : Int) .ready none)) (roundD aeC 87 4 0) = R30 ok a k P f g 11 x := by
  have h : x = 0 ∨ x = 1 ∨ x = 2 ∨ x = 3 ∨ x = 4 ∨ x = 5 ∨ x = 6 ∨ x = 7 ∨ x = 8 ∨ x = 9 ∨ x = 10 := by omega
  rcases h with rfl | rfl | rfl | rfl | rfl | rfl | rfl | rfl | rfl | rfl | rfl
  · exact t87_30_11_0 ok a k P f g
  · exact t87_30_11_1 ok a k P f g
  · exact t87_30_11_2 ok a k P f g
  · exact t87_30_11_3 ok a k P f g
  · exact t87_30_11_4 ok a k P f g
  · exact t87_30_11_5 ok a k P f g
  · exact t87_30_11_6 ok a k P f g
  · exact t87_30_11_7 ok a k P f g
  · exact t87_30_11_8 ok a k P f g
  · exact t87_30_11_9 ok a k P f g
  · exact t87_30_11_10 ok a k P f g
theorem t87_30 {n x : Nat} (hn : n ≤ 11) (hx : x ≤ 10) (ok : Nat → List DV → Bool) (a : DV) (k : Nat) (P : Nat → List DV → Nat → Int) (f g : Nat → Int) : startS aeC (evR ok k P) 87 4 Try.f87 (some 0) (s87 k f 3 4 (n : Int) g (H30 a k f (x : Int) .ready none)) (roundD aeC 87 4 0) = R30 ok a k P f g n x := by
  have h : n = 0 ∨ n = 1 ∨ n = 2 ∨ n = 3 ∨ n = 4 ∨ n = 5 ∨ n = 6 ∨ n = 7 ∨ n = 8 ∨ n = 9 ∨ n = 10 ∨ n = 11 := by omega
  rcases h with rfl | rfl | rfl | rfl | rfl | rfl | rfl | rfl | rfl | rfl | rfl | rfl
  · exact t87_30_0 hx ok a k P f g
  · exact t87_30_1 hx ok a k P f g
  · exact t87_30_2 hx ok a k P f g
  · exact t87_30_3 hx ok a k P f g
  · exact t87_30_4 hx ok a k P f g
  · exact t87_30_5 hx ok a k P f g
  · exact t87_30_6 hx ok a k P f g
  · exact t87_30_7 hx ok a k P f g
  · exact t87_30_8 hx ok a k P f g
  · exact t87_30_9 hx ok a k P f g
  · exact t87_30_10 hx ok a k P f g
  · exact t87_30_11 hx ok a k P f g
theorem c60_2 (g : Nat → Int) : PureOK Try.prog 60 [.agg (mx25 2 g)] (iD (trF 2 g 2)) := walkA (by kernel_rfl : tget aeF 60 = some Try.f60) (by kernel_rfl)
theorem c60_3 (g : Nat → Int) : PureOK Try.prog 60 [.agg (mx25 3 g)] (iD (trF 3 g 3)) := walkA (by kernel_rfl : tget aeF 60 = some Try.f60) (by kernel_rfl)
theorem c60_4 (g : Nat → Int) : PureOK Try.prog 60 [.agg (mx25 4 g)] (iD (trF 4 g 4)) := walkA (by kernel_rfl : tget aeF 60 = some Try.f60) (by kernel_rfl)
theorem c60_5 (g : Nat → Int) : PureOK Try.prog 60 [.agg (mx25 5 g)] (iD (trF 5 g 5)) := walkA (by kernel_rfl : tget aeF 60 = some Try.f60) (by kernel_rfl)
section
variable {k : Nat}
theorem px60 (h1 : 1 ≤ k) (h5 : k ≤ 5) (g : Nat → Int) : PX k 60 [.agg (mx25 k g)] 0 = trF k g k := by
  rcases five h1 h5 with rfl | rfl | rfl | rfl | rfl
  · kernel_rfl
  · kernel_rfl
  · kernel_rfl
  · kernel_rfl
  · kernel_rfl
theorem c60 (h1 : 1 ≤ k) (h5 : k ≤ 5) (g : Nat → Int) : PureOK Try.prog 60 [.agg (mx25 k g)] (iD (trF k g k)) := by
  rcases five h1 h5 with rfl | rfl | rfl | rfl | rfl
  · exact c60_1 g
  · exact c60_2 g
  · exact c60_3 g
  · exact c60_4 g
  · exact c60_5 g
theorem x60 (h1 : 1 ≤ k) (h5 : k ≤ 5) (g : Nat → Int) : okX' k 60 [.agg (mx25 k g)] = true := okS_is (by
  show PureOK Try.prog 60 _ (iD (PX k 60 _ 0))
  rw [px60 h1 h5]; exact c60 h1 h5 g)
/-- Whether there is a round trip of a length. -/
def ringB (k : Nat) (f : Nat → Int) (n : Nat) : Bool := (List.range k).any fun i => reach k f i n i
theorem trF_ok (h5 : k ≤ 5) (f : Nat → Int) (n : Nat) : ∀ t : Nat, t ≤ k → 0 ≤ trF k (bF k f n) t ∧ trF k (bF k f n) t ≤ t ∧ (0 < trF k (bF k f n) t ↔ ∃ i, i < t ∧ reach k f i n i = true)
  | 0, _ => ⟨Int.le_refl _, Int.le_refl _, by simp [trF]⟩
  | t + 1, ht => by
    obtain ⟨i1, i2, i3⟩ := trF_ok h5 f n t (by omega)
    have hx := idx5 (i := t) (show t < 5 by omega)
    have hk : inK k (5 * t + t) = true := inK_iff.2 ⟨by omega, by omega⟩
    have hb : bF k f n (6 * t) = bif reach k f t n t then 1 else 0 := by
      rw [show 6 * t = 5 * t + t by omega]
      unfold bF
      rw [hk, hx.1, hx.2, Bool.true_and]
    have hb2 : 0 ≤ bF k f n (6 * t) ∧ bF k f n (6 * t) ≤ 1 := bF_b k f n _
    have e : trF k (bF k f n) (t + 1) = trF k (bF k f n) t + bF k f n (6 * t) := by
      show IntKind.wrap .i64 (trF k (bF k f n) t + bF k f n (6 * t)) = _
      rw [wrap64_o (by omega) (by omega)]
    rw [e]
    refine ⟨by omega, by omega, ?_⟩
    constructor
    · intro h
      by_cases hz : 0 < trF k (bF k f n) t
      · obtain ⟨i, h1, h2⟩ := i3.1 hz
        exact ⟨i, by omega, h2⟩
      · cases hr : reach k f t n t with
        | true => exact ⟨t, by omega, hr⟩
        | false => rw [hr] at hb; simp only [cond_false] at hb; omega
    · rintro ⟨i, h1, h2⟩
      rcases Nat.lt_or_ge i t with q | q
      · have := i3.2 ⟨i, q, h2⟩; omega
      · have : i = t := by omega
        subst this
        rw [h2] at hb; simp only [cond_true] at hb; omega
theorem ring_tr (h5 : k ≤ 5) (f : Nat → Int) (n : Nat) : decide (0 < trF k (bF k f n) k) = ringB k f n := by
  have := (trF_ok h5 f n k (Nat.le_refl _)).2.2
  rw [Bool.eq_iff_iff, decide_eq_true_eq, this]
  simp [ringB, List.any_eq_true, List.mem_range]
/-- The greatest common divisor of lengths of round trips. -/
def gS (k : Nat) (f : Nat → Int) : Nat → Nat
  | 0 => 0
  | n + 1 => bif ringB k f n then Nat.gcd (gS k f n) n else gS k f n
theorem gS_le (k : Nat) (f : Nat → Int) : ∀ n, n ≤ 11 → gS k f n ≤ 10
  | 0, _ => Nat.zero_le _
  | n + 1, h => by
    have ih := gS_le k f n (by omega)
    unfold gS
    cases ringB k f n with
    | false => exact ih
    | true =>
      simp only [cond_true]
      rcases Nat.eq_zero_or_pos (gS k f n) with q | q
      · rw [q, Nat.gcd_zero_left]; omega
      · have := Nat.gcd_le_left n q; omega
theorem loop30 (h1 : 1 ≤ k) (h5 : k ≤ 5) {f : Nat → Int} (hf : ∀ i < 25, 0 ≤ f i ∧ f i ≤ 9) (a : DV) : ∀ (t n : Nat), n + t = 2 * k + 1 →
    LoopAt aeC (evR (okX' k) k (PX k)) 87 4 Try.f87 0 (s87 k f 3 4 n (bF k f n) (H30 a k f (gS k f n : Nat) .ready none)) (.exit 0) ⟨[], H30 a k f (gS k f (2 * k + 1) : Nat) .done (some (.exit 0)), []⟩
  | 0, n, hn => by
    have : n = 2 * k + 1 := by omega
    subst this
    refine .out k87_0 (by simp) ((t87_30 (by omega) (gS_le k f _ (by omega)) ..).trans ?_)
    unfold R30
    rw [wrap64_o (by omega) (by omega)]
    exact cnd_pos (by omega)
  | t + 1, n, hn => by
    refine .next k87_0 ((t87_30 (by omega) (gS_le k f _ (by omega)) ..).trans ?_) (loop30 h1 h5 hf a t (n + 1) (by omega))
    unfold R30
    rw [wrap64_o (n := 2 * (k : Int)) (by omega) (by omega)]
    refine (cnd_neg (by omega)).trans ((cond_is' (x60 h1 h5 _)).trans ?_)
    rw [px60 h1 h5, ring_tr h5]
    show _ = some (Ex.norm, s87 k f 3 4 ((n + 1 : Nat) : Int) (bF k f (n + 1)) (H30 a k f ((bif ringB k f n then Nat.gcd (gS k f n) n else gS k f n : Nat) : Int) .ready none))
    cases ringB k f n with
    | false => exact nx87_ok h1 h5 hf 3 4 n (by omega) _
    | true => exact nx87_ok h1 h5 hf 3 4 n (by omega) _
def beatD (k : Nat) (f : Nat → Int) : DV := bif hangsB k f then .tup [iD (gS k f (2 * k + 1) : Nat), iD 0] else .tup [iD 0, iD 4]
theorem c30 {M : List (List Int)} (hM : matB k M) (h1 : 1 ≤ k) (h5 : k ≤ 5) : PureOK Try.prog 30 [matD M] (beatD k (fM M)) := by
  have hf : ∀ i < 25, 0 ≤ fM M i ∧ fM M i ≤ 9 := fun i _ => fM_b hM i
  have h73 := c73 h1 h5 hf
  have h61 : PureOK Try.prog 61 [matD M] (.tup [.agg (mx25 k (fM M)), iD 0]) := by rw [← mtx_mx hM h1 h5]; exact c61 hM h1 h5
  unfold beatD
  cases hb : hangsB k (fM M) with
  | false =>
    rw [hb] at h73
    have g61 : okS (i30 k (fM M) false) 61 [matD M] = true := okS_is h61
    have g73 : okS (i30 k (fM M) false) 73 [.agg (mx25 k (fM M))] = true := okS_is h73
    have hE : EvOK Try.prog (ev30 (okS (i30 k (fM M) false)) k (fM M) false []) :=
      ⟨(evT_ok (i30 k (fM M) false)).pure, (evK_ok (P := Try.prog) (L := []) (F := []) trivial trivial).fn, (evK_ok (P := Try.prog) (L := []) (F := []) trivial trivial).calm, (evT_ok (i30 k (fM M) false)).round⟩
    exact ae_pure hE (fn := Try.f30) k30 (by kernel_rfl) (by kernel_rfl) (startF_done k30 done_plain ((t30f ..).trans ((cond_is' g61).trans (cond_is' g73))))
  | true =>
    rw [hb] at h73
    have hh := (h87_30 (okX' k) (matD M) k (PX k) (fM M) 0).trans (cond_is' (x66 h1 h5))
    have hu : s87 k (fM M) 3 4 0 (PX k 66 [iD k]) (H30 (matD M) k (fM M) 0 .ready none) = s87 k (fM M) 3 4 0 (bF k (fM M) 0) (H30 (matD M) k (fM M) 0 .ready none) := by
      unfold s87
      rw [show mx25 k (PX k 66 [iD k]) = mx25 k (bF k (fM M) 0) from unit_bF k (fM M)]
    rw [hu] at hh
    have hc : CallOK Try.prog 87 [.yld 3, .d (.ptr (mx25 k (fM M)) 0)] (H30 (matD M) k (fM M) 0 .ready none) (.d (.tup [])) (H30 (matD M) k (fM M) (gS k (fM M) (2 * k + 1) : Nat) .done (some (.exit 0))) :=
      ae_call (evR_ok k) (fn := Try.f87) k87 (by kernel_rfl) (by kernel_rfl) ((startF_seg k87 hh (loop30 h1 h5 hf (matD M) (2 * k + 1) 0 (by omega))).trans (nextF_done k87 done_plain (e87_30 ..)))
    let q : List AV → List Blk → Bool := fun xs h => isP (CallOK Try.prog 87 xs h (.d (.tup [])) (H30 (matD M) k (fM M) (gS k (fM M) (2 * k + 1) : Nat) .done (some (.exit 0))))
    have hF : RulesFOK Try.prog [(87, fun xs h => .node (q xs h) (.leaf (.d (.tup []), H30 (matD M) k (fM M) (gS k (fM M) (2 * k + 1) : Nat) .done (some (.exit 0)))) .fail)] := ⟨fun xs h v h' e => by
      simp only [Tr.val] at e
      obtain ⟨c, e⟩ := cond_none e
      cases e; exact isP_iff.1 c, trivial⟩
    have hE : EvOK Try.prog (ev30 (okS (i30 k (fM M) true)) k (fM M) true [(87, fun xs h => .node (q xs h) (.leaf (.d (.tup []), H30 (matD M) k (fM M) (gS k (fM M) (2 * k + 1) : Nat) .done (some (.exit 0)))) .fail)]) :=
      ⟨(evT_ok (i30 k (fM M) true)).pure, (evK_ok (L := []) (F := _) trivial hF).fn, (evK_ok (L := []) (F := _) trivial hF).calm, (evT_ok (i30 k (fM M) true)).round⟩
    have hq : q [.yld 3, .d (.ptr (mx25 k (fM M)) 0)] (H30 (matD M) k (fM M) 0 .ready none) = true := isP_iff.2 hc
    have g61 : okS (i30 k (fM M) true) 61 [matD M] = true := okS_is h61
    have g73 : okS (i30 k (fM M) true) 73 [.agg (mx25 k (fM M))] = true := okS_is h73
    have g74 : okS (i30 k (fM M) true) 74 [.agg (mx25 k (fM M))] = true := okS_is (c74 k (fM M))
    exact ae_pure hE (fn := Try.f30) k30 (by kernel_rfl) (by kernel_rfl) (startF_done k30 done_plain ((t30 ..).trans ((cond_is' g61).trans ((cond_is' g73).trans ((cond_is' g74).trans (cond_is' hq))))))
end
end Go.Proofs.Ytjfopbpkophoeaa

/- Chapter 06: the document's Hangs (33), Beat (34), Mixes (32), gcd (71). -/
namespace Go.Proofs.Ytjfopbpkophoeaa
open Go Go.AE
set_option maxRecDepth 100000
/-! ### gcd -/
section
variable {k : Nat} {M : List (List Int)}
/-! ### Hangs (33) -/
end
end Go.Proofs.Ytjfopbpkophoeaa

/- Chapter 06: the document's Beat (34) and Mixes (32). -/
namespace Go.Proofs.Ytjfopbpkophoeaa
open Go Go.AE
set_option maxRecDepth 100000
section
variable {k : Nat} {M : List (List Int)}
/-! ### Beat (34) -/
theorem dvd_gS (f : Nat → Int) (d : Nat) : ∀ n, d ∣ gS k f n ↔ ∀ m, m < n → ringB k f m = true → d ∣ m
  | 0 => by simp only [gS, Nat.dvd_zero, true_iff]; intro m h; omega
  | n + 1 => by
    have ih := dvd_gS f d n
    unfold gS
    cases hr : ringB k f n with
    | false =>
      simp only [cond_false]
      rw [ih]
      constructor
      · intro h m hm hm2
        rcases Nat.lt_or_ge m n with q | q
        · exact h m q hm2
        · have : m = n := by omega
          subst this; rw [hr] at hm2; cases hm2
      · intro h m hm; exact h m (by omega)
    | true =>
      simp only [cond_true]
      rw [Nat.dvd_gcd_iff, ih]
      constructor
      · rintro ⟨h1, h2⟩ m hm hm2
        rcases Nat.lt_or_ge m n with q | q
        · exact h1 m q hm2
        · have : m = n := by omega
          subst this; exact h2
      · intro h
        exact ⟨fun m hm => h m (by omega), h n (by omega) hr⟩
/-! ### Mixes (32) -/
end
end Go.Proofs.Ytjfopbpkophoeaa

/- Chapter 06: Wielandt's bound, in plain Lean. -/
namespace Go.Proofs.Ytjfopbpkophoeaa
open Go Go.AE
/-! ### Walks -/
def wk (k : Nat) (A : Nat → Nat → Bool) (j : Nat) : Nat → Nat → Bool
  | 0, i => Nat.beq i j
  | n + 1, i => (List.range k).any fun x => A i x && wk k A j n x
section
variable {k : Nat} {A : Nat → Nat → Bool}
theorem wk_zero {i j : Nat} : wk k A j 0 i = true ↔ i = j := ⟨fun h => Nat.eq_of_beq_eq_true h, fun h => by subst h; exact Nat.beq_refl i⟩
theorem wk_succ {n i j : Nat} : wk k A j (n + 1) i = true ↔ ∃ x, x < k ∧ A i x = true ∧ wk k A j n x = true := by
  simp only [wk, List.any_eq_true, List.mem_range, Bool.and_eq_true]
theorem wk_add {n j : Nat} : ∀ {m i x : Nat}, wk k A x m i = true → wk k A j n x = true → wk k A j (m + n) i = true
  | 0, i, x, h1, h2 => by rw [wk_zero.1 h1, Nat.zero_add]; exact h2
  | m + 1, i, x, h1, h2 => by
    obtain ⟨y, h3, h4, h5⟩ := wk_succ.1 h1
    rw [show m + 1 + n = (m + n) + 1 by omega]
    exact wk_succ.2 ⟨y, h3, h4, wk_add h5 h2⟩
theorem wk_split {n j : Nat} : ∀ {m i : Nat}, i < k → wk k A j (m + n) i = true → ∃ x, x < k ∧ wk k A x m i = true ∧ wk k A j n x = true
  | 0, i, hi, h => ⟨i, hi, wk_zero.2 rfl, by rw [Nat.zero_add] at h; exact h⟩
  | m + 1, i, hi, h => by
    rw [show m + 1 + n = (m + n) + 1 by omega] at h
    obtain ⟨y, h3, h4, h5⟩ := wk_succ.1 h
    obtain ⟨x, h6, h7, h8⟩ := wk_split h3 h5
    exact ⟨x, h6, wk_succ.2 ⟨y, h3, h4, h7⟩, h8⟩
theorem wk_one {i j : Nat} (hj : j < k) (h : A i j = true) : wk k A j 1 i = true := wk_succ.2 ⟨j, hj, h, wk_zero.2 rfl⟩
/-- The states on the way. -/
theorem wk_path {j : Nat} (hj : j < k) : ∀ {n i : Nat}, i < k → wk k A j n i = true → ∃ c : Nat → Nat, c 0 = i ∧ c n = j ∧ (∀ t, t < n → A (c t) (c (t + 1)) = true) ∧ ∀ t, c t < k
  | 0, i, hi, h => ⟨fun _ => i, rfl, wk_zero.1 h, fun t ht => absurd ht (Nat.not_lt_zero _), fun _ => hi⟩
  | n + 1, i, hi, h => by
    obtain ⟨x, h1, h2, h3⟩ := wk_succ.1 h
    obtain ⟨c, c1, c2, c3, c4⟩ := wk_path hj h1 h3
    refine ⟨fun t => match t with | 0 => i | t + 1 => c t, rfl, c2, fun t ht => ?_, fun t => ?_⟩
    · cases t with
      | zero => show A i (c 0) = true; rw [c1]; exact h2
      | succ t => exact c3 t (by omega)
    · cases t with
      | zero => exact hi
      | succ t => exact c4 t
theorem path_wk {c : Nat → Nat} {n : Nat} (c3 : ∀ t, t < n → A (c t) (c (t + 1)) = true) (c4 : ∀ t, c t < k) : ∀ (d a : Nat), a + d ≤ n → wk k A (c (a + d)) d (c a) = true
  | 0, a, _ => wk_zero.2 rfl
  | d + 1, a, h => by
    have ih := path_wk c3 c4 d (a + 1) (by omega)
    rw [show a + 1 + d = a + (d + 1) by omega] at ih
    exact wk_succ.2 ⟨c (a + 1), c4 _, c3 a (by omega), ih⟩
/-! ### How sets grow -/
theorem count_lt {p q : Nat → Bool} : ∀ {l : List Nat}, (∀ x, p x = true → q x = true) → (∃ x, x ∈ l ∧ p x = false ∧ q x = true) → l.countP p < l.countP q
  | [], _, h => by obtain ⟨x, hx, _⟩ := h; cases hx
  | y :: l, hpq, h => by
    obtain ⟨x, hx, h1, h2⟩ := h
    have hle : l.countP p ≤ l.countP q := List.countP_mono_left fun x _ hp => hpq x hp
    rcases List.mem_cons.1 hx with rfl | hx
    · rw [List.countP_cons_of_neg (by rw [h1]; simp), List.countP_cons_of_pos h2]; omega
    · have ih := count_lt hpq ⟨x, hx, h1, h2⟩
      cases hp : p y with
      | true => rw [List.countP_cons_of_pos hp, List.countP_cons_of_pos (hpq y hp)]; omega
      | false =>
        rw [List.countP_cons_of_neg (by rw [hp]; simp)]
        cases hq : q y with
        | true => rw [List.countP_cons_of_pos hq]; omega
        | false => rw [List.countP_cons_of_neg (by rw [hq]; simp)]; exact ih
theorem count_full {p : Nat → Bool} (h : k ≤ (List.range k).countP p) : ∀ x, x < k → p x = true := by
  intro x hx
  have h1 : (List.range k).countP p = (List.range k).length := Nat.le_antisymm List.countP_le_length (by rw [List.length_range]; exact h)
  exact List.countP_eq_length.1 h1 x (List.mem_range.2 hx)
/-- Sets that grow until they have all. -/
theorem grow_all {S : Nat → Nat → Bool} {c : Nat} (up : ∀ t x, x < k → S t x = true → S (t + 1) x = true) (st : ∀ t, (∀ x, x < k → S (t + 1) x = true → S t x = true) → ∀ x, x < k → S (t + 2) x = true → S (t + 1) x = true)
    (all : ∃ T, ∀ x, x < k → S T x = true) (h0 : c ≤ (List.range k).countP (S 0)) : ∀ t, k ≤ c + t → ∀ x, x < k → S t x = true := by
  obtain ⟨T, hT⟩ := all
  have upn : ∀ d t x, x < k → S t x = true → S (t + d) x = true := by
    intro d
    induction d with
    | zero => intro t x _ h; exact h
    | succ d ih => intro t x hx h; exact up (t + d) x hx (ih t x hx h)
  have key : ∀ t, (∀ x, x < k → S t x = true) ∨ c + t ≤ (List.range k).countP (S t) := by
    intro t
    induction t with
    | zero => exact .inr (by simpa using h0)
    | succ t ih =>
      rcases ih with ih | ih
      · exact .inl fun x hx => up t x hx (ih x hx)
      · by_cases hs : ∀ x, x < k → S (t + 1) x = true → S t x = true
        · -- nothing comes any more
          left
          have stay : ∀ d x, x < k → S (t + 1 + d) x = true → S (t + d) x = true := by
            intro d
            induction d with
            | zero => exact hs
            | succ d ihd =>
              intro x hx h
              exact st (t + d) (fun x hx h => ihd x hx (by rw [show t + 1 + d = t + d + 1 by omega]; exact h)) x hx (by rw [show t + d + 2 = t + 1 + (d + 1) by omega]; exact h)
          have back : ∀ d x, x < k → S (t + d) x = true → S t x = true := by
            intro d
            induction d with
            | zero => intro x _ h; exact h
            | succ d ihd => intro x hx h; exact ihd x hx (stay d x hx (by rw [show t + 1 + d = t + (d + 1) by omega]; exact h))
          intro x hx
          have h1 : S (t + T) x = true := by rw [Nat.add_comm]; exact upn t T x hx (hT x hx)
          exact up t x hx (back T x hx h1)
        · right
          have : ∃ x, x ∈ List.range k ∧ S t x = false ∧ S (t + 1) x = true := by
            apply Classical.byContradiction
            intro hc
            apply hs
            intro x hx h1
            cases h2 : S t x with
            | true => rfl
            | false => exact absurd ⟨x, List.mem_range.2 hx, h2, h1⟩ hc
          -- on the states alone
          have hlt : (List.range k).countP (fun x => decide (x < k) && S t x) < (List.range k).countP (fun x => decide (x < k) && S (t + 1) x) := by
            refine count_lt (fun x h => ?_) ?_
            · simp only [Bool.and_eq_true, decide_eq_true_eq] at h ⊢
              exact ⟨h.1, up t x h.1 h.2⟩
            · obtain ⟨x, hx, h1, h2⟩ := this
              exact ⟨x, hx, by simp [h1], by simp [h2, List.mem_range.1 hx]⟩
          have e : ∀ t, (List.range k).countP (fun x => decide (x < k) && S t x) = (List.range k).countP (S t) := fun t =>
            List.countP_congr fun x hx => by simp [List.mem_range.1 hx]
          rw [e, e] at hlt
          omega
  intro t ht x hx
  rcases key t with h | h
  · exact h x hx
  · exact count_full (by omega) x hx
theorem count_nodup : ∀ {l : List Nat}, l.Nodup → (∀ x, x ∈ l → x < k) → l.length ≤ (List.range k).countP fun x => decide (x ∈ l)
  | [], _, _ => Nat.zero_le _
  | y :: l, hn, hk => by
    obtain ⟨h1, h2⟩ := List.nodup_cons.1 hn
    have ih := count_nodup h2 fun x hx => hk x (List.mem_cons_of_mem _ hx)
    have hlt : ((List.range k).countP fun x => decide (x ∈ l)) < (List.range k).countP fun x => decide (x ∈ y :: l) :=
      count_lt (fun x h => by simp only [decide_eq_true_eq] at h ⊢; exact List.mem_cons_of_mem _ h) ⟨y, List.mem_range.2 (hk y (List.mem_cons_self ..)), by simpa using h1, by simp⟩
    simp only [List.length_cons]
    omega
/-! ### Wielandt's bound -/
def full (k : Nat) (A : Nat → Nat → Bool) (n : Nat) : Prop := ∀ i j, i < k → j < k → wk k A j n i = true
theorem full_succ {n : Nat} (h1 : 1 ≤ n) (h : full k A n) : full k A (n + 1) := by
  intro i j hi hj
  obtain ⟨m, rfl⟩ : ∃ m, n = m + 1 := ⟨n - 1, by omega⟩
  obtain ⟨x, h2, h3, _⟩ := wk_succ.1 (h i j hi hj)
  exact wk_succ.2 ⟨x, h2, h3, h x j h2 hj⟩
theorem full_le {n : Nat} (h1 : 1 ≤ n) (h : full k A n) : ∀ m, n ≤ m → full k A m := by
  intro m hm
  obtain ⟨d, rfl⟩ : ∃ d, m = n + d := ⟨m - n, by omega⟩
  clear hm
  induction d with
  | zero => exact h
  | succ d ih => exact full_succ (n := n + d) (by omega) ih
theorem least_cycle {n v : Nat} (h1 : 1 ≤ n) (hv : v < k) (h : wk k A v n v = true) : ∃ s u, 1 ≤ s ∧ u < k ∧ wk k A u s u = true ∧ ∀ s' u', 1 ≤ s' → s' < s → u' < k → wk k A u' s' u' = false := by
  induction n using Nat.strongRecOn generalizing v with
  | ind n ih =>
    by_cases hx : ∃ s' u', 1 ≤ s' ∧ s' < n ∧ u' < k ∧ wk k A u' s' u' = true
    · obtain ⟨s', u', a, b, c, d⟩ := hx
      exact ih s' b a c d
    · refine ⟨n, v, h1, hv, h, fun s' u' a b c => ?_⟩
      cases hw : wk k A u' s' u' with
      | false => rfl
      | true => exact absurd ⟨s', u', a, b, c, hw⟩ hx
/-- Mixing comes at (k - 1)^2 + 1 at the latest. -/
theorem wielandt {N : Nat} (h2 : 2 ≤ k) (hN : 1 ≤ N) (hF : full k A N) : full k A ((k - 1) * (k - 1) + 1) := by
  obtain ⟨s, u, hs1, hu, hsu, hmin⟩ := least_cycle hN (show 0 < k by omega) (hF 0 0 (by omega) (by omega))
  obtain ⟨c, c1, c2, c3, c4⟩ := wk_path hu hu hsu
  have hw : ∀ a b, a ≤ b → b ≤ s → wk k A (c b) (b - a) (c a) = true := fun a b hab hb => by
    have := path_wk c3 c4 (b - a) a (by omega)
    rw [show a + (b - a) = b by omega] at this
    exact this
  have hinj : ∀ a b, a < b → b < s → c a ≠ c b := fun a b hab hb e => by
    have h := hw a b (by omega) (by omega)
    rw [← e] at h
    rw [hmin (b - a) (c a) (by omega) (by omega) (c4 a)] at h
    cases h
  -- each state of the ring comes back to itself in s steps
  have hloop : ∀ a, a < s → wk k A (c a) s (c a) = true := fun a ha => by
    have h3 := hw a s (by omega) (Nat.le_refl _)
    have h4 := hw 0 a (by omega) (by omega)
    rw [c2, ← c1] at h3
    have := wk_add h3 h4
    rw [show s - a + (a - 0) = s by omega] at this
    exact this
  have hnd : ((List.range s).map c).Nodup := by
    rw [List.nodup_iff_pairwise_ne, List.pairwise_map]
    refine List.Pairwise.imp_of_mem ?_ (List.pairwise_lt_range (n := s))
    intro a b ha hb hab
    exact hinj a b hab (List.mem_range.1 hb)
  have hcard : s ≤ (List.range k).countP fun x => decide (x ∈ (List.range s).map c) := by
    have := count_nodup (k := k) hnd fun x hx => by
      obtain ⟨a, _, rfl⟩ := List.mem_map.1 hx
      exact c4 a
    simpa using this
  have hsk : s ≤ k := Nat.le_trans hcard (by have := List.countP_le_length (p := fun x => decide (x ∈ (List.range s).map c)) (l := List.range k); simpa using this)
  have hmem : ∀ x, x ∈ (List.range s).map c ↔ ∃ a, a < s ∧ c a = x := fun x => by simp [List.mem_map, List.mem_range]
  -- the ring is not of all states
  have hs : s ≤ k - 1 := by
    apply Classical.byContradiction
    intro hns
    have hk : s = k := by omega
    subst hk
    have hall : ∀ x, x < s → ∃ a, a < s ∧ c a = x := fun x hx => by
      have := count_full hcard x hx
      exact (hmem x).1 (by simpa using this)
    have edge : ∀ a b, a < s → b < s → A (c a) (c b) = true → (a + 1) % s = b := fun a b ha hb he => by
      have e1 := wk_one (A := A) (c4 b) he
      by_cases hab : b ≤ a
      · have h5 := wk_add (hw b a hab (by omega)) e1
        by_cases h6 : a - b + 1 < s
        · rw [hmin _ _ (by omega) h6 (c4 b)] at h5; cases h5
        · have : a = s - 1 ∧ b = 0 := by omega
          obtain ⟨rfl, rfl⟩ := this
          rw [show s - 1 + 1 = s by omega, Nat.mod_self]
      · have h3 := hw b s (by omega) (Nat.le_refl _)
        have h4 := hw 0 a (by omega) (by omega)
        rw [c2, ← c1] at h3
        have h5 := wk_add (wk_add h3 h4) e1
        by_cases h6 : s - b + (a - 0) + 1 < s
        · rw [hmin _ _ (by omega) h6 (c4 b)] at h5; cases h5
        · have : b = a + 1 := by omega
          subst this
          exact Nat.mod_eq_of_lt hb
    have turn : ∀ n a b, a < s → b < s → wk s A (c b) n (c a) = true → (a + n) % s = b := by
      intro n
      induction n with
      | zero =>
        intro a b ha hb h
        have e := wk_zero.1 h
        have : a = b := by
          rcases Nat.lt_trichotomy a b with h | h | h
          · exact absurd e (hinj a b h hb)
          · exact h
          · exact absurd e.symm (hinj b a h ha)
        subst this
        exact Nat.mod_eq_of_lt ha
      | succ n ih =>
        intro a b ha hb h
        obtain ⟨x, h3, h4, h5⟩ := wk_succ.1 h
        obtain ⟨d, hd, rfl⟩ := hall x h3
        have e1 := edge a d ha hd h4
        have e2 := ih d b hd hb h5
        rw [← e2, ← e1, Nat.mod_add_mod]
        congr 1; omega
    have t0 := turn N 0 0 (by omega) (by omega) (hF _ _ (c4 0) (c4 0))
    have t1 := turn N 0 1 (by omega) (by omega) (hF _ _ (c4 0) (c4 1))
    omega
  -- all states come to the ring in k - s steps
  have hin : ∀ x, x < k → ∃ a, a < s ∧ wk k A (c a) (k - s) x = true := by
    have := grow_all (k := k) (c := s) (S := fun t x => (List.range s).any fun a => wk k A (c a) t x) ?_ ?_ ⟨N, ?_⟩ ?_ (k - s) (by omega)
    · intro x hx
      have h := this x hx
      simp only [List.any_eq_true, List.mem_range] at h
      exact h
    · intro t x hx h
      simp only [List.any_eq_true, List.mem_range] at h ⊢
      obtain ⟨a, ha, h3⟩ := h
      have e1 := wk_one (A := A) (c4 (a + 1)) (c3 a ha)
      have h5 := wk_add h3 e1
      by_cases hl : a + 1 < s
      · exact ⟨a + 1, hl, h5⟩
      · have : a + 1 = s := by omega
        rw [this, c2, ← c1] at h5
        exact ⟨0, by omega, h5⟩
    · intro t hst x hx h
      simp only [List.any_eq_true, List.mem_range] at h ⊢ hst
      obtain ⟨a, ha, h3⟩ := h
      obtain ⟨y, h4, h5, h6⟩ := wk_succ.1 h3
      obtain ⟨b, hb, h7⟩ := hst y h4 ⟨a, ha, h6⟩
      exact ⟨b, hb, wk_succ.2 ⟨y, h4, h5, h7⟩⟩
    · intro x hx
      simp only [List.any_eq_true, List.mem_range]
      exact ⟨0, by omega, hF x (c 0) hx (c4 0)⟩
    · refine Nat.le_trans hcard (List.countP_mono_left fun x _ hx => ?_)
      obtain ⟨a, ha, rfl⟩ := (hmem x).1 (by simpa using hx)
      simp only [List.any_eq_true, List.mem_range]
      exact ⟨a, ha, wk_zero.2 rfl⟩
  -- from the ring all states are reached in s (k - 1) steps
  have hout : ∀ a, a < s → ∀ x, x < k → wk k A x (s * (k - 1)) (c a) = true := by
    intro a ha
    refine grow_all (k := k) (c := 1) (S := fun t x => wk k A x (s * t) (c a)) ?_ ?_ ⟨N, ?_⟩ ?_ (k - 1) (by omega)
    · intro t x hx h
      have := wk_add (hloop a ha) h
      rw [show s * (t + 1) = s + s * t by rw [Nat.mul_add, Nat.mul_one, Nat.add_comm]]
      exact this
    · intro t hst x hx h
      rw [show s * (t + 2) = s * (t + 1) + s by rw [show t + 2 = (t + 1) + 1 by omega, Nat.mul_add s (t + 1) 1, Nat.mul_one]] at h
      obtain ⟨y, h3, h4, h5⟩ := wk_split (c4 a) h
      have := wk_add (hst y h3 h4) h5
      rw [show s * (t + 1) = s * t + s by rw [Nat.mul_add, Nat.mul_one]]
      exact this
    · intro x hx
      exact full_le hN hF (s * N) (Nat.le_mul_of_pos_left N (by omega)) (c a) x (c4 a) hx
    · have : (List.range k).countP (fun x => decide (x ∈ [c a])) ≤ (List.range k).countP fun x => wk k A x (s * 0) (c a) := List.countP_mono_left fun x _ hx => by
        simp only [List.mem_singleton, decide_eq_true_eq] at hx
        subst hx
        exact wk_zero.2 rfl
      refine Nat.le_trans (count_nodup (k := k) (l := [c a]) (by simp) (fun x hx => ?_)) this
      simp only [List.mem_singleton] at hx
      subst hx; exact c4 a
  have hall : full k A (k - s + s * (k - 1)) := fun x y hx hy => by
    obtain ⟨a, ha, h3⟩ := hin x hx
    exact wk_add h3 (hout a ha y hy)
  refine full_le ?_ hall _ ?_
  · have : 1 ≤ k - s := by omega
    omega
  · obtain ⟨d, hd⟩ : ∃ d, k - 1 = s + d := ⟨k - 1 - s, by omega⟩
    rw [hd, show k - s = d + 1 by omega, Nat.add_mul s d (s + d)]
    have : d ≤ d * (s + d) := Nat.le_mul_of_pos_right d (by omega)
    omega
end
theorem reach_wk (k : Nat) (f : Nat → Int) (j : Nat) : ∀ n i, reach k f j n i = wk k (fun i x => decide (0 < f (5 * i + x))) j n i
  | 0, _ => rfl
  | n + 1, i => by
    unfold reach wk
    congr 1
    funext x
    rw [reach_wk k f j n x]
end Go.Proofs.Ytjfopbpkophoeaa

/- Chapter 06: law 6 (Mixes) on data. -/
namespace Go.Proofs.Ytjfopbpkophoeaa
open Go Go.AE
set_option maxRecDepth 100000
section
variable {k : Nat} {f : Nat → Int}
theorem fullB_full (h5 : k ≤ 5) (n : Nat) : fullB k f n = true ↔ full k (fun i x => decide (0 < f (5 * i + x))) n := by
  rw [fullB_iff h5]
  constructor
  · intro h i j hi hj
    rw [← reach_wk]; exact h i j hi hj
  · intro h i j hi hj
    rw [reach_wk]; exact h i j hi hj
theorem mixS_ok : ∀ n, ((mixS k f n).2 = true → ∃ L : Nat, (mixS k f n).1 = L ∧ L < n ∧ (∀ x, L ≤ x → x < n → fullB k f x = true) ∧ (L = 0 ∨ fullB k f (L - 1) = false)) ∧ ((mixS k f n).2 = false → n = 0 ∨ fullB k f (n - 1) = false)
  | 0 => ⟨fun h => by simp [mixS] at h, fun _ => .inl rfl⟩
  | n + 1 => by
    obtain ⟨i1, i2⟩ := mixS_ok n
    unfold mixS
    cases hf : fullB k f n with
    | false => exact ⟨fun h => by simp at h, fun _ => .inr hf⟩
    | true =>
      cases hb : (mixS k f n).2 with
      | false =>
        refine ⟨fun _ => ⟨n, rfl, by omega, fun x h1 h2 => ?_, ?_⟩, fun h => by simp at h⟩
        · have : x = n := by omega
          subst this; exact hf
        · rcases i2 hb with h | h
          · exact .inl h
          · exact .inr h
      | true =>
        obtain ⟨L, h1, h2, h3, h4⟩ := i1 hb
        refine ⟨fun _ => ⟨L, h1, by omega, fun x h5 h6 => ?_, h4⟩, fun h => ?_⟩
        · rcases Nat.lt_or_ge x n with q | q
          · exact h3 x h5 q
          · have : x = n := by omega
            subst this; exact hf
        · simp only [Bool.not_true, cond_false] at h
          rw [hb] at h; cases h
end
theorem k6 : OkSeg Try.f6 none [] := ⟨by kernel_rfl, by kernel_rfl, by decide⟩
end Go.Proofs.Ytjfopbpkophoeaa
