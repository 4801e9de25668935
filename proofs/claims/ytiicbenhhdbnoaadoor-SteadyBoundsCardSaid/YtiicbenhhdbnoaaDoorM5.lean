/- Part 5 of what the law stands on: the abstract machine over the model, and what the functions answer. No condition. -/
import Derived.Test.YtiicbenhhdbnoaaDoorM4
set_option linter.unusedSimpArgs false
set_option linter.unusedVariables false

/- Chapter 09: the determinant's inner function: what it answers. Written by wip/tools/gen92.py. -/
namespace Go.Proofs.YtiicbenhhdbnoaaDoor
open Go Go.AE
set_option maxRecDepth 100000
set_option maxHeartbeats 4000000

noncomputable def tabD (Rs : List (List Int)) : TabD := ⟨fun r cols a b h => isP (∀ cs n s c nl, freezeV h 4 cols = some (.sl cs n s c nl) → CallOK Tryd.prog 92 [.d (iD r), cols, a, b] h (.d (iD (lapW Rs (unI cs)))) h), fun _ cs => lapW Rs (unI cs)⟩

theorem ev92_ok (Rs : List (List Int)) : EvOK Tryd.prog (ev92 (tabD Rs)) := by
  refine evO_ok ae_T ae_Q ae_mixed (fun _ _ h => ae_fn h) (EvOK.addFn EvOK.nil ?_ ?_) [] [92] 30 1
  · intro xs h v h' e
    unfold F92t at e
    split at e
    · split at e
      · rename_i hf
        simp only [Tr.val] at e
        obtain ⟨hg, e2⟩ := cond_none e
        simp only [Option.some.injEq, Prod.mk.injEq] at e2
        obtain ⟨rfl, rfl⟩ := e2
        exact isP_iff.1 hg _ _ _ _ _ hf
      · cases e
    · cases e
  · intro xs h v h' e _
    unfold F92t at e
    split at e
    · split at e
      · simp only [Tr.val] at e
        obtain ⟨_, e2⟩ := cond_none e
        simp only [Option.some.injEq, Prod.mk.injEq] at e2
        exact e2.2.symm
      · cases e
    · cases e

theorem d92_1_0 (r0 : List Int) (all : List DV) : CallOK Tryd.prog 92 [.d (iD 1), .row 3 0 0 1 1 false, .ref 1 0, .ref 0 0] ([.ac [.fn 92 [] [.ref 1 0, .ref 0 0]], .dc [.sl [.sl (ints r0) 1 1 false false] 1 1 false false], .dc all, .dc [iD 0]]) (.d (iD (lapW [] []))) ([.ac [.fn 92 [] [.ref 1 0, .ref 0 0]], .dc [.sl [.sl (ints r0) 1 1 false false] 1 1 false false], .dc all, .dc [iD 0]]) := by
  refine ae_directF (ev92_ok []) 30 (by kernel_rfl : tget aeF 92 = some Tryd.f92) ((u92_1_0 (tabD []) (.sl (ints r0) 1 1 false false) all).trans ?_)
  rfl

theorem d92_0_1 (r0 : List Int) (q0 : Int) (hl : r0.length = 1) (hq0 : 0 ≤ q0 ∧ q0 < 1) : CallOK Tryd.prog 92 [.d (iD 0), .grow 2 1 false, .ref 1 0, .ref 0 0] ([.ac [.fn 92 [] [.ref 1 0, .ref 0 0]], .dc [.sl [.sl (ints r0) 1 1 false false] 1 1 false false], .dc [iD q0]]) (.d (iD (lapW [r0] [q0]))) ([.ac [.fn 92 [] [.ref 1 0, .ref 0 0]], .dc [.sl [.sl (ints r0) 1 1 false false] 1 1 false false], .dc [iD q0]]) := by
  refine ae_directF (ev92_ok []) 30 (by kernel_rfl : tget aeF 92 = some Tryd.f92) ((u92_0_1 (tabD []) (ints r0) q0).trans ?_)
  have hw : lapW [r0] [q0] = (stepD (r0.getD q0.toNat 0) false (lapW [] []) 0) := rfl
  have hl0 : r0.length = 1 := hl
  have g0 := d92_1_0 r0 [iD q0]
  refine (inR_pos hq0.1 hq0.2).trans ?_
  refine (getI_nth (by omega)).trans ?_
  by_cases z0 : r0.getD q0.toNat 0 = 0
  · refine (cnd_pos z0).trans ?_
    rw [hw]; simp only [stepD, z0, if_true, if_false, ↓reduceIte, cond_true, cond_false] <;> rfl
  · refine (cnd_neg z0).trans ?_
    refine (cond_is (isP_iff.2 fun cs n s c nl e => ?_)).trans ?_
    · have e0 : some (DV.sl [] 0 1 false false) = some (DV.sl cs n s c nl) := e
      cases e0
      exact g0
    refine (inR_pos hq0.1 hq0.2).trans ?_
    refine (getI_nth (by omega)).trans ?_
    rw [hw]; simp only [stepD, z0, if_true, if_false, ↓reduceIte, cond_true, cond_false] <;> rfl

theorem d92_2_0 (r0 r1 : List Int) (all X1 : List DV) : CallOK Tryd.prog 92 [.d (iD 2), .row 4 0 0 1 1 false, .ref 1 0, .ref 0 0] ([.ac [.fn 92 [] [.ref 1 0, .ref 0 0]], .dc [.sl [.sl (ints r0) 2 1 false false, .sl (ints r1) 2 1 false false] 2 1 false false], .dc all, .dc X1, .dc [iD 0]]) (.d (iD (lapW [] []))) ([.ac [.fn 92 [] [.ref 1 0, .ref 0 0]], .dc [.sl [.sl (ints r0) 2 1 false false, .sl (ints r1) 2 1 false false] 2 1 false false], .dc all, .dc X1, .dc [iD 0]]) := by
  refine ae_directF (ev92_ok []) 30 (by kernel_rfl : tget aeF 92 = some Tryd.f92) ((u92_2_0 (tabD []) (.sl (ints r0) 2 1 false false) (.sl (ints r1) 2 1 false false) all X1).trans ?_)
  rfl

theorem d92_1_1 (r0 r1 : List Int) (all : List DV) (q0 : Int) (hl : r1.length = 2) (hq0 : 0 ≤ q0 ∧ q0 < 2) : CallOK Tryd.prog 92 [.d (iD 1), .row 3 0 1 2 1 false, .ref 1 0, .ref 0 0] ([.ac [.fn 92 [] [.ref 1 0, .ref 0 0]], .dc [.sl [.sl (ints r0) 2 1 false false, .sl (ints r1) 2 1 false false] 2 1 false false], .dc all, .dc [iD q0, iD 0]]) (.d (iD (lapW [r1] [q0]))) ([.ac [.fn 92 [] [.ref 1 0, .ref 0 0]], .dc [.sl [.sl (ints r0) 2 1 false false, .sl (ints r1) 2 1 false false] 2 1 false false], .dc all, .dc [iD q0, iD 0]]) := by
  refine ae_directF (ev92_ok []) 30 (by kernel_rfl : tget aeF 92 = some Tryd.f92) ((u92_1_1 (tabD []) (ints r1) (.sl (ints r0) 2 1 false false) all q0).trans ?_)
  have hw : lapW [r1] [q0] = (stepD (r1.getD q0.toNat 0) false (lapW [] []) 0) := rfl
  have hl0 : r1.length = 2 := hl
  have g0 := d92_2_0 r0 r1 all [iD q0, iD 0]
  refine (inR_pos hq0.1 hq0.2).trans ?_
  refine (getI_nth (by omega)).trans ?_
  by_cases z0 : r1.getD q0.toNat 0 = 0
  · refine (cnd_pos z0).trans ?_
    rw [hw]; simp only [stepD, z0, if_true, if_false, ↓reduceIte, cond_true, cond_false] <;> rfl
  · refine (cnd_neg z0).trans ?_
    refine (cond_is (isP_iff.2 fun cs n s c nl e => ?_)).trans ?_
    · have e0 : some (DV.sl [] 0 1 false false) = some (DV.sl cs n s c nl) := e
      cases e0
      exact g0
    refine (inR_pos hq0.1 hq0.2).trans ?_
    refine (getI_nth (by omega)).trans ?_
    rw [hw]; simp only [stepD, z0, if_true, if_false, ↓reduceIte, cond_true, cond_false] <;> rfl

theorem d92_0_2 (r0 r1 : List Int) (q0 q1 : Int) (hl : r0.length = 2 ∧ r1.length = 2) (hq0 : 0 ≤ q0 ∧ q0 < 2) (hq1 : 0 ≤ q1 ∧ q1 < 2) : CallOK Tryd.prog 92 [.d (iD 0), .grow 2 1 false, .ref 1 0, .ref 0 0] ([.ac [.fn 92 [] [.ref 1 0, .ref 0 0]], .dc [.sl [.sl (ints r0) 2 1 false false, .sl (ints r1) 2 1 false false] 2 1 false false], .dc [iD q0, iD q1]]) (.d (iD (lapW [r0, r1] [q0, q1]))) ([.ac [.fn 92 [] [.ref 1 0, .ref 0 0]], .dc [.sl [.sl (ints r0) 2 1 false false, .sl (ints r1) 2 1 false false] 2 1 false false], .dc [iD q0, iD q1]]) := by
  refine ae_directF (ev92_ok [r1]) 30 (by kernel_rfl : tget aeF 92 = some Tryd.f92) ((u92_0_2 (tabD [r1]) (ints r0) (.sl (ints r1) 2 1 false false) q0 q1).trans ?_)
  have hw : lapW [r0, r1] [q0, q1] = (stepD (r0.getD q1.toNat 0) true (lapW [r1] [q0]) (stepD (r0.getD q0.toNat 0) false (lapW [r1] [q1]) 0)) := rfl
  have hl0 : r0.length = 2 := hl.1
  have g0 := d92_1_1 r0 r1 [iD q0, iD q1] q1 hl.2 hq1
  have g1 := d92_1_1 r0 r1 [iD q0, iD q1] q0 hl.2 hq0
  refine (inR_pos hq0.1 hq0.2).trans ?_
  refine (getI_nth (by omega)).trans ?_
  by_cases z0 : r0.getD q0.toNat 0 = 0
  · refine (cnd_pos z0).trans ?_
    refine (inR_pos hq1.1 hq1.2).trans ?_
    refine (getI_nth (by omega)).trans ?_
    by_cases z1 : r0.getD q1.toNat 0 = 0
    · refine (cnd_pos z1).trans ?_
      rw [hw]; simp only [stepD, z0, z1, if_true, if_false, ↓reduceIte, cond_true, cond_false] <;> rfl
    · refine (cnd_neg z1).trans ?_
      refine (cond_is (isP_iff.2 fun cs n s c nl e => ?_)).trans ?_
      · have e0 : some (DV.sl [iD q0] 1 1 false false) = some (DV.sl cs n s c nl) := e
        cases e0
        exact g1
      refine (inR_pos hq1.1 hq1.2).trans ?_
      refine (getI_nth (by omega)).trans ?_
      rw [hw]; simp only [stepD, z0, z1, if_true, if_false, ↓reduceIte, cond_true, cond_false] <;> rfl
  · refine (cnd_neg z0).trans ?_
    refine (cond_is (isP_iff.2 fun cs n s c nl e => ?_)).trans ?_
    · have e0 : some (DV.sl [iD q1] 1 1 false false) = some (DV.sl cs n s c nl) := e
      cases e0
      exact g0
    refine (inR_pos hq0.1 hq0.2).trans ?_
    refine (getI_nth (by omega)).trans ?_
    refine (inR_pos hq1.1 hq1.2).trans ?_
    refine (getI_nth (by omega)).trans ?_
    by_cases z1 : r0.getD q1.toNat 0 = 0
    · refine (cnd_pos z1).trans ?_
      rw [hw]; simp only [stepD, z0, z1, if_true, if_false, ↓reduceIte, cond_true, cond_false] <;> rfl
    · refine (cnd_neg z1).trans ?_
      refine (cond_is (isP_iff.2 fun cs n s c nl e => ?_)).trans ?_
      · have e0 : some (DV.sl [iD q0] 1 1 false false) = some (DV.sl cs n s c nl) := e
        cases e0
        exact g1
      refine (inR_pos hq1.1 hq1.2).trans ?_
      refine (getI_nth (by omega)).trans ?_
      rw [hw]; simp only [stepD, z0, z1, if_true, if_false, ↓reduceIte, cond_true, cond_false] <;> rfl

theorem d92_3_0 (r0 r1 r2 : List Int) (all X1 X2 : List DV) : CallOK Tryd.prog 92 [.d (iD 3), .row 5 0 0 1 1 false, .ref 1 0, .ref 0 0] ([.ac [.fn 92 [] [.ref 1 0, .ref 0 0]], .dc [.sl [.sl (ints r0) 3 1 false false, .sl (ints r1) 3 1 false false, .sl (ints r2) 3 1 false false] 3 1 false false], .dc all, .dc X1, .dc X2, .dc [iD 0]]) (.d (iD (lapW [] []))) ([.ac [.fn 92 [] [.ref 1 0, .ref 0 0]], .dc [.sl [.sl (ints r0) 3 1 false false, .sl (ints r1) 3 1 false false, .sl (ints r2) 3 1 false false] 3 1 false false], .dc all, .dc X1, .dc X2, .dc [iD 0]]) := by
  refine ae_directF (ev92_ok []) 30 (by kernel_rfl : tget aeF 92 = some Tryd.f92) ((u92_3_0 (tabD []) (.sl (ints r0) 3 1 false false) (.sl (ints r1) 3 1 false false) (.sl (ints r2) 3 1 false false) all X1 X2).trans ?_)
  rfl

theorem d92_2_1 (r0 r1 r2 : List Int) (all X1 : List DV) (q0 : Int) (hl : r2.length = 3) (hq0 : 0 ≤ q0 ∧ q0 < 3) : CallOK Tryd.prog 92 [.d (iD 2), .row 4 0 1 2 1 false, .ref 1 0, .ref 0 0] ([.ac [.fn 92 [] [.ref 1 0, .ref 0 0]], .dc [.sl [.sl (ints r0) 3 1 false false, .sl (ints r1) 3 1 false false, .sl (ints r2) 3 1 false false] 3 1 false false], .dc all, .dc X1, .dc [iD q0, iD 0]]) (.d (iD (lapW [r2] [q0]))) ([.ac [.fn 92 [] [.ref 1 0, .ref 0 0]], .dc [.sl [.sl (ints r0) 3 1 false false, .sl (ints r1) 3 1 false false, .sl (ints r2) 3 1 false false] 3 1 false false], .dc all, .dc X1, .dc [iD q0, iD 0]]) := by
  refine ae_directF (ev92_ok []) 30 (by kernel_rfl : tget aeF 92 = some Tryd.f92) ((u92_2_1 (tabD []) (ints r2) (.sl (ints r0) 3 1 false false) (.sl (ints r1) 3 1 false false) all X1 q0).trans ?_)
  have hw : lapW [r2] [q0] = (stepD (r2.getD q0.toNat 0) false (lapW [] []) 0) := rfl
  have hl0 : r2.length = 3 := hl
  have g0 := d92_3_0 r0 r1 r2 all X1 [iD q0, iD 0]
  refine (inR_pos hq0.1 hq0.2).trans ?_
  refine (getI_nth (by omega)).trans ?_
  by_cases z0 : r2.getD q0.toNat 0 = 0
  · refine (cnd_pos z0).trans ?_
    rw [hw]; simp only [stepD, z0, if_true, if_false, ↓reduceIte, cond_true, cond_false] <;> rfl
  · refine (cnd_neg z0).trans ?_
    refine (cond_is (isP_iff.2 fun cs n s c nl e => ?_)).trans ?_
    · have e0 : some (DV.sl [] 0 1 false false) = some (DV.sl cs n s c nl) := e
      cases e0
      exact g0
    refine (inR_pos hq0.1 hq0.2).trans ?_
    refine (getI_nth (by omega)).trans ?_
    rw [hw]; simp only [stepD, z0, if_true, if_false, ↓reduceIte, cond_true, cond_false] <;> rfl

theorem d92_1_2 (r0 r1 r2 : List Int) (all : List DV) (q0 q1 : Int) (hl : r1.length = 3 ∧ r2.length = 3) (hq0 : 0 ≤ q0 ∧ q0 < 3) (hq1 : 0 ≤ q1 ∧ q1 < 3) : CallOK Tryd.prog 92 [.d (iD 1), .row 3 0 2 3 1 false, .ref 1 0, .ref 0 0] ([.ac [.fn 92 [] [.ref 1 0, .ref 0 0]], .dc [.sl [.sl (ints r0) 3 1 false false, .sl (ints r1) 3 1 false false, .sl (ints r2) 3 1 false false] 3 1 false false], .dc all, .dc [iD q0, iD q1, iD 0]]) (.d (iD (lapW [r1, r2] [q0, q1]))) ([.ac [.fn 92 [] [.ref 1 0, .ref 0 0]], .dc [.sl [.sl (ints r0) 3 1 false false, .sl (ints r1) 3 1 false false, .sl (ints r2) 3 1 false false] 3 1 false false], .dc all, .dc [iD q0, iD q1, iD 0]]) := by
  refine ae_directF (ev92_ok [r2]) 30 (by kernel_rfl : tget aeF 92 = some Tryd.f92) ((u92_1_2 (tabD [r2]) (ints r1) (.sl (ints r0) 3 1 false false) (.sl (ints r2) 3 1 false false) all q0 q1).trans ?_)
  have hw : lapW [r1, r2] [q0, q1] = (stepD (r1.getD q1.toNat 0) true (lapW [r2] [q0]) (stepD (r1.getD q0.toNat 0) false (lapW [r2] [q1]) 0)) := rfl
  have hl0 : r1.length = 3 := hl.1
  have g0 := d92_2_1 r0 r1 r2 all [iD q0, iD q1, iD 0] q1 hl.2 hq1
  have g1 := d92_2_1 r0 r1 r2 all [iD q0, iD q1, iD 0] q0 hl.2 hq0
  refine (inR_pos hq0.1 hq0.2).trans ?_
  refine (getI_nth (by omega)).trans ?_
  by_cases z0 : r1.getD q0.toNat 0 = 0
  · refine (cnd_pos z0).trans ?_
    refine (inR_pos hq1.1 hq1.2).trans ?_
    refine (getI_nth (by omega)).trans ?_
    by_cases z1 : r1.getD q1.toNat 0 = 0
    · refine (cnd_pos z1).trans ?_
      rw [hw]; simp only [stepD, z0, z1, if_true, if_false, ↓reduceIte, cond_true, cond_false] <;> rfl
    · refine (cnd_neg z1).trans ?_
      refine (cond_is (isP_iff.2 fun cs n s c nl e => ?_)).trans ?_
      · have e0 : some (DV.sl [iD q0] 1 1 false false) = some (DV.sl cs n s c nl) := e
        cases e0
        exact g1
      refine (inR_pos hq1.1 hq1.2).trans ?_
      refine (getI_nth (by omega)).trans ?_
      rw [hw]; simp only [stepD, z0, z1, if_true, if_false, ↓reduceIte, cond_true, cond_false] <;> rfl
  · refine (cnd_neg z0).trans ?_
    refine (cond_is (isP_iff.2 fun cs n s c nl e => ?_)).trans ?_
    · have e0 : some (DV.sl [iD q1] 1 1 false false) = some (DV.sl cs n s c nl) := e
      cases e0
      exact g0
    refine (inR_pos hq0.1 hq0.2).trans ?_
    refine (getI_nth (by omega)).trans ?_
    refine (inR_pos hq1.1 hq1.2).trans ?_
    refine (getI_nth (by omega)).trans ?_
    by_cases z1 : r1.getD q1.toNat 0 = 0
    · refine (cnd_pos z1).trans ?_
      rw [hw]; simp only [stepD, z0, z1, if_true, if_false, ↓reduceIte, cond_true, cond_false] <;> rfl
    · refine (cnd_neg z1).trans ?_
      refine (cond_is (isP_iff.2 fun cs n s c nl e => ?_)).trans ?_
      · have e0 : some (DV.sl [iD q0] 1 1 false false) = some (DV.sl cs n s c nl) := e
        cases e0
        exact g1
      refine (inR_pos hq1.1 hq1.2).trans ?_
      refine (getI_nth (by omega)).trans ?_
      rw [hw]; simp only [stepD, z0, z1, if_true, if_false, ↓reduceIte, cond_true, cond_false] <;> rfl

theorem d92_0_3 (r0 r1 r2 : List Int) (q0 q1 q2 : Int) (hl : r0.length = 3 ∧ r1.length = 3 ∧ r2.length = 3) (hq0 : 0 ≤ q0 ∧ q0 < 3) (hq1 : 0 ≤ q1 ∧ q1 < 3) (hq2 : 0 ≤ q2 ∧ q2 < 3) : CallOK Tryd.prog 92 [.d (iD 0), .grow 2 1 false, .ref 1 0, .ref 0 0] ([.ac [.fn 92 [] [.ref 1 0, .ref 0 0]], .dc [.sl [.sl (ints r0) 3 1 false false, .sl (ints r1) 3 1 false false, .sl (ints r2) 3 1 false false] 3 1 false false], .dc [iD q0, iD q1, iD q2]]) (.d (iD (lapW [r0, r1, r2] [q0, q1, q2]))) ([.ac [.fn 92 [] [.ref 1 0, .ref 0 0]], .dc [.sl [.sl (ints r0) 3 1 false false, .sl (ints r1) 3 1 false false, .sl (ints r2) 3 1 false false] 3 1 false false], .dc [iD q0, iD q1, iD q2]]) := by
  refine ae_directF (ev92_ok [r1, r2]) 30 (by kernel_rfl : tget aeF 92 = some Tryd.f92) ((u92_0_3 (tabD [r1, r2]) (ints r0) (.sl (ints r1) 3 1 false false) (.sl (ints r2) 3 1 false false) q0 q1 q2).trans ?_)
  have hw : lapW [r0, r1, r2] [q0, q1, q2] = (stepD (r0.getD q2.toNat 0) false (lapW [r1, r2] [q0, q1]) (stepD (r0.getD q1.toNat 0) true (lapW [r1, r2] [q0, q2]) (stepD (r0.getD q0.toNat 0) false (lapW [r1, r2] [q1, q2]) 0))) := rfl
  have hl0 : r0.length = 3 := hl.1
  have g0 := d92_1_2 r0 r1 r2 [iD q0, iD q1, iD q2] q1 q2 hl.2 hq1 hq2
  have g1 := d92_1_2 r0 r1 r2 [iD q0, iD q1, iD q2] q0 q2 hl.2 hq0 hq2
  have g2 := d92_1_2 r0 r1 r2 [iD q0, iD q1, iD q2] q0 q1 hl.2 hq0 hq1
  refine (inR_pos hq0.1 hq0.2).trans ?_
  refine (getI_nth (by omega)).trans ?_
  by_cases z0 : r0.getD q0.toNat 0 = 0
  · refine (cnd_pos z0).trans ?_
    refine (inR_pos hq1.1 hq1.2).trans ?_
    refine (getI_nth (by omega)).trans ?_
    by_cases z1 : r0.getD q1.toNat 0 = 0
    · refine (cnd_pos z1).trans ?_
      refine (inR_pos hq2.1 hq2.2).trans ?_
      refine (getI_nth (by omega)).trans ?_
      by_cases z2 : r0.getD q2.toNat 0 = 0
      · refine (cnd_pos z2).trans ?_
        rw [hw]; simp only [stepD, z0, z1, z2, if_true, if_false, ↓reduceIte, cond_true, cond_false] <;> rfl
      · refine (cnd_neg z2).trans ?_
        refine (cond_is (isP_iff.2 fun cs n s c nl e => ?_)).trans ?_
        · have e0 : some (DV.sl [iD q0, iD q1] 2 1 false false) = some (DV.sl cs n s c nl) := e
          cases e0
          exact g2
        refine (inR_pos hq2.1 hq2.2).trans ?_
        refine (getI_nth (by omega)).trans ?_
        rw [hw]; simp only [stepD, z0, z1, z2, if_true, if_false, ↓reduceIte, cond_true, cond_false] <;> rfl
    · refine (cnd_neg z1).trans ?_
      refine (cond_is (isP_iff.2 fun cs n s c nl e => ?_)).trans ?_
      · have e0 : some (DV.sl [iD q0, iD q2] 2 1 false false) = some (DV.sl cs n s c nl) := e
        cases e0
        exact g1
      refine (inR_pos hq1.1 hq1.2).trans ?_
      refine (getI_nth (by omega)).trans ?_
      refine (inR_pos hq2.1 hq2.2).trans ?_
      refine (getI_nth (by omega)).trans ?_
      by_cases z2 : r0.getD q2.toNat 0 = 0
      · refine (cnd_pos z2).trans ?_
        rw [hw]; simp only [stepD, z0, z1, z2, if_true, if_false, ↓reduceIte, cond_true, cond_false] <;> rfl
      · refine (cnd_neg z2).trans ?_
        refine (cond_is (isP_iff.2 fun cs n s c nl e => ?_)).trans ?_
        · have e0 : some (DV.sl [iD q0, iD q1] 2 1 false false) = some (DV.sl cs n s c nl) := e
          cases e0
          exact g2
        refine (inR_pos hq2.1 hq2.2).trans ?_
        refine (getI_nth (by omega)).trans ?_
        rw [hw]; simp only [stepD, z0, z1, z2, if_true, if_false, ↓reduceIte, cond_true, cond_false] <;> rfl
  · refine (cnd_neg z0).trans ?_
    refine (cond_is (isP_iff.2 fun cs n s c nl e => ?_)).trans ?_
    · have e0 : some (DV.sl [iD q1, iD q2] 2 1 false false) = some (DV.sl cs n s c nl) := e
      cases e0
      exact g0
    refine (inR_pos hq0.1 hq0.2).trans ?_
    refine (getI_nth (by omega)).trans ?_
    refine (inR_pos hq1.1 hq1.2).trans ?_
    refine (getI_nth (by omega)).trans ?_
    by_cases z1 : r0.getD q1.toNat 0 = 0
    · refine (cnd_pos z1).trans ?_
      refine (inR_pos hq2.1 hq2.2).trans ?_
      refine (getI_nth (by omega)).trans ?_
      by_cases z2 : r0.getD q2.toNat 0 = 0
      · refine (cnd_pos z2).trans ?_
        rw [hw]; simp only [stepD, z0, z1, z2, if_true, if_false, ↓reduceIte, cond_true, cond_false] <;> rfl
      · refine (cnd_neg z2).trans ?_
        refine (cond_is (isP_iff.2 fun cs n s c nl e => ?_)).trans ?_
        · have e0 : some (DV.sl [iD q0, iD q1] 2 1 false false) = some (DV.sl cs n s c nl) := e
          cases e0
          exact g2
        refine (inR_pos hq2.1 hq2.2).trans ?_
        refine (getI_nth (by omega)).trans ?_
        rw [hw]; simp only [stepD, z0, z1, z2, if_true, if_false, ↓reduceIte, cond_true, cond_false] <;> rfl
    · refine (cnd_neg z1).trans ?_
      refine (cond_is (isP_iff.2 fun cs n s c nl e => ?_)).trans ?_
      · have e0 : some (DV.sl [iD q0, iD q2] 2 1 false false) = some (DV.sl cs n s c nl) := e
        cases e0
        exact g1
      refine (inR_pos hq1.1 hq1.2).trans ?_
      refine (getI_nth (by omega)).trans ?_
      refine (inR_pos hq2.1 hq2.2).trans ?_
      refine (getI_nth (by omega)).trans ?_
      by_cases z2 : r0.getD q2.toNat 0 = 0
      · refine (cnd_pos z2).trans ?_
        rw [hw]; simp only [stepD, z0, z1, z2, if_true, if_false, ↓reduceIte, cond_true, cond_false] <;> rfl
      · refine (cnd_neg z2).trans ?_
        refine (cond_is (isP_iff.2 fun cs n s c nl e => ?_)).trans ?_
        · have e0 : some (DV.sl [iD q0, iD q1] 2 1 false false) = some (DV.sl cs n s c nl) := e
          cases e0
          exact g2
        refine (inR_pos hq2.1 hq2.2).trans ?_
        refine (getI_nth (by omega)).trans ?_
        rw [hw]; simp only [stepD, z0, z1, z2, if_true, if_false, ↓reduceIte, cond_true, cond_false] <;> rfl

theorem d92_4_0 (r0 r1 r2 r3 : List Int) (all X1 X2 X3 : List DV) : CallOK Tryd.prog 92 [.d (iD 4), .row 6 0 0 1 1 false, .ref 1 0, .ref 0 0] ([.ac [.fn 92 [] [.ref 1 0, .ref 0 0]], .dc [.sl [.sl (ints r0) 4 1 false false, .sl (ints r1) 4 1 false false, .sl (ints r2) 4 1 false false, .sl (ints r3) 4 1 false false] 4 1 false false], .dc all, .dc X1, .dc X2, .dc X3, .dc [iD 0]]) (.d (iD (lapW [] []))) ([.ac [.fn 92 [] [.ref 1 0, .ref 0 0]], .dc [.sl [.sl (ints r0) 4 1 false false, .sl (ints r1) 4 1 false false, .sl (ints r2) 4 1 false false, .sl (ints r3) 4 1 false false] 4 1 false false], .dc all, .dc X1, .dc X2, .dc X3, .dc [iD 0]]) := by
  refine ae_directF (ev92_ok []) 30 (by kernel_rfl : tget aeF 92 = some Tryd.f92) ((u92_4_0 (tabD []) (.sl (ints r0) 4 1 false false) (.sl (ints r1) 4 1 false false) (.sl (ints r2) 4 1 false false) (.sl (ints r3) 4 1 false false) all X1 X2 X3).trans ?_)
  rfl

theorem d92_3_1 (r0 r1 r2 r3 : List Int) (all X1 X2 : List DV) (q0 : Int) (hl : r3.length = 4) (hq0 : 0 ≤ q0 ∧ q0 < 4) : CallOK Tryd.prog 92 [.d (iD 3), .row 5 0 1 2 1 false, .ref 1 0, .ref 0 0] ([.ac [.fn 92 [] [.ref 1 0, .ref 0 0]], .dc [.sl [.sl (ints r0) 4 1 false false, .sl (ints r1) 4 1 false false, .sl (ints r2) 4 1 false false, .sl (ints r3) 4 1 false false] 4 1 false false], .dc all, .dc X1, .dc X2, .dc [iD q0, iD 0]]) (.d (iD (lapW [r3] [q0]))) ([.ac [.fn 92 [] [.ref 1 0, .ref 0 0]], .dc [.sl [.sl (ints r0) 4 1 false false, .sl (ints r1) 4 1 false false, .sl (ints r2) 4 1 false false, .sl (ints r3) 4 1 false false] 4 1 false false], .dc all, .dc X1, .dc X2, .dc [iD q0, iD 0]]) := by
  refine ae_directF (ev92_ok []) 30 (by kernel_rfl : tget aeF 92 = some Tryd.f92) ((u92_3_1 (tabD []) (ints r3) (.sl (ints r0) 4 1 false false) (.sl (ints r1) 4 1 false false) (.sl (ints r2) 4 1 false false) all X1 X2 q0).trans ?_)
  have hw : lapW [r3] [q0] = (stepD (r3.getD q0.toNat 0) false (lapW [] []) 0) := rfl
  have hl0 : r3.length = 4 := hl
  have g0 := d92_4_0 r0 r1 r2 r3 all X1 X2 [iD q0, iD 0]
  refine (inR_pos hq0.1 hq0.2).trans ?_
  refine (getI_nth (by omega)).trans ?_
  by_cases z0 : r3.getD q0.toNat 0 = 0
  · refine (cnd_pos z0).trans ?_
    rw [hw]; simp only [stepD, z0, if_true, if_false, ↓reduceIte, cond_true, cond_false] <;> rfl
  · refine (cnd_neg z0).trans ?_
    refine (cond_is (isP_iff.2 fun cs n s c nl e => ?_)).trans ?_
    · have e0 : some (DV.sl [] 0 1 false false) = some (DV.sl cs n s c nl) := e
      cases e0
      exact g0
    refine (inR_pos hq0.1 hq0.2).trans ?_
    refine (getI_nth (by omega)).trans ?_
    rw [hw]; simp only [stepD, z0, if_true, if_false, ↓reduceIte, cond_true, cond_false] <;> rfl

theorem d92_2_2 (r0 r1 r2 r3 : List Int) (all X1 : List DV) (q0 q1 : Int) (hl : r2.length = 4 ∧ r3.length = 4) (hq0 : 0 ≤ q0 ∧ q0 < 4) (hq1 : 0 ≤ q1 ∧ q1 < 4) : CallOK Tryd.prog 92 [.d (iD 2), .row 4 0 2 3 1 false, .ref 1 0, .ref 0 0] ([.ac [.fn 92 [] [.ref 1 0, .ref 0 0]], .dc [.sl [.sl (ints r0) 4 1 false false, .sl (ints r1) 4 1 false false, .sl (ints r2) 4 1 false false, .sl (ints r3) 4 1 false false] 4 1 false false], .dc all, .dc X1, .dc [iD q0, iD q1, iD 0]]) (.d (iD (lapW [r2, r3] [q0, q1]))) ([.ac [.fn 92 [] [.ref 1 0, .ref 0 0]], .dc [.sl [.sl (ints r0) 4 1 false false, .sl (ints r1) 4 1 false false, .sl (ints r2) 4 1 false false, .sl (ints r3) 4 1 false false] 4 1 false false], .dc all, .dc X1, .dc [iD q0, iD q1, iD 0]]) := by
  refine ae_directF (ev92_ok [r3]) 30 (by kernel_rfl : tget aeF 92 = some Tryd.f92) ((u92_2_2 (tabD [r3]) (ints r2) (.sl (ints r0) 4 1 false false) (.sl (ints r1) 4 1 false false) (.sl (ints r3) 4 1 false false) all X1 q0 q1).trans ?_)
  have hw : lapW [r2, r3] [q0, q1] = (stepD (r2.getD q1.toNat 0) true (lapW [r3] [q0]) (stepD (r2.getD q0.toNat 0) false (lapW [r3] [q1]) 0)) := rfl
  have hl0 : r2.length = 4 := hl.1
  have g0 := d92_3_1 r0 r1 r2 r3 all X1 [iD q0, iD q1, iD 0] q1 hl.2 hq1
  have g1 := d92_3_1 r0 r1 r2 r3 all X1 [iD q0, iD q1, iD 0] q0 hl.2 hq0
  refine (inR_pos hq0.1 hq0.2).trans ?_
  refine (getI_nth (by omega)).trans ?_
  by_cases z0 : r2.getD q0.toNat 0 = 0
  · refine (cnd_pos z0).trans ?_
    refine (inR_pos hq1.1 hq1.2).trans ?_
    refine (getI_nth (by omega)).trans ?_
    by_cases z1 : r2.getD q1.toNat 0 = 0
    · refine (cnd_pos z1).trans ?_
      rw [hw]; simp only [stepD, z0, z1, if_true, if_false, ↓reduceIte, cond_true, cond_false] <;> rfl
    · refine (cnd_neg z1).trans ?_
      refine (cond_is (isP_iff.2 fun cs n s c nl e => ?_)).trans ?_
      · have e0 : some (DV.sl [iD q0] 1 1 false false) = some (DV.sl cs n s c nl) := e
        cases e0
        exact g1
      refine (inR_pos hq1.1 hq1.2).trans ?_
      refine (getI_nth (by omega)).trans ?_
      rw [hw]; simp only [stepD, z0, z1, if_true, if_false, ↓reduceIte, cond_true, cond_false] <;> rfl
  · refine (cnd_neg z0).trans ?_
    refine (cond_is (isP_iff.2 fun cs n s c nl e => ?_)).trans ?_
    · have e0 : some (DV.sl [iD q1] 1 1 false false) = some (DV.sl cs n s c nl) := e
      cases e0
      exact g0
    refine (inR_pos hq0.1 hq0.2).trans ?_
    refine (getI_nth (by omega)).trans ?_
    refine (inR_pos hq1.1 hq1.2).trans ?_
    refine (getI_nth (by omega)).trans ?_
    by_cases z1 : r2.getD q1.toNat 0 = 0
    · refine (cnd_pos z1).trans ?_
      rw [hw]; simp only [stepD, z0, z1, if_true, if_false, ↓reduceIte, cond_true, cond_false] <;> rfl
    · refine (cnd_neg z1).trans ?_
      refine (cond_is (isP_iff.2 fun cs n s c nl e => ?_)).trans ?_
      · have e0 : some (DV.sl [iD q0] 1 1 false false) = some (DV.sl cs n s c nl) := e
        cases e0
        exact g1
      refine (inR_pos hq1.1 hq1.2).trans ?_
      refine (getI_nth (by omega)).trans ?_
      rw [hw]; simp only [stepD, z0, z1, if_true, if_false, ↓reduceIte, cond_true, cond_false] <;> rfl

theorem d92_1_3 (r0 r1 r2 r3 : List Int) (all : List DV) (q0 q1 q2 : Int) (hl : r1.length = 4 ∧ r2.length = 4 ∧ r3.length = 4) (hq0 : 0 ≤ q0 ∧ q0 < 4) (hq1 : 0 ≤ q1 ∧ q1 < 4) (hq2 : 0 ≤ q2 ∧ q2 < 4) : CallOK Tryd.prog 92 [.d (iD 1), .row 3 0 3 4 1 false, .ref 1 0, .ref 0 0] ([.ac [.fn 92 [] [.ref 1 0, .ref 0 0]], .dc [.sl [.sl (ints r0) 4 1 false false, .sl (ints r1) 4 1 false false, .sl (ints r2) 4 1 false false, .sl (ints r3) 4 1 false false] 4 1 false false], .dc all, .dc [iD q0, iD q1, iD q2, iD 0]]) (.d (iD (lapW [r1, r2, r3] [q0, q1, q2]))) ([.ac [.fn 92 [] [.ref 1 0, .ref 0 0]], .dc [.sl [.sl (ints r0) 4 1 false false, .sl (ints r1) 4 1 false false, .sl (ints r2) 4 1 false false, .sl (ints r3) 4 1 false false] 4 1 false false], .dc all, .dc [iD q0, iD q1, iD q2, iD 0]]) := by
  refine ae_directF (ev92_ok [r2, r3]) 30 (by kernel_rfl : tget aeF 92 = some Tryd.f92) ((u92_1_3 (tabD [r2, r3]) (ints r1) (.sl (ints r0) 4 1 false false) (.sl (ints r2) 4 1 false false) (.sl (ints r3) 4 1 false false) all q0 q1 q2).trans ?_)
  have hw : lapW [r1, r2, r3] [q0, q1, q2] = (stepD (r1.getD q2.toNat 0) false (lapW [r2, r3] [q0, q1]) (stepD (r1.getD q1.toNat 0) true (lapW [r2, r3] [q0, q2]) (stepD (r1.getD q0.toNat 0) false (lapW [r2, r3] [q1, q2]) 0))) := rfl
  have hl0 : r1.length = 4 := hl.1
  have g0 := d92_2_2 r0 r1 r2 r3 all [iD q0, iD q1, iD q2, iD 0] q1 q2 hl.2 hq1 hq2
  have g1 := d92_2_2 r0 r1 r2 r3 all [iD q0, iD q1, iD q2, iD 0] q0 q2 hl.2 hq0 hq2
  have g2 := d92_2_2 r0 r1 r2 r3 all [iD q0, iD q1, iD q2, iD 0] q0 q1 hl.2 hq0 hq1
  refine (inR_pos hq0.1 hq0.2).trans ?_
  refine (getI_nth (by omega)).trans ?_
  by_cases z0 : r1.getD q0.toNat 0 = 0
  · refine (cnd_pos z0).trans ?_
    refine (inR_pos hq1.1 hq1.2).trans ?_
    refine (getI_nth (by omega)).trans ?_
    by_cases z1 : r1.getD q1.toNat 0 = 0
    · refine (cnd_pos z1).trans ?_
      refine (inR_pos hq2.1 hq2.2).trans ?_
      refine (getI_nth (by omega)).trans ?_
      by_cases z2 : r1.getD q2.toNat 0 = 0
      · refine (cnd_pos z2).trans ?_
        rw [hw]; simp only [stepD, z0, z1, z2, if_true, if_false, ↓reduceIte, cond_true, cond_false] <;> rfl
      · refine (cnd_neg z2).trans ?_
        refine (cond_is (isP_iff.2 fun cs n s c nl e => ?_)).trans ?_
        · have e0 : some (DV.sl [iD q0, iD q1] 2 1 false false) = some (DV.sl cs n s c nl) := e
          cases e0
          exact g2
        refine (inR_pos hq2.1 hq2.2).trans ?_
        refine (getI_nth (by omega)).trans ?_
        rw [hw]; simp only [stepD, z0, z1, z2, if_true, if_false, ↓reduceIte, cond_true, cond_false] <;> rfl
    · refine (cnd_neg z1).trans ?_
      refine (cond_is (isP_iff.2 fun cs n s c nl e => ?_)).trans ?_
      · have e0 : some (DV.sl [iD q0, iD q2] 2 1 false false) = some (DV.sl cs n s c nl) := e
        cases e0
        exact g1
      refine (inR_pos hq1.1 hq1.2).trans ?_
      refine (getI_nth (by omega)).trans ?_
      refine (inR_pos hq2.1 hq2.2).trans ?_
      refine (getI_nth (by omega)).trans ?_
      by_cases z2 : r1.getD q2.toNat 0 = 0
      · refine (cnd_pos z2).trans ?_
        rw [hw]; simp only [stepD, z0, z1, z2, if_true, if_false, ↓reduceIte, cond_true, cond_false] <;> rfl
      · refine (cnd_neg z2).trans ?_
        refine (cond_is (isP_iff.2 fun cs n s c nl e => ?_)).trans ?_
        · have e0 : some (DV.sl [iD q0, iD q1] 2 1 false false) = some (DV.sl cs n s c nl) := e
          cases e0
          exact g2
        refine (inR_pos hq2.1 hq2.2).trans ?_
        refine (getI_nth (by omega)).trans ?_
        rw [hw]; simp only [stepD, z0, z1, z2, if_true, if_false, ↓reduceIte, cond_true, cond_false] <;> rfl
  · refine (cnd_neg z0).trans ?_
    refine (cond_is (isP_iff.2 fun cs n s c nl e => ?_)).trans ?_
    · have e0 : some (DV.sl [iD q1, iD q2] 2 1 false false) = some (DV.sl cs n s c nl) := e
      cases e0
      exact g0
    refine (inR_pos hq0.1 hq0.2).trans ?_
    refine (getI_nth (by omega)).trans ?_
    refine (inR_pos hq1.1 hq1.2).trans ?_
    refine (getI_nth (by omega)).trans ?_
    by_cases z1 : r1.getD q1.toNat 0 = 0
    · refine (cnd_pos z1).trans ?_
      refine (inR_pos hq2.1 hq2.2).trans ?_
      refine (getI_nth (by omega)).trans ?_
      by_cases z2 : r1.getD q2.toNat 0 = 0
      · refine (cnd_pos z2).trans ?_
        rw [hw]; simp only [stepD, z0, z1, z2, if_true, if_false, ↓reduceIte, cond_true, cond_false] <;> rfl
      · refine (cnd_neg z2).trans ?_
        refine (cond_is (isP_iff.2 fun cs n s c nl e => ?_)).trans ?_
        · have e0 : some (DV.sl [iD q0, iD q1] 2 1 false false) = some (DV.sl cs n s c nl) := e
          cases e0
          exact g2
        refine (inR_pos hq2.1 hq2.2).trans ?_
        refine (getI_nth (by omega)).trans ?_
        rw [hw]; simp only [stepD, z0, z1, z2, if_true, if_false, ↓reduceIte, cond_true, cond_false] <;> rfl
    · refine (cnd_neg z1).trans ?_
      refine (cond_is (isP_iff.2 fun cs n s c nl e => ?_)).trans ?_
      · have e0 : some (DV.sl [iD q0, iD q2] 2 1 false false) = some (DV.sl cs n s c nl) := e
        cases e0
        exact g1
      refine (inR_pos hq1.1 hq1.2).trans ?_
      refine (getI_nth (by omega)).trans ?_
      refine (inR_pos hq2.1 hq2.2).trans ?_
      refine (getI_nth (by omega)).trans ?_
      by_cases z2 : r1.getD q2.toNat 0 = 0
      · refine (cnd_pos z2).trans ?_
        rw [hw]; simp only [stepD, z0, z1, z2, if_true, if_false, ↓reduceIte, cond_true, cond_false] <;> rfl
      · refine (cnd_neg z2).trans ?_
        refine (cond_is (isP_iff.2 fun cs n s c nl e => ?_)).trans ?_
        · have e0 : some (DV.sl [iD q0, iD q1] 2 1 false false) = some (DV.sl cs n s c nl) := e
          cases e0
          exact g2
        refine (inR_pos hq2.1 hq2.2).trans ?_
        refine (getI_nth (by omega)).trans ?_
        rw [hw]; simp only [stepD, z0, z1, z2, if_true, if_false, ↓reduceIte, cond_true, cond_false] <;> rfl

theorem d92_0_4 (r0 r1 r2 r3 : List Int) (q0 q1 q2 q3 : Int) (hl : r0.length = 4 ∧ r1.length = 4 ∧ r2.length = 4 ∧ r3.length = 4) (hq0 : 0 ≤ q0 ∧ q0 < 4) (hq1 : 0 ≤ q1 ∧ q1 < 4) (hq2 : 0 ≤ q2 ∧ q2 < 4) (hq3 : 0 ≤ q3 ∧ q3 < 4) : CallOK Tryd.prog 92 [.d (iD 0), .grow 2 1 false, .ref 1 0, .ref 0 0] ([.ac [.fn 92 [] [.ref 1 0, .ref 0 0]], .dc [.sl [.sl (ints r0) 4 1 false false, .sl (ints r1) 4 1 false false, .sl (ints r2) 4 1 false false, .sl (ints r3) 4 1 false false] 4 1 false false], .dc [iD q0, iD q1, iD q2, iD q3]]) (.d (iD (lapW [r0, r1, r2, r3] [q0, q1, q2, q3]))) ([.ac [.fn 92 [] [.ref 1 0, .ref 0 0]], .dc [.sl [.sl (ints r0) 4 1 false false, .sl (ints r1) 4 1 false false, .sl (ints r2) 4 1 false false, .sl (ints r3) 4 1 false false] 4 1 false false], .dc [iD q0, iD q1, iD q2, iD q3]]) := by
  refine ae_directF (ev92_ok [r1, r2, r3]) 30 (by kernel_rfl : tget aeF 92 = some Tryd.f92) ((u92_0_4 (tabD [r1, r2, r3]) (ints r0) (.sl (ints r1) 4 1 false false) (.sl (ints r2) 4 1 false false) (.sl (ints r3) 4 1 false false) q0 q1 q2 q3).trans ?_)
  have hw : lapW [r0, r1, r2, r3] [q0, q1, q2, q3] = (stepD (r0.getD q3.toNat 0) true (lapW [r1, r2, r3] [q0, q1, q2]) (stepD (r0.getD q2.toNat 0) false (lapW [r1, r2, r3] [q0, q1, q3]) (stepD (r0.getD q1.toNat 0) true (lapW [r1, r2, r3] [q0, q2, q3]) (stepD (r0.getD q0.toNat 0) false (lapW [r1, r2, r3] [q1, q2, q3]) 0)))) := rfl
  have hl0 : r0.length = 4 := hl.1
  have g0 := d92_1_3 r0 r1 r2 r3 [iD q0, iD q1, iD q2, iD q3] q1 q2 q3 hl.2 hq1 hq2 hq3
  have g1 := d92_1_3 r0 r1 r2 r3 [iD q0, iD q1, iD q2, iD q3] q0 q2 q3 hl.2 hq0 hq2 hq3
  have g2 := d92_1_3 r0 r1 r2 r3 [iD q0, iD q1, iD q2, iD q3] q0 q1 q3 hl.2 hq0 hq1 hq3
  have g3 := d92_1_3 r0 r1 r2 r3 [iD q0, iD q1, iD q2, iD q3] q0 q1 q2 hl.2 hq0 hq1 hq2
  refine (inR_pos hq0.1 hq0.2).trans ?_
  refine (getI_nth (by omega)).trans ?_
  by_cases z0 : r0.getD q0.toNat 0 = 0
  · refine (cnd_pos z0).trans ?_
    refine (inR_pos hq1.1 hq1.2).trans ?_
    refine (getI_nth (by omega)).trans ?_
    by_cases z1 : r0.getD q1.toNat 0 = 0
    · refine (cnd_pos z1).trans ?_
      refine (inR_pos hq2.1 hq2.2).trans ?_
      refine (getI_nth (by omega)).trans ?_
      by_cases z2 : r0.getD q2.toNat 0 = 0
      · refine (cnd_pos z2).trans ?_
        refine (inR_pos hq3.1 hq3.2).trans ?_
        refine (getI_nth (by omega)).trans ?_
        by_cases z3 : r0.getD q3.toNat 0 = 0
        · refine (cnd_pos z3).trans ?_
          rw [hw]; simp only [stepD, z0, z1, z2, z3, if_true, if_false, ↓reduceIte, cond_true, cond_false] <;> rfl
        · refine (cnd_neg z3).trans ?_
          refine (cond_is (isP_iff.2 fun cs n s c nl e => ?_)).trans ?_
          · have e0 : some (DV.sl [iD q0, iD q1, iD q2] 3 1 false false) = some (DV.sl cs n s c nl) := e
            cases e0
            exact g3
          refine (inR_pos hq3.1 hq3.2).trans ?_
          refine (getI_nth (by omega)).trans ?_
          rw [hw]; simp only [stepD, z0, z1, z2, z3, if_true, if_false, ↓reduceIte, cond_true, cond_false] <;> rfl
      · refine (cnd_neg z2).trans ?_
        refine (cond_is (isP_iff.2 fun cs n s c nl e => ?_)).trans ?_
        · have e0 : some (DV.sl [iD q0, iD q1, iD q3] 3 1 false false) = some (DV.sl cs n s c nl) := e
          cases e0
          exact g2
        refine (inR_pos hq2.1 hq2.2).trans ?_
        refine (getI_nth (by omega)).trans ?_
        refine (inR_pos hq3.1 hq3.2).trans ?_
        refine (getI_nth (by omega)).trans ?_
        by_cases z3 : r0.getD q3.toNat 0 = 0
        · refine (cnd_pos z3).trans ?_
          rw [hw]; simp only [stepD, z0, z1, z2, z3, if_true, if_false, ↓reduceIte, cond_true, cond_false] <;> rfl
        · refine (cnd_neg z3).trans ?_
          refine (cond_is (isP_iff.2 fun cs n s c nl e => ?_)).trans ?_
          · have e0 : some (DV.sl [iD q0, iD q1, iD q2] 3 1 false false) = some (DV.sl cs n s c nl) := e
            cases e0
            exact g3
          refine (inR_pos hq3.1 hq3.2).trans ?_
          refine (getI_nth (by omega)).trans ?_
          rw [hw]; simp only [stepD, z0, z1, z2, z3, if_true, if_false, ↓reduceIte, cond_true, cond_false] <;> rfl
    · refine (cnd_neg z1).trans ?_
      refine (cond_is (isP_iff.2 fun cs n s c nl e => ?_)).trans ?_
      · have e0 : some (DV.sl [iD q0, iD q2, iD q3] 3 1 false false) = some (DV.sl cs n s c nl) := e
        cases e0
        exact g1
      refine (inR_pos hq1.1 hq1.2).trans ?_
      refine (getI_nth (by omega)).trans ?_
      refine (inR_pos hq2.1 hq2.2).trans ?_
      refine (getI_nth (by omega)).trans ?_
      by_cases z2 : r0.getD q2.toNat 0 = 0
      · refine (cnd_pos z2).trans ?_
        refine (inR_pos hq3.1 hq3.2).trans ?_
        refine (getI_nth (by omega)).trans ?_
        by_cases z3 : r0.getD q3.toNat 0 = 0
        · refine (cnd_pos z3).trans ?_
          rw [hw]; simp only [stepD, z0, z1, z2, z3, if_true, if_false, ↓reduceIte, cond_true, cond_false] <;> rfl
        · refine (cnd_neg z3).trans ?_
          refine (cond_is (isP_iff.2 fun cs n s c nl e => ?_)).trans ?_
          · have e0 : some (DV.sl [iD q0, iD q1, iD q2] 3 1 false false) = some (DV.sl cs n s c nl) := e
            cases e0
            exact g3
          refine (inR_pos hq3.1 hq3.2).trans ?_
          refine (getI_nth (by omega)).trans ?_
          rw [hw]; simp only [stepD, z0, z1, z2, z3, if_true, if_false, ↓reduceIte, cond_true, cond_false] <;> rfl
      · refine (cnd_neg z2).trans ?_
        refine (cond_is (isP_iff.2 fun cs n s c nl e => ?_)).trans ?_
        · have e0 : some (DV.sl [iD q0, iD q1, iD q3] 3 1 false false) = some (DV.sl cs n s c nl) := e
          cases e0
          exact g2
        refine (inR_pos hq2.1 hq2.2).trans ?_
        refine (getI_nth (by omega)).trans ?_
        refine (inR_pos hq3.1 hq3.2).trans ?_
        refine (getI_nth (by omega)).trans ?_
        by_cases z3 : r0.getD q3.toNat 0 = 0
        · refine (cnd_pos z3).trans ?_
          rw [hw]; simp only [stepD, z0, z1, z2, z3, if_true, if_false, ↓reduceIte, cond_true, cond_false] <;> rfl
        · refine (cnd_neg z3).trans ?_
          refine (cond_is (isP_iff.2 fun cs n s c nl e => ?_)).trans ?_
          · have e0 : some (DV.sl [iD q0, iD q1, iD q2] 3 1 false false) = some (DV.sl cs n s c nl) := e
            cases e0
            exact g3
          refine (inR_pos hq3.1 hq3.2).trans ?_
          refine (getI_nth (by omega)).trans ?_
          rw [hw]; simp only [stepD, z0, z1, z2, z3, if_true, if_false, ↓reduceIte, cond_true, cond_false] <;> rfl
  · refine (cnd_neg z0).trans ?_
    refine (cond_is (isP_iff.2 fun cs n s c nl e => ?_)).trans ?_
    · have e0 : some (DV.sl [iD q1, iD q2, iD q3] 3 1 false false) = some (DV.sl cs n s c nl) := e
      cases e0
      exact g0
    refine (inR_pos hq0.1 hq0.2).trans ?_
    refine (getI_nth (by omega)).trans ?_
    refine (inR_pos hq1.1 hq1.2).trans ?_
    refine (getI_nth (by omega)).trans ?_
    by_cases z1 : r0.getD q1.toNat 0 = 0
    · refine (cnd_pos z1).trans ?_
      refine (inR_pos hq2.1 hq2.2).trans ?_
      refine (getI_nth (by omega)).trans ?_
      by_cases z2 : r0.getD q2.toNat 0 = 0
      · refine (cnd_pos z2).trans ?_
        refine (inR_pos hq3.1 hq3.2).trans ?_
        refine (getI_nth (by omega)).trans ?_
        by_cases z3 : r0.getD q3.toNat 0 = 0
        · refine (cnd_pos z3).trans ?_
          rw [hw]; simp only [stepD, z0, z1, z2, z3, if_true, if_false, ↓reduceIte, cond_true, cond_false] <;> rfl
        · refine (cnd_neg z3).trans ?_
          refine (cond_is (isP_iff.2 fun cs n s c nl e => ?_)).trans ?_
          · have e0 : some (DV.sl [iD q0, iD q1, iD q2] 3 1 false false) = some (DV.sl cs n s c nl) := e
            cases e0
            exact g3
          refine (inR_pos hq3.1 hq3.2).trans ?_
          refine (getI_nth (by omega)).trans ?_
          rw [hw]; simp only [stepD, z0, z1, z2, z3, if_true, if_false, ↓reduceIte, cond_true, cond_false] <;> rfl
      · refine (cnd_neg z2).trans ?_
        refine (cond_is (isP_iff.2 fun cs n s c nl e => ?_)).trans ?_
        · have e0 : some (DV.sl [iD q0, iD q1, iD q3] 3 1 false false) = some (DV.sl cs n s c nl) := e
          cases e0
          exact g2
        refine (inR_pos hq2.1 hq2.2).trans ?_
        refine (getI_nth (by omega)).trans ?_
        refine (inR_pos hq3.1 hq3.2).trans ?_
        refine (getI_nth (by omega)).trans ?_
        by_cases z3 : r0.getD q3.toNat 0 = 0
        · refine (cnd_pos z3).trans ?_
          rw [hw]; simp only [stepD, z0, z1, z2, z3, if_true, if_false, ↓reduceIte, cond_true, cond_false] <;> rfl
        · refine (cnd_neg z3).trans ?_
          refine (cond_is (isP_iff.2 fun cs n s c nl e => ?_)).trans ?_
          · have e0 : some (DV.sl [iD q0, iD q1, iD q2] 3 1 false false) = some (DV.sl cs n s c nl) := e
            cases e0
            exact g3
          refine (inR_pos hq3.1 hq3.2).trans ?_
          refine (getI_nth (by omega)).trans ?_
          rw [hw]; simp only [stepD, z0, z1, z2, z3, if_true, if_false, ↓reduceIte, cond_true, cond_false] <;> rfl
    · refine (cnd_neg z1).trans ?_
      refine (cond_is (isP_iff.2 fun cs n s c nl e => ?_)).trans ?_
      · have e0 : some (DV.sl [iD q0, iD q2, iD q3] 3 1 false false) = some (DV.sl cs n s c nl) := e
        cases e0
        exact g1
      refine (inR_pos hq1.1 hq1.2).trans ?_
      refine (getI_nth (by omega)).trans ?_
      refine (inR_pos hq2.1 hq2.2).trans ?_
      refine (getI_nth (by omega)).trans ?_
      by_cases z2 : r0.getD q2.toNat 0 = 0
      · refine (cnd_pos z2).trans ?_
        refine (inR_pos hq3.1 hq3.2).trans ?_
        refine (getI_nth (by omega)).trans ?_
        by_cases z3 : r0.getD q3.toNat 0 = 0
        · refine (cnd_pos z3).trans ?_
          rw [hw]; simp only [stepD, z0, z1, z2, z3, if_true, if_false, ↓reduceIte, cond_true, cond_false] <;> rfl
        · refine (cnd_neg z3).trans ?_
          refine (cond_is (isP_iff.2 fun cs n s c nl e => ?_)).trans ?_
          · have e0 : some (DV.sl [iD q0, iD q1, iD q2] 3 1 false false) = some (DV.sl cs n s c nl) := e
            cases e0
            exact g3
          refine (inR_pos hq3.1 hq3.2).trans ?_
          refine (getI_nth (by omega)).trans ?_
          rw [hw]; simp only [stepD, z0, z1, z2, z3, if_true, if_false, ↓reduceIte, cond_true, cond_false] <;> rfl
      · refine (cnd_neg z2).trans ?_
        refine (cond_is (isP_iff.2 fun cs n s c nl e => ?_)).trans ?_
        · have e0 : some (DV.sl [iD q0, iD q1, iD q3] 3 1 false false) = some (DV.sl cs n s c nl) := e
          cases e0
          exact g2
        refine (inR_pos hq2.1 hq2.2).trans ?_
        refine (getI_nth (by omega)).trans ?_
        refine (inR_pos hq3.1 hq3.2).trans ?_
        refine (getI_nth (by omega)).trans ?_
        by_cases z3 : r0.getD q3.toNat 0 = 0
        · refine (cnd_pos z3).trans ?_
          rw [hw]; simp only [stepD, z0, z1, z2, z3, if_true, if_false, ↓reduceIte, cond_true, cond_false] <;> rfl
        · refine (cnd_neg z3).trans ?_
          refine (cond_is (isP_iff.2 fun cs n s c nl e => ?_)).trans ?_
          · have e0 : some (DV.sl [iD q0, iD q1, iD q2] 3 1 false false) = some (DV.sl cs n s c nl) := e
            cases e0
            exact g3
          refine (inR_pos hq3.1 hq3.2).trans ?_
          refine (getI_nth (by omega)).trans ?_
          rw [hw]; simp only [stepD, z0, z1, z2, z3, if_true, if_false, ↓reduceIte, cond_true, cond_false] <;> rfl

theorem d92_5_0 (r0 r1 r2 r3 r4 : List Int) (all X1 X2 X3 X4 : List DV) : CallOK Tryd.prog 92 [.d (iD 5), .row 7 0 0 1 1 false, .ref 1 0, .ref 0 0] ([.ac [.fn 92 [] [.ref 1 0, .ref 0 0]], .dc [.sl [.sl (ints r0) 5 1 false false, .sl (ints r1) 5 1 false false, .sl (ints r2) 5 1 false false, .sl (ints r3) 5 1 false false, .sl (ints r4) 5 1 false false] 5 1 false false], .dc all, .dc X1, .dc X2, .dc X3, .dc X4, .dc [iD 0]]) (.d (iD (lapW [] []))) ([.ac [.fn 92 [] [.ref 1 0, .ref 0 0]], .dc [.sl [.sl (ints r0) 5 1 false false, .sl (ints r1) 5 1 false false, .sl (ints r2) 5 1 false false, .sl (ints r3) 5 1 false false, .sl (ints r4) 5 1 false false] 5 1 false false], .dc all, .dc X1, .dc X2, .dc X3, .dc X4, .dc [iD 0]]) := by
  refine ae_directF (ev92_ok []) 30 (by kernel_rfl : tget aeF 92 = some Tryd.f92) ((u92_5_0 (tabD []) (.sl (ints r0) 5 1 false false) (.sl (ints r1) 5 1 false false) (.sl (ints r2) 5 1 false false) (.sl (ints r3) 5 1 false false) (.sl (ints r4) 5 1 false false) all X1 X2 X3 X4).trans ?_)
  rfl

theorem d92_4_1 (r0 r1 r2 r3 r4 : List Int) (all X1 X2 X3 : List DV) (q0 : Int) (hl : r4.length = 5) (hq0 : 0 ≤ q0 ∧ q0 < 5) : CallOK Tryd.prog 92 [.d (iD 4), .row 6 0 1 2 1 false, .ref 1 0, .ref 0 0] ([.ac [.fn 92 [] [.ref 1 0, .ref 0 0]], .dc [.sl [.sl (ints r0) 5 1 false false, .sl (ints r1) 5 1 false false, .sl (ints r2) 5 1 false false, .sl (ints r3) 5 1 false false, .sl (ints r4) 5 1 false false] 5 1 false false], .dc all, .dc X1, .dc X2, .dc X3, .dc [iD q0, iD 0]]) (.d (iD (lapW [r4] [q0]))) ([.ac [.fn 92 [] [.ref 1 0, .ref 0 0]], .dc [.sl [.sl (ints r0) 5 1 false false, .sl (ints r1) 5 1 false false, .sl (ints r2) 5 1 false false, .sl (ints r3) 5 1 false false, .sl (ints r4) 5 1 false false] 5 1 false false], .dc all, .dc X1, .dc X2, .dc X3, .dc [iD q0, iD 0]]) := by
  refine ae_directF (ev92_ok []) 30 (by kernel_rfl : tget aeF 92 = some Tryd.f92) ((u92_4_1 (tabD []) (ints r4) (.sl (ints r0) 5 1 false false) (.sl (ints r1) 5 1 false false) (.sl (ints r2) 5 1 false false) (.sl (ints r3) 5 1 false false) all X1 X2 X3 q0).trans ?_)
  have hw : lapW [r4] [q0] = (stepD (r4.getD q0.toNat 0) false (lapW [] []) 0) := rfl
  have hl0 : r4.length = 5 := hl
  have g0 := d92_5_0 r0 r1 r2 r3 r4 all X1 X2 X3 [iD q0, iD 0]
  refine (inR_pos hq0.1 hq0.2).trans ?_
  refine (getI_nth (by omega)).trans ?_
  by_cases z0 : r4.getD q0.toNat 0 = 0
  · refine (cnd_pos z0).trans ?_
    rw [hw]; simp only [stepD, z0, if_true, if_false, ↓reduceIte, cond_true, cond_false] <;> rfl
  · refine (cnd_neg z0).trans ?_
    refine (cond_is (isP_iff.2 fun cs n s c nl e => ?_)).trans ?_
    · have e0 : some (DV.sl [] 0 1 false false) = some (DV.sl cs n s c nl) := e
      cases e0
      exact g0
    refine (inR_pos hq0.1 hq0.2).trans ?_
    refine (getI_nth (by omega)).trans ?_
    rw [hw]; simp only [stepD, z0, if_true, if_false, ↓reduceIte, cond_true, cond_false] <;> rfl

theorem d92_3_2 (r0 r1 r2 r3 r4 : List Int) (all X1 X2 : List DV) (q0 q1 : Int) (hl : r3.length = 5 ∧ r4.length = 5) (hq0 : 0 ≤ q0 ∧ q0 < 5) (hq1 : 0 ≤ q1 ∧ q1 < 5) : CallOK Tryd.prog 92 [.d (iD 3), .row 5 0 2 3 1 false, .ref 1 0, .ref 0 0] ([.ac [.fn 92 [] [.ref 1 0, .ref 0 0]], .dc [.sl [.sl (ints r0) 5 1 false false, .sl (ints r1) 5 1 false false, .sl (ints r2) 5 1 false false, .sl (ints r3) 5 1 false false, .sl (ints r4) 5 1 false false] 5 1 false false], .dc all, .dc X1, .dc X2, .dc [iD q0, iD q1, iD 0]]) (.d (iD (lapW [r3, r4] [q0, q1]))) ([.ac [.fn 92 [] [.ref 1 0, .ref 0 0]], .dc [.sl [.sl (ints r0) 5 1 false false, .sl (ints r1) 5 1 false false, .sl (ints r2) 5 1 false false, .sl (ints r3) 5 1 false false, .sl (ints r4) 5 1 false false] 5 1 false false], .dc all, .dc X1, .dc X2, .dc [iD q0, iD q1, iD 0]]) := by
  refine ae_directF (ev92_ok [r4]) 30 (by kernel_rfl : tget aeF 92 = some Tryd.f92) ((u92_3_2 (tabD [r4]) (ints r3) (.sl (ints r0) 5 1 false false) (.sl (ints r1) 5 1 false false) (.sl (ints r2) 5 1 false false) (.sl (ints r4) 5 1 false false) all X1 X2 q0 q1).trans ?_)
  have hw : lapW [r3, r4] [q0, q1] = (stepD (r3.getD q1.toNat 0) true (lapW [r4] [q0]) (stepD (r3.getD q0.toNat 0) false (lapW [r4] [q1]) 0)) := rfl
  have hl0 : r3.length = 5 := hl.1
  have g0 := d92_4_1 r0 r1 r2 r3 r4 all X1 X2 [iD q0, iD q1, iD 0] q1 hl.2 hq1
  have g1 := d92_4_1 r0 r1 r2 r3 r4 all X1 X2 [iD q0, iD q1, iD 0] q0 hl.2 hq0
  refine (inR_pos hq0.1 hq0.2).trans ?_
  refine (getI_nth (by omega)).trans ?_
  by_cases z0 : r3.getD q0.toNat 0 = 0
  · refine (cnd_pos z0).trans ?_
    refine (inR_pos hq1.1 hq1.2).trans ?_
    refine (getI_nth (by omega)).trans ?_
    by_cases z1 : r3.getD q1.toNat 0 = 0
    · refine (cnd_pos z1).trans ?_
      rw [hw]; simp only [stepD, z0, z1, if_true, if_false, ↓reduceIte, cond_true, cond_false] <;> rfl
    · refine (cnd_neg z1).trans ?_
      refine (cond_is (isP_iff.2 fun cs n s c nl e => ?_)).trans ?_
      · have e0 : some (DV.sl [iD q0] 1 1 false false) = some (DV.sl cs n s c nl) := e
        cases e0
        exact g1
      refine (inR_pos hq1.1 hq1.2).trans ?_
      refine (getI_nth (by omega)).trans ?_
      rw [hw]; simp only [stepD, z0, z1, if_true, if_false, ↓reduceIte, cond_true, cond_false] <;> rfl
  · refine (cnd_neg z0).trans ?_
    refine (cond_is (isP_iff.2 fun cs n s c nl e => ?_)).trans ?_
    · have e0 : some (DV.sl [iD q1] 1 1 false false) = some (DV.sl cs n s c nl) := e
      cases e0
      exact g0
    refine (inR_pos hq0.1 hq0.2).trans ?_
    refine (getI_nth (by omega)).trans ?_
    refine (inR_pos hq1.1 hq1.2).trans ?_
    refine (getI_nth (by omega)).trans ?_
    by_cases z1 : r3.getD q1.toNat 0 = 0
    · refine (cnd_pos z1).trans ?_
      rw [hw]; simp only [stepD, z0, z1, if_true, if_false, ↓reduceIte, cond_true, cond_false] <;> rfl
    · refine (cnd_neg z1).trans ?_
      refine (cond_is (isP_iff.2 fun cs n s c nl e => ?_)).trans ?_
      · have e0 : some (DV.sl [iD q0] 1 1 false false) = some (DV.sl cs n s c nl) := e
        cases e0
        exact g1
      refine (inR_pos hq1.1 hq1.2).trans ?_
      refine (getI_nth (by omega)).trans ?_
      rw [hw]; simp only [stepD, z0, z1, if_true, if_false, ↓reduceIte, cond_true, cond_false] <;> rfl

theorem d92_2_3 (r0 r1 r2 r3 r4 : List Int) (all X1 : List DV) (q0 q1 q2 : Int) (hl : r2.length = 5 ∧ r3.length = 5 ∧ r4.length = 5) (hq0 : 0 ≤ q0 ∧ q0 < 5) (hq1 : 0 ≤ q1 ∧ q1 < 5) (hq2 : 0 ≤ q2 ∧ q2 < 5) : CallOK Tryd.prog 92 [.d (iD 2), .row 4 0 3 4 1 false, .ref 1 0, .ref 0 0] ([.ac [.fn 92 [] [.ref 1 0, .ref 0 0]], .dc [.sl [.sl (ints r0) 5 1 false false, .sl (ints r1) 5 1 false false, .sl (ints r2) 5 1 false false, .sl (ints r3) 5 1 false false, .sl (ints r4) 5 1 false false] 5 1 false false], .dc all, .dc X1, .dc [iD q0, iD q1, iD q2, iD 0]]) (.d (iD (lapW [r2, r3, r4] [q0, q1, q2]))) ([.ac [.fn 92 [] [.ref 1 0, .ref 0 0]], .dc [.sl [.sl (ints r0) 5 1 false false, .sl (ints r1) 5 1 false false, .sl (ints r2) 5 1 false false, .sl (ints r3) 5 1 false false, .sl (ints r4) 5 1 false false] 5 1 false false], .dc all, .dc X1, .dc [iD q0, iD q1, iD q2, iD 0]]) := by
  refine ae_directF (ev92_ok [r3, r4]) 30 (by kernel_rfl : tget aeF 92 = some Tryd.f92) ((u92_2_3 (tabD [r3, r4]) (ints r2) (.sl (ints r0) 5 1 false false) (.sl (ints r1) 5 1 false false) (.sl (ints r3) 5 1 false false) (.sl (ints r4) 5 1 false false) all X1 q0 q1 q2).trans ?_)
  have hw : lapW [r2, r3, r4] [q0, q1, q2] = (stepD (r2.getD q2.toNat 0) false (lapW [r3, r4] [q0, q1]) (stepD (r2.getD q1.toNat 0) true (lapW [r3, r4] [q0, q2]) (stepD (r2.getD q0.toNat 0) false (lapW [r3, r4] [q1, q2]) 0))) := rfl
  have hl0 : r2.length = 5 := hl.1
  have g0 := d92_3_2 r0 r1 r2 r3 r4 all X1 [iD q0, iD q1, iD q2, iD 0] q1 q2 hl.2 hq1 hq2
  have g1 := d92_3_2 r0 r1 r2 r3 r4 all X1 [iD q0, iD q1, iD q2, iD 0] q0 q2 hl.2 hq0 hq2
  have g2 := d92_3_2 r0 r1 r2 r3 r4 all X1 [iD q0, iD q1, iD q2, iD 0] q0 q1 hl.2 hq0 hq1
  refine (inR_pos hq0.1 hq0.2).trans ?_
  refine (getI_nth (by omega)).trans ?_
  by_cases z0 : r2.getD q0.toNat 0 = 0
  · refine (cnd_pos z0).trans ?_
    refine (inR_pos hq1.1 hq1.2).trans ?_
    refine (getI_nth (by omega)).trans ?_
    by_cases z1 : r2.getD q1.toNat 0 = 0
    · refine (cnd_pos z1).trans ?_
      refine (inR_pos hq2.1 hq2.2).trans ?_
      refine (getI_nth (by omega)).trans ?_
      by_cases z2 : r2.getD q2.toNat 0 = 0
      · refine (cnd_pos z2).trans ?_
        rw [hw]; simp only [stepD, z0, z1, z2, if_true, if_false, ↓reduceIte, cond_true, cond_false] <;> rfl
      · refine (cnd_neg z2).trans ?_
        refine (cond_is (isP_iff.2 fun cs n s c nl e => ?_)).trans ?_
        · have e0 : some (DV.sl [iD q0, iD q1] 2 1 false false) = some (DV.sl cs n s c nl) := e
          cases e0
          exact g2
        refine (inR_pos hq2.1 hq2.2).trans ?_
        refine (getI_nth (by omega)).trans ?_
        rw [hw]; simp only [stepD, z0, z1, z2, if_true, if_false, ↓reduceIte, cond_true, cond_false] <;> rfl
    · refine (cnd_neg z1).trans ?_
      refine (cond_is (isP_iff.2 fun cs n s c nl e => ?_)).trans ?_
      · have e0 : some (DV.sl [iD q0, iD q2] 2 1 false false) = some (DV.sl cs n s c nl) := e
        cases e0
        exact g1
      refine (inR_pos hq1.1 hq1.2).trans ?_
      refine (getI_nth (by omega)).trans ?_
      refine (inR_pos hq2.1 hq2.2).trans ?_
      refine (getI_nth (by omega)).trans ?_
      by_cases z2 : r2.getD q2.toNat 0 = 0
      · refine (cnd_pos z2).trans ?_
        rw [hw]; simp only [stepD, z0, z1, z2, if_true, if_false, ↓reduceIte, cond_true, cond_false] <;> rfl
      · refine (cnd_neg z2).trans ?_
        refine (cond_is (isP_iff.2 fun cs n s c nl e => ?_)).trans ?_
        · have e0 : some (DV.sl [iD q0, iD q1] 2 1 false false) = some (DV.sl cs n s c nl) := e
          cases e0
          exact g2
        refine (inR_pos hq2.1 hq2.2).trans ?_
        refine (getI_nth (by omega)).trans ?_
        rw [hw]; simp only [stepD, z0, z1, z2, if_true, if_false, ↓reduceIte, cond_true, cond_false] <;> rfl
  · refine (cnd_neg z0).trans ?_
    refine (cond_is (isP_iff.2 fun cs n s c nl e => ?_)).trans ?_
    · have e0 : some (DV.sl [iD q1, iD q2] 2 1 false false) = some (DV.sl cs n s c nl) := e
      cases e0
      exact g0
    refine (inR_pos hq0.1 hq0.2).trans ?_
    refine (getI_nth (by omega)).trans ?_
    refine (inR_pos hq1.1 hq1.2).trans ?_
    refine (getI_nth (by omega)).trans ?_
    by_cases z1 : r2.getD q1.toNat 0 = 0
    · refine (cnd_pos z1).trans ?_
      refine (inR_pos hq2.1 hq2.2).trans ?_
      refine (getI_nth (by omega)).trans ?_
      by_cases z2 : r2.getD q2.toNat 0 = 0
      · refine (cnd_pos z2).trans ?_
        rw [hw]; simp only [stepD, z0, z1, z2, if_true, if_false, ↓reduceIte, cond_true, cond_false] <;> rfl
      · refine (cnd_neg z2).trans ?_
        refine (cond_is (isP_iff.2 fun cs n s c nl e => ?_)).trans ?_
        · have e0 : some (DV.sl [iD q0, iD q1] 2 1 false false) = some (DV.sl cs n s c nl) := e
          cases e0
          exact g2
        refine (inR_pos hq2.1 hq2.2).trans ?_
        refine (getI_nth (by omega)).trans ?_
        rw [hw]; simp only [stepD, z0, z1, z2, if_true, if_false, ↓reduceIte, cond_true, cond_false] <;> rfl
    · refine (cnd_neg z1).trans ?_
      refine (cond_is (isP_iff.2 fun cs n s c nl e => ?_)).trans ?_
      · have e0 : some (DV.sl [iD q0, iD q2] 2 1 false false) = some (DV.sl cs n s c nl) := e
        cases e0
        exact g1
      refine (inR_pos hq1.1 hq1.2).trans ?_
      refine (getI_nth (by omega)).trans ?_
      refine (inR_pos hq2.1 hq2.2).trans ?_
      refine (getI_nth (by omega)).trans ?_
      by_cases z2 : r2.getD q2.toNat 0 = 0
      · refine (cnd_pos z2).trans ?_
        rw [hw]; simp only [stepD, z0, z1, z2, if_true, if_false, ↓reduceIte, cond_true, cond_false] <;> rfl
      · refine (cnd_neg z2).trans ?_
        refine (cond_is (isP_iff.2 fun cs n s c nl e => ?_)).trans ?_
        · have e0 : some (DV.sl [iD q0, iD q1] 2 1 false false) = some (DV.sl cs n s c nl) := e
          cases e0
          exact g2
        refine (inR_pos hq2.1 hq2.2).trans ?_
        refine (getI_nth (by omega)).trans ?_
        rw [hw]; simp only [stepD, z0, z1, z2, if_true, if_false, ↓reduceIte, cond_true, cond_false] <;> rfl

theorem d92_1_4 (r0 r1 r2 r3 r4 : List Int) (all : List DV) (q0 q1 q2 q3 : Int) (hl : r1.length = 5 ∧ r2.length = 5 ∧ r3.length = 5 ∧ r4.length = 5) (hq0 : 0 ≤ q0 ∧ q0 < 5) (hq1 : 0 ≤ q1 ∧ q1 < 5) (hq2 : 0 ≤ q2 ∧ q2 < 5) (hq3 : 0 ≤ q3 ∧ q3 < 5) : CallOK Tryd.prog 92 [.d (iD 1), .row 3 0 4 5 1 false, .ref 1 0, .ref 0 0] ([.ac [.fn 92 [] [.ref 1 0, .ref 0 0]], .dc [.sl [.sl (ints r0) 5 1 false false, .sl (ints r1) 5 1 false false, .sl (ints r2) 5 1 false false, .sl (ints r3) 5 1 false false, .sl (ints r4) 5 1 false false] 5 1 false false], .dc all, .dc [iD q0, iD q1, iD q2, iD q3, iD 0]]) (.d (iD (lapW [r1, r2, r3, r4] [q0, q1, q2, q3]))) ([.ac [.fn 92 [] [.ref 1 0, .ref 0 0]], .dc [.sl [.sl (ints r0) 5 1 false false, .sl (ints r1) 5 1 false false, .sl (ints r2) 5 1 false false, .sl (ints r3) 5 1 false false, .sl (ints r4) 5 1 false false] 5 1 false false], .dc all, .dc [iD q0, iD q1, iD q2, iD q3, iD 0]]) := by
  refine ae_directF (ev92_ok [r2, r3, r4]) 30 (by kernel_rfl : tget aeF 92 = some Tryd.f92) ((u92_1_4 (tabD [r2, r3, r4]) (ints r1) (.sl (ints r0) 5 1 false false) (.sl (ints r2) 5 1 false false) (.sl (ints r3) 5 1 false false) (.sl (ints r4) 5 1 false false) all q0 q1 q2 q3).trans ?_)
  have hw : lapW [r1, r2, r3, r4] [q0, q1, q2, q3] = (stepD (r1.getD q3.toNat 0) true (lapW [r2, r3, r4] [q0, q1, q2]) (stepD (r1.getD q2.toNat 0) false (lapW [r2, r3, r4] [q0, q1, q3]) (stepD (r1.getD q1.toNat 0) true (lapW [r2, r3, r4] [q0, q2, q3]) (stepD (r1.getD q0.toNat 0) false (lapW [r2, r3, r4] [q1, q2, q3]) 0)))) := rfl
  have hl0 : r1.length = 5 := hl.1
  have g0 := d92_2_3 r0 r1 r2 r3 r4 all [iD q0, iD q1, iD q2, iD q3, iD 0] q1 q2 q3 hl.2 hq1 hq2 hq3
  have g1 := d92_2_3 r0 r1 r2 r3 r4 all [iD q0, iD q1, iD q2, iD q3, iD 0] q0 q2 q3 hl.2 hq0 hq2 hq3
  have g2 := d92_2_3 r0 r1 r2 r3 r4 all [iD q0, iD q1, iD q2, iD q3, iD 0] q0 q1 q3 hl.2 hq0 hq1 hq3
  have g3 := d92_2_3 r0 r1 r2 r3 r4 all [iD q0, iD q1, iD q2, iD q3, iD 0] q0 q1 q2 hl.2 hq0 hq1 hq2
  refine (inR_pos hq0.1 hq0.2).trans ?_
  refine (getI_nth (by omega)).trans ?_
  by_cases z0 : r1.getD q0.toNat 0 = 0
  · refine (cnd_pos z0).trans ?_
    refine (inR_pos hq1.1 hq1.2).trans ?_
    refine (getI_nth (by omega)).trans ?_
    by_cases z1 : r1.getD q1.toNat 0 = 0
    · refine (cnd_pos z1).trans ?_
      refine (inR_pos hq2.1 hq2.2).trans ?_
      refine (getI_nth (by omega)).trans ?_
      by_cases z2 : r1.getD q2.toNat 0 = 0
      · refine (cnd_pos z2).trans ?_
        refine (inR_pos hq3.1 hq3.2).trans ?_
        refine (getI_nth (by omega)).trans ?_
        by_cases z3 : r1.getD q3.toNat 0 = 0
        · refine (cnd_pos z3).trans ?_
          rw [hw]; simp only [stepD, z0, z1, z2, z3, if_true, if_false, ↓reduceIte, cond_true, cond_false] <;> rfl
        · refine (cnd_neg z3).trans ?_
          refine (cond_is (isP_iff.2 fun cs n s c nl e => ?_)).trans ?_
          · have e0 : some (DV.sl [iD q0, iD q1, iD q2] 3 1 false false) = some (DV.sl cs n s c nl) := e
            cases e0
            exact g3
          refine (inR_pos hq3.1 hq3.2).trans ?_
          refine (getI_nth (by omega)).trans ?_
          rw [hw]; simp only [stepD, z0, z1, z2, z3, if_true, if_false, ↓reduceIte, cond_true, cond_false] <;> rfl
      · refine (cnd_neg z2).trans ?_
        refine (cond_is (isP_iff.2 fun cs n s c nl e => ?_)).trans ?_
        · have e0 : some (DV.sl [iD q0, iD q1, iD q3] 3 1 false false) = some (DV.sl cs n s c nl) := e
          cases e0
          exact g2
        refine (inR_pos hq2.1 hq2.2).trans ?_
        refine (getI_nth (by omega)).trans ?_
        refine (inR_pos hq3.1 hq3.2).trans ?_
        refine (getI_nth (by omega)).trans ?_
        by_cases z3 : r1.getD q3.toNat 0 = 0
        · refine (cnd_pos z3).trans ?_
          rw [hw]; simp only [stepD, z0, z1, z2, z3, if_true, if_false, ↓reduceIte, cond_true, cond_false] <;> rfl
        · refine (cnd_neg z3).trans ?_
          refine (cond_is (isP_iff.2 fun cs n s c nl e => ?_)).trans ?_
          · have e0 : some (DV.sl [iD q0, iD q1, iD q2] 3 1 false false) = some (DV.sl cs n s c nl) := e
            cases e0
            exact g3
          refine (inR_pos hq3.1 hq3.2).trans ?_
          refine (getI_nth (by omega)).trans ?_
          rw [hw]; simp only [stepD, z0, z1, z2, z3, if_true, if_false, ↓reduceIte, cond_true, cond_false] <;> rfl
    · refine (cnd_neg z1).trans ?_
      refine (cond_is (isP_iff.2 fun cs n s c nl e => ?_)).trans ?_
      · have e0 : some (DV.sl [iD q0, iD q2, iD q3] 3 1 false false) = some (DV.sl cs n s c nl) := e
        cases e0
        exact g1
      refine (inR_pos hq1.1 hq1.2).trans ?_
      refine (getI_nth (by omega)).trans ?_
      refine (inR_pos hq2.1 hq2.2).trans ?_
      refine (getI_nth (by omega)).trans ?_
      by_cases z2 : r1.getD q2.toNat 0 = 0
      · refine (cnd_pos z2).trans ?_
        refine (inR_pos hq3.1 hq3.2).trans ?_
        refine (getI_nth (by omega)).trans ?_
        by_cases z3 : r1.getD q3.toNat 0 = 0
        · refine (cnd_pos z3).trans ?_
          rw [hw]; simp only [stepD, z0, z1, z2, z3, if_true, if_false, ↓reduceIte, cond_true, cond_false] <;> rfl
        · refine (cnd_neg z3).trans ?_
          refine (cond_is (isP_iff.2 fun cs n s c nl e => ?_)).trans ?_
          · have e0 : some (DV.sl [iD q0, iD q1, iD q2] 3 1 false false) = some (DV.sl cs n s c nl) := e
            cases e0
            exact g3
          refine (inR_pos hq3.1 hq3.2).trans ?_
          refine (getI_nth (by omega)).trans ?_
          rw [hw]; simp only [stepD, z0, z1, z2, z3, if_true, if_false, ↓reduceIte, cond_true, cond_false] <;> rfl
      · refine (cnd_neg z2).trans ?_
        refine (cond_is (isP_iff.2 fun cs n s c nl e => ?_)).trans ?_
        · have e0 : some (DV.sl [iD q0, iD q1, iD q3] 3 1 false false) = some (DV.sl cs n s c nl) := e
          cases e0
          exact g2
        refine (inR_pos hq2.1 hq2.2).trans ?_
        refine (getI_nth (by omega)).trans ?_
        refine (inR_pos hq3.1 hq3.2).trans ?_
        refine (getI_nth (by omega)).trans ?_
        by_cases z3 : r1.getD q3.toNat 0 = 0
        · refine (cnd_pos z3).trans ?_
          rw [hw]; simp only [stepD, z0, z1, z2, z3, if_true, if_false, ↓reduceIte, cond_true, cond_false] <;> rfl
        · refine (cnd_neg z3).trans ?_
          refine (cond_is (isP_iff.2 fun cs n s c nl e => ?_)).trans ?_
          · have e0 : some (DV.sl [iD q0, iD q1, iD q2] 3 1 false false) = some (DV.sl cs n s c nl) := e
            cases e0
            exact g3
          refine (inR_pos hq3.1 hq3.2).trans ?_
          refine (getI_nth (by omega)).trans ?_
          rw [hw]; simp only [stepD, z0, z1, z2, z3, if_true, if_false, ↓reduceIte, cond_true, cond_false] <;> rfl
  · refine (cnd_neg z0).trans ?_
    refine (cond_is (isP_iff.2 fun cs n s c nl e => ?_)).trans ?_
    · have e0 : some (DV.sl [iD q1, iD q2, iD q3] 3 1 false false) = some (DV.sl cs n s c nl) := e
      cases e0
      exact g0
    refine (inR_pos hq0.1 hq0.2).trans ?_
    refine (getI_nth (by omega)).trans ?_
    refine (inR_pos hq1.1 hq1.2).trans ?_
    refine (getI_nth (by omega)).trans ?_
    by_cases z1 : r1.getD q1.toNat 0 = 0
    · refine (cnd_pos z1).trans ?_
      refine (inR_pos hq2.1 hq2.2).trans ?_
      refine (getI_nth (by omega)).trans ?_
      by_cases z2 : r1.getD q2.toNat 0 = 0
      · refine (cnd_pos z2).trans ?_
        refine (inR_pos hq3.1 hq3.2).trans ?_
        refine (getI_nth (by omega)).trans ?_
        by_cases z3 : r1.getD q3.toNat 0 = 0
        · refine (cnd_pos z3).trans ?_
          rw [hw]; simp only [stepD, z0, z1, z2, z3, if_true, if_false, ↓reduceIte, cond_true, cond_false] <;> rfl
        · refine (cnd_neg z3).trans ?_
          refine (cond_is (isP_iff.2 fun cs n s c nl e => ?_)).trans ?_
          · have e0 : some (DV.sl [iD q0, iD q1, iD q2] 3 1 false false) = some (DV.sl cs n s c nl) := e
            cases e0
            exact g3
          refine (inR_pos hq3.1 hq3.2).trans ?_
          refine (getI_nth (by omega)).trans ?_
          rw [hw]; simp only [stepD, z0, z1, z2, z3, if_true, if_false, ↓reduceIte, cond_true, cond_false] <;> rfl
      · refine (cnd_neg z2).trans ?_
        refine (cond_is (isP_iff.2 fun cs n s c nl e => ?_)).trans ?_
        · have e0 : some (DV.sl [iD q0, iD q1, iD q3] 3 1 false false) = some (DV.sl cs n s c nl) := e
          cases e0
          exact g2
        refine (inR_pos hq2.1 hq2.2).trans ?_
        refine (getI_nth (by omega)).trans ?_
        refine (inR_pos hq3.1 hq3.2).trans ?_
        refine (getI_nth (by omega)).trans ?_
        by_cases z3 : r1.getD q3.toNat 0 = 0
        · refine (cnd_pos z3).trans ?_
          rw [hw]; simp only [stepD, z0, z1, z2, z3, if_true, if_false, ↓reduceIte, cond_true, cond_false] <;> rfl
        · refine (cnd_neg z3).trans ?_
          refine (cond_is (isP_iff.2 fun cs n s c nl e => ?_)).trans ?_
          · have e0 : some (DV.sl [iD q0, iD q1, iD q2] 3 1 false false) = some (DV.sl cs n s c nl) := e
            cases e0
            exact g3
          refine (inR_pos hq3.1 hq3.2).trans ?_
          refine (getI_nth (by omega)).trans ?_
          rw [hw]; simp only [stepD, z0, z1, z2, z3, if_true, if_false, ↓reduceIte, cond_true, cond_false] <;> rfl
    · refine (cnd_neg z1).trans ?_
      refine (cond_is (isP_iff.2 fun cs n s c nl e => ?_)).trans ?_
      · have e0 : some (DV.sl [iD q0, iD q2, iD q3] 3 1 false false) = some (DV.sl cs n s c nl) := e
        cases e0
        exact g1
      refine (inR_pos hq1.1 hq1.2).trans ?_
      refine (getI_nth (by omega)).trans ?_
      refine (inR_pos hq2.1 hq2.2).trans ?_
      refine (getI_nth (by omega)).trans ?_
      by_cases z2 : r1.getD q2.toNat 0 = 0
      · refine (cnd_pos z2).trans ?_
        refine (inR_pos hq3.1 hq3.2).trans ?_
        refine (getI_nth (by omega)).trans ?_
        by_cases z3 : r1.getD q3.toNat 0 = 0
        · refine (cnd_pos z3).trans ?_
          rw [hw]; simp only [stepD, z0, z1, z2, z3, if_true, if_false, ↓reduceIte, cond_true, cond_false] <;> rfl
        · refine (cnd_neg z3).trans ?_
          refine (cond_is (isP_iff.2 fun cs n s c nl e => ?_)).trans ?_
          · have e0 : some (DV.sl [iD q0, iD q1, iD q2] 3 1 false false) = some (DV.sl cs n s c nl) := e
            cases e0
            exact g3
          refine (inR_pos hq3.1 hq3.2).trans ?_
          refine (getI_nth (by omega)).trans ?_
          rw [hw]; simp only [stepD, z0, z1, z2, z3, if_true, if_false, ↓reduceIte, cond_true, cond_false] <;> rfl
      · refine (cnd_neg z2).trans ?_
        refine (cond_is (isP_iff.2 fun cs n s c nl e => ?_)).trans ?_
        · have e0 : some (DV.sl [iD q0, iD q1, iD q3] 3 1 false false) = some (DV.sl cs n s c nl) := e
          cases e0
          exact g2
        refine (inR_pos hq2.1 hq2.2).trans ?_
        refine (getI_nth (by omega)).trans ?_
        refine (inR_pos hq3.1 hq3.2).trans ?_
        refine (getI_nth (by omega)).trans ?_
        by_cases z3 : r1.getD q3.toNat 0 = 0
        · refine (cnd_pos z3).trans ?_
          rw [hw]; simp only [stepD, z0, z1, z2, z3, if_true, if_false, ↓reduceIte, cond_true, cond_false] <;> rfl
        · refine (cnd_neg z3).trans ?_
          refine (cond_is (isP_iff.2 fun cs n s c nl e => ?_)).trans ?_
          · have e0 : some (DV.sl [iD q0, iD q1, iD q2] 3 1 false false) = some (DV.sl cs n s c nl) := e
            cases e0
            exact g3
          refine (inR_pos hq3.1 hq3.2).trans ?_
          refine (getI_nth (by omega)).trans ?_
          rw [hw]; simp only [stepD, z0, z1, z2, z3, if_true, if_false, ↓reduceIte, cond_true, cond_false] <;> rfl

theorem d92_0_5 (r0 r1 r2 r3 r4 : List Int) (q0 q1 q2 q3 q4 : Int) (hl : r0.length = 5 ∧ r1.length = 5 ∧ r2.length = 5 ∧ r3.length = 5 ∧ r4.length = 5) (hq0 : 0 ≤ q0 ∧ q0 < 5) (hq1 : 0 ≤ q1 ∧ q1 < 5) (hq2 : 0 ≤ q2 ∧ q2 < 5) (hq3 : 0 ≤ q3 ∧ q3 < 5) (hq4 : 0 ≤ q4 ∧ q4 < 5) : CallOK Tryd.prog 92 [.d (iD 0), .grow 2 1 false, .ref 1 0, .ref 0 0] ([.ac [.fn 92 [] [.ref 1 0, .ref 0 0]], .dc [.sl [.sl (ints r0) 5 1 false false, .sl (ints r1) 5 1 false false, .sl (ints r2) 5 1 false false, .sl (ints r3) 5 1 false false, .sl (ints r4) 5 1 false false] 5 1 false false], .dc [iD q0, iD q1, iD q2, iD q3, iD q4]]) (.d (iD (lapW [r0, r1, r2, r3, r4] [q0, q1, q2, q3, q4]))) ([.ac [.fn 92 [] [.ref 1 0, .ref 0 0]], .dc [.sl [.sl (ints r0) 5 1 false false, .sl (ints r1) 5 1 false false, .sl (ints r2) 5 1 false false, .sl (ints r3) 5 1 false false, .sl (ints r4) 5 1 false false] 5 1 false false], .dc [iD q0, iD q1, iD q2, iD q3, iD q4]]) := by
  refine ae_directF (ev92_ok [r1, r2, r3, r4]) 30 (by kernel_rfl : tget aeF 92 = some Tryd.f92) ((u92_0_5 (tabD [r1, r2, r3, r4]) (ints r0) (.sl (ints r1) 5 1 false false) (.sl (ints r2) 5 1 false false) (.sl (ints r3) 5 1 false false) (.sl (ints r4) 5 1 false false) q0 q1 q2 q3 q4).trans ?_)
  have hw : lapW [r0, r1, r2, r3, r4] [q0, q1, q2, q3, q4] = (stepD (r0.getD q4.toNat 0) false (lapW [r1, r2, r3, r4] [q0, q1, q2, q3]) (stepD (r0.getD q3.toNat 0) true (lapW [r1, r2, r3, r4] [q0, q1, q2, q4]) (stepD (r0.getD q2.toNat 0) false (lapW [r1, r2, r3, r4] [q0, q1, q3, q4]) (stepD (r0.getD q1.toNat 0) true (lapW [r1, r2, r3, r4] [q0, q2, q3, q4]) (stepD (r0.getD q0.toNat 0) false (lapW [r1, r2, r3, r4] [q1, q2, q3, q4]) 0))))) := rfl
  have hl0 : r0.length = 5 := hl.1
  have g0 := d92_1_4 r0 r1 r2 r3 r4 [iD q0, iD q1, iD q2, iD q3, iD q4] q1 q2 q3 q4 hl.2 hq1 hq2 hq3 hq4
  have g1 := d92_1_4 r0 r1 r2 r3 r4 [iD q0, iD q1, iD q2, iD q3, iD q4] q0 q2 q3 q4 hl.2 hq0 hq2 hq3 hq4
  have g2 := d92_1_4 r0 r1 r2 r3 r4 [iD q0, iD q1, iD q2, iD q3, iD q4] q0 q1 q3 q4 hl.2 hq0 hq1 hq3 hq4
  have g3 := d92_1_4 r0 r1 r2 r3 r4 [iD q0, iD q1, iD q2, iD q3, iD q4] q0 q1 q2 q4 hl.2 hq0 hq1 hq2 hq4
  have g4 := d92_1_4 r0 r1 r2 r3 r4 [iD q0, iD q1, iD q2, iD q3, iD q4] q0 q1 q2 q3 hl.2 hq0 hq1 hq2 hq3
  refine (inR_pos hq0.1 hq0.2).trans ?_
  refine (getI_nth (by omega)).trans ?_
  by_cases z0 : r0.getD q0.toNat 0 = 0
  · refine (cnd_pos z0).trans ?_
    refine (inR_pos hq1.1 hq1.2).trans ?_
    refine (getI_nth (by omega)).trans ?_
    by_cases z1 : r0.getD q1.toNat 0 = 0
    · refine (cnd_pos z1).trans ?_
      refine (inR_pos hq2.1 hq2.2).trans ?_
      refine (getI_nth (by omega)).trans ?_
      by_cases z2 : r0.getD q2.toNat 0 = 0
      · refine (cnd_pos z2).trans ?_
        refine (inR_pos hq3.1 hq3.2).trans ?_
        refine (getI_nth (by omega)).trans ?_
        by_cases z3 : r0.getD q3.toNat 0 = 0
        · refine (cnd_pos z3).trans ?_
          refine (inR_pos hq4.1 hq4.2).trans ?_
          refine (getI_nth (by omega)).trans ?_
          by_cases z4 : r0.getD q4.toNat 0 = 0
          · refine (cnd_pos z4).trans ?_
            rw [hw]; simp only [stepD, z0, z1, z2, z3, z4, if_true, if_false, ↓reduceIte, cond_true, cond_false] <;> rfl
          · refine (cnd_neg z4).trans ?_
            refine (cond_is (isP_iff.2 fun cs n s c nl e => ?_)).trans ?_
            · have e0 : some (DV.sl [iD q0, iD q1, iD q2, iD q3] 4 1 false false) = some (DV.sl cs n s c nl) := e
              cases e0
              exact g4
            refine (inR_pos hq4.1 hq4.2).trans ?_
            refine (getI_nth (by omega)).trans ?_
            rw [hw]; simp only [stepD, z0, z1, z2, z3, z4, if_true, if_false, ↓reduceIte, cond_true, cond_false] <;> rfl
        · refine (cnd_neg z3).trans ?_
          refine (cond_is (isP_iff.2 fun cs n s c nl e => ?_)).trans ?_
          · have e0 : some (DV.sl [iD q0, iD q1, iD q2, iD q4] 4 1 false false) = some (DV.sl cs n s c nl) := e
            cases e0
            exact g3
          refine (inR_pos hq3.1 hq3.2).trans ?_
          refine (getI_nth (by omega)).trans ?_
          refine (inR_pos hq4.1 hq4.2).trans ?_
          refine (getI_nth (by omega)).trans ?_
          by_cases z4 : r0.getD q4.toNat 0 = 0
          · refine (cnd_pos z4).trans ?_
            rw [hw]; simp only [stepD, z0, z1, z2, z3, z4, if_true, if_false, ↓reduceIte, cond_true, cond_false] <;> rfl
          · refine (cnd_neg z4).trans ?_
            refine (cond_is (isP_iff.2 fun cs n s c nl e => ?_)).trans ?_
            · have e0 : some (DV.sl [iD q0, iD q1, iD q2, iD q3] 4 1 false false) = some (DV.sl cs n s c nl) := e
              cases e0
              exact g4
            refine (inR_pos hq4.1 hq4.2).trans ?_
            refine (getI_nth (by omega)).trans ?_
            rw [hw]; simp only [stepD, z0, z1, z2, z3, z4, if_true, if_false, ↓reduceIte, cond_true, cond_false] <;> rfl
      · refine (cnd_neg z2).trans ?_
        refine (cond_is (isP_iff.2 fun cs n s c nl e => ?_)).trans ?_
        · have e0 : some (DV.sl [iD q0, iD q1, iD q3, iD q4] 4 1 false false) = some (DV.sl cs n s c nl) := e
          cases e0
          exact g2
        refine (inR_pos hq2.1 hq2.2).trans ?_
        refine (getI_nth (by omega)).trans ?_
        refine (inR_pos hq3.1 hq3.2).trans ?_
        refine (getI_nth (by omega)).trans ?_
        by_cases z3 : r0.getD q3.toNat 0 = 0
        · refine (cnd_pos z3).trans ?_
          refine (inR_pos hq4.1 hq4.2).trans ?_
          refine (getI_nth (by omega)).trans ?_
          by_cases z4 : r0.getD q4.toNat 0 = 0
          · refine (cnd_pos z4).trans ?_
            rw [hw]; simp only [stepD, z0, z1, z2, z3, z4, if_true, if_false, ↓reduceIte, cond_true, cond_false] <;> rfl
          · refine (cnd_neg z4).trans ?_
            refine (cond_is (isP_iff.2 fun cs n s c nl e => ?_)).trans ?_
            · have e0 : some (DV.sl [iD q0, iD q1, iD q2, iD q3] 4 1 false false) = some (DV.sl cs n s c nl) := e
              cases e0
              exact g4
            refine (inR_pos hq4.1 hq4.2).trans ?_
            refine (getI_nth (by omega)).trans ?_
            rw [hw]; simp only [stepD, z0, z1, z2, z3, z4, if_true, if_false, ↓reduceIte, cond_true, cond_false] <;> rfl
        · refine (cnd_neg z3).trans ?_
          refine (cond_is (isP_iff.2 fun cs n s c nl e => ?_)).trans ?_
          · have e0 : some (DV.sl [iD q0, iD q1, iD q2, iD q4] 4 1 false false) = some (DV.sl cs n s c nl) := e
            cases e0
            exact g3
          refine (inR_pos hq3.1 hq3.2).trans ?_
          refine (getI_nth (by omega)).trans ?_
          refine (inR_pos hq4.1 hq4.2).trans ?_
          refine (getI_nth (by omega)).trans ?_
          by_cases z4 : r0.getD q4.toNat 0 = 0
          · refine (cnd_pos z4).trans ?_
            rw [hw]; simp only [stepD, z0, z1, z2, z3, z4, if_true, if_false, ↓reduceIte, cond_true, cond_false] <;> rfl
          · refine (cnd_neg z4).trans ?_
            refine (cond_is (isP_iff.2 fun cs n s c nl e => ?_)).trans ?_
            · have e0 : some (DV.sl [iD q0, iD q1, iD q2, iD q3] 4 1 false false) = some (DV.sl cs n s c nl) := e
              cases e0
              exact g4
            refine (inR_pos hq4.1 hq4.2).trans ?_
            refine (getI_nth (by omega)).trans ?_
            rw [hw]; simp only [stepD, z0, z1, z2, z3, z4, if_true, if_false, ↓reduceIte, cond_true, cond_false] <;> rfl
    · refine (cnd_neg z1).trans ?_
      refine (cond_is (isP_iff.2 fun cs n s c nl e => ?_)).trans ?_
      · have e0 : some (DV.sl [iD q0, iD q2, iD q3, iD q4] 4 1 false false) = some (DV.sl cs n s c nl) := e
        cases e0
        exact g1
      refine (inR_pos hq1.1 hq1.2).trans ?_
      refine (getI_nth (by omega)).trans ?_
      refine (inR_pos hq2.1 hq2.2).trans ?_
      refine (getI_nth (by omega)).trans ?_
      by_cases z2 : r0.getD q2.toNat 0 = 0
      · refine (cnd_pos z2).trans ?_
        refine (inR_pos hq3.1 hq3.2).trans ?_
        refine (getI_nth (by omega)).trans ?_
        by_cases z3 : r0.getD q3.toNat 0 = 0
        · refine (cnd_pos z3).trans ?_
          refine (inR_pos hq4.1 hq4.2).trans ?_
          refine (getI_nth (by omega)).trans ?_
          by_cases z4 : r0.getD q4.toNat 0 = 0
          · refine (cnd_pos z4).trans ?_
            rw [hw]; simp only [stepD, z0, z1, z2, z3, z4, if_true, if_false, ↓reduceIte, cond_true, cond_false] <;> rfl
          · refine (cnd_neg z4).trans ?_
            refine (cond_is (isP_iff.2 fun cs n s c nl e => ?_)).trans ?_
            · have e0 : some (DV.sl [iD q0, iD q1, iD q2, iD q3] 4 1 false false) = some (DV.sl cs n s c nl) := e
              cases e0
              exact g4
            refine (inR_pos hq4.1 hq4.2).trans ?_
            refine (getI_nth (by omega)).trans ?_
            rw [hw]; simp only [stepD, z0, z1, z2, z3, z4, if_true, if_false, ↓reduceIte, cond_true, cond_false] <;> rfl
        · refine (cnd_neg z3).trans ?_
          refine (cond_is (isP_iff.2 fun cs n s c nl e => ?_)).trans ?_
          · have e0 : some (DV.sl [iD q0, iD q1, iD q2, iD q4] 4 1 false false) = some (DV.sl cs n s c nl) := e
            cases e0
            exact g3
          refine (inR_pos hq3.1 hq3.2).trans ?_
          refine (getI_nth (by omega)).trans ?_
          refine (inR_pos hq4.1 hq4.2).trans ?_
          refine (getI_nth (by omega)).trans ?_
          by_cases z4 : r0.getD q4.toNat 0 = 0
          · refine (cnd_pos z4).trans ?_
            rw [hw]; simp only [stepD, z0, z1, z2, z3, z4, if_true, if_false, ↓reduceIte, cond_true, cond_false] <;> rfl
          · refine (cnd_neg z4).trans ?_
            refine (cond_is (isP_iff.2 fun cs n s c nl e => ?_)).trans ?_
            · have e0 : some (DV.sl [iD q0, iD q1, iD q2, iD q3] 4 1 false false) = some (DV.sl cs n s c nl) := e
              cases e0
              exact g4
            refine (inR_pos hq4.1 hq4.2).trans ?_
            refine (getI_nth (by omega)).trans ?_
            rw [hw]; simp only [stepD, z0, z1, z2, z3, z4, if_true, if_false, ↓reduceIte, cond_true, cond_false] <;> rfl
      · refine (cnd_neg z2).trans ?_
        refine (cond_is (isP_iff.2 fun cs n s c nl e => ?_)).trans ?_
        · have e0 : some (DV.sl [iD q0, iD q1, iD q3, iD q4] 4 1 false false) = some (DV.sl cs n s c nl) := e
          cases e0
          exact g2
        refine (inR_pos hq2.1 hq2.2).trans ?_
        refine (getI_nth (by omega)).trans ?_
        refine (inR_pos hq3.1 hq3.2).trans ?_
        refine (getI_nth (by omega)).trans ?_
        by_cases z3 : r0.getD q3.toNat 0 = 0
        · refine (cnd_pos z3).trans ?_
          refine (inR_pos hq4.1 hq4.2).trans ?_
          refine (getI_nth (by omega)).trans ?_
          by_cases z4 : r0.getD q4.toNat 0 = 0
          · refine (cnd_pos z4).trans ?_
            rw [hw]; simp only [stepD, z0, z1, z2, z3, z4, if_true, if_false, ↓reduceIte, cond_true, cond_false] <;> rfl
          · refine (cnd_neg z4).trans ?_
            refine (cond_is (isP_iff.2 fun cs n s c nl e => ?_)).trans ?_
            · have e0 : some (DV.sl [iD q0, iD q1, iD q2, iD q3] 4 1 false false) = some (DV.sl cs n s c nl) := e
              cases e0
              exact g4
            refine (inR_pos hq4.1 hq4.2).trans ?_
            refine (getI_nth (by omega)).trans ?_
            rw [hw]; simp only [stepD, z0, z1, z2, z3, z4, if_true, if_false, ↓reduceIte, cond_true, cond_false] <;> rfl
        · refine (cnd_neg z3).trans ?_
          refine (cond_is (isP_iff.2 fun cs n s c nl e => ?_)).trans ?_
          · have e0 : some (DV.sl [iD q0, iD q1, iD q2, iD q4] 4 1 false false) = some (DV.sl cs n s c nl) := e
            cases e0
            exact g3
          refine (inR_pos hq3.1 hq3.2).trans ?_
          refine (getI_nth (by omega)).trans ?_
          refine (inR_pos hq4.1 hq4.2).trans ?_
          refine (getI_nth (by omega)).trans ?_
          by_cases z4 : r0.getD q4.toNat 0 = 0
          · refine (cnd_pos z4).trans ?_
            rw [hw]; simp only [stepD, z0, z1, z2, z3, z4, if_true, if_false, ↓reduceIte, cond_true, cond_false] <;> rfl
          · refine (cnd_neg z4).trans ?_
            refine (cond_is (isP_iff.2 fun cs n s c nl e => ?_)).trans ?_
            · have e0 : some (DV.sl [iD q0, iD q1, iD q2, iD q3] 4 1 false false) = some (DV.sl cs n s c nl) := e
              cases e0
              exact g4
            refine (inR_pos hq4.1 hq4.2).trans ?_
            refine (getI_nth (by omega)).trans ?_
            rw [hw]; simp only [stepD, z0, z1, z2, z3, z4, if_true, if_false, ↓reduceIte, cond_true, cond_false] <;> rfl
  · refine (cnd_neg z0).trans ?_
    refine (cond_is (isP_iff.2 fun cs n s c nl e => ?_)).trans ?_
    · have e0 : some (DV.sl [iD q1, iD q2, iD q3, iD q4] 4 1 false false) = some (DV.sl cs n s c nl) := e
      cases e0
      exact g0
    refine (inR_pos hq0.1 hq0.2).trans ?_
    refine (getI_nth (by omega)).trans ?_
    refine (inR_pos hq1.1 hq1.2).trans ?_
    refine (getI_nth (by omega)).trans ?_
    by_cases z1 : r0.getD q1.toNat 0 = 0
    · refine (cnd_pos z1).trans ?_
      refine (inR_pos hq2.1 hq2.2).trans ?_
      refine (getI_nth (by omega)).trans ?_
      by_cases z2 : r0.getD q2.toNat 0 = 0
      · refine (cnd_pos z2).trans ?_
        refine (inR_pos hq3.1 hq3.2).trans ?_
        refine (getI_nth (by omega)).trans ?_
        by_cases z3 : r0.getD q3.toNat 0 = 0
        · refine (cnd_pos z3).trans ?_
          refine (inR_pos hq4.1 hq4.2).trans ?_
          refine (getI_nth (by omega)).trans ?_
          by_cases z4 : r0.getD q4.toNat 0 = 0
          · refine (cnd_pos z4).trans ?_
            rw [hw]; simp only [stepD, z0, z1, z2, z3, z4, if_true, if_false, ↓reduceIte, cond_true, cond_false] <;> rfl
          · refine (cnd_neg z4).trans ?_
            refine (cond_is (isP_iff.2 fun cs n s c nl e => ?_)).trans ?_
            · have e0 : some (DV.sl [iD q0, iD q1, iD q2, iD q3] 4 1 false false) = some (DV.sl cs n s c nl) := e
              cases e0
              exact g4
            refine (inR_pos hq4.1 hq4.2).trans ?_
            refine (getI_nth (by omega)).trans ?_
            rw [hw]; simp only [stepD, z0, z1, z2, z3, z4, if_true, if_false, ↓reduceIte, cond_true, cond_false] <;> rfl
        · refine (cnd_neg z3).trans ?_
          refine (cond_is (isP_iff.2 fun cs n s c nl e => ?_)).trans ?_
          · have e0 : some (DV.sl [iD q0, iD q1, iD q2, iD q4] 4 1 false false) = some (DV.sl cs n s c nl) := e
            cases e0
            exact g3
          refine (inR_pos hq3.1 hq3.2).trans ?_
          refine (getI_nth (by omega)).trans ?_
          refine (inR_pos hq4.1 hq4.2).trans ?_
          refine (getI_nth (by omega)).trans ?_
          by_cases z4 : r0.getD q4.toNat 0 = 0
          · refine (cnd_pos z4).trans ?_
            rw [hw]; simp only [stepD, z0, z1, z2, z3, z4, if_true, if_false, ↓reduceIte, cond_true, cond_false] <;> rfl
          · refine (cnd_neg z4).trans ?_
            refine (cond_is (isP_iff.2 fun cs n s c nl e => ?_)).trans ?_
            · have e0 : some (DV.sl [iD q0, iD q1, iD q2, iD q3] 4 1 false false) = some (DV.sl cs n s c nl) := e
              cases e0
              exact g4
            refine (inR_pos hq4.1 hq4.2).trans ?_
            refine (getI_nth (by omega)).trans ?_
            rw [hw]; simp only [stepD, z0, z1, z2, z3, z4, if_true, if_false, ↓reduceIte, cond_true, cond_false] <;> rfl
      · refine (cnd_neg z2).trans ?_
        refine (cond_is (isP_iff.2 fun cs n s c nl e => ?_)).trans ?_
        · have e0 : some (DV.sl [iD q0, iD q1, iD q3, iD q4] 4 1 false false) = some (DV.sl cs n s c nl) := e
          cases e0
          exact g2
        refine (inR_pos hq2.1 hq2.2).trans ?_
        refine (getI_nth (by omega)).trans ?_
        refine (inR_pos hq3.1 hq3.2).trans ?_
        refine (getI_nth (by omega)).trans ?_
        by_cases z3 : r0.getD q3.toNat 0 = 0
        · refine (cnd_pos z3).trans ?_
          refine (inR_pos hq4.1 hq4.2).trans ?_
          refine (getI_nth (by omega)).trans ?_
          by_cases z4 : r0.getD q4.toNat 0 = 0
          · refine (cnd_pos z4).trans ?_
            rw [hw]; simp only [stepD, z0, z1, z2, z3, z4, if_true, if_false, ↓reduceIte, cond_true, cond_false] <;> rfl
          · refine (cnd_neg z4).trans ?_
            refine (cond_is (isP_iff.2 fun cs n s c nl e => ?_)).trans ?_
            · have e0 : some (DV.sl [iD q0, iD q1, iD q2, iD q3] 4 1 false false) = some (DV.sl cs n s c nl) := e
              cases e0
              exact g4
            refine (inR_pos hq4.1 hq4.2).trans ?_
            refine (getI_nth (by omega)).trans ?_
            rw [hw]; simp only [stepD, z0, z1, z2, z3, z4, if_true, if_false, ↓reduceIte, cond_true, cond_false] <;> rfl
        · refine (cnd_neg z3).trans ?_
          refine (cond_is (isP_iff.2 fun cs n s c nl e => ?_)).trans ?_
          · have e0 : some (DV.sl [iD q0, iD q1, iD q2, iD q4] 4 1 false false) = some (DV.sl cs n s c nl) := e
            cases e0
            exact g3
          refine (inR_pos hq3.1 hq3.2).trans ?_
          refine (getI_nth (by omega)).trans ?_
          refine (inR_pos hq4.1 hq4.2).trans ?_
          refine (getI_nth (by omega)).trans ?_
          by_cases z4 : r0.getD q4.toNat 0 = 0
          · refine (cnd_pos z4).trans ?_
            rw [hw]; simp only [stepD, z0, z1, z2, z3, z4, if_true, if_false, ↓reduceIte, cond_true, cond_false] <;> rfl
          · refine (cnd_neg z4).trans ?_
            refine (cond_is (isP_iff.2 fun cs n s c nl e => ?_)).trans ?_
            · have e0 : some (DV.sl [iD q0, iD q1, iD q2, iD q3] 4 1 false false) = some (DV.sl cs n s c nl) := e
              cases e0
              exact g4
            refine (inR_pos hq4.1 hq4.2).trans ?_
            refine (getI_nth (by omega)).trans ?_
            rw [hw]; simp only [stepD, z0, z1, z2, z3, z4, if_true, if_false, ↓reduceIte, cond_true, cond_false] <;> rfl
    · refine (cnd_neg z1).trans ?_
      refine (cond_is (isP_iff.2 fun cs n s c nl e => ?_)).trans ?_
      · have e0 : some (DV.sl [iD q0, iD q2, iD q3, iD q4] 4 1 false false) = some (DV.sl cs n s c nl) := e
        cases e0
        exact g1
      refine (inR_pos hq1.1 hq1.2).trans ?_
      refine (getI_nth (by omega)).trans ?_
      refine (inR_pos hq2.1 hq2.2).trans ?_
      refine (getI_nth (by omega)).trans ?_
      by_cases z2 : r0.getD q2.toNat 0 = 0
      · refine (cnd_pos z2).trans ?_
        refine (inR_pos hq3.1 hq3.2).trans ?_
        refine (getI_nth (by omega)).trans ?_
        by_cases z3 : r0.getD q3.toNat 0 = 0
        · refine (cnd_pos z3).trans ?_
          refine (inR_pos hq4.1 hq4.2).trans ?_
          refine (getI_nth (by omega)).trans ?_
          by_cases z4 : r0.getD q4.toNat 0 = 0
          · refine (cnd_pos z4).trans ?_
            rw [hw]; simp only [stepD, z0, z1, z2, z3, z4, if_true, if_false, ↓reduceIte, cond_true, cond_false] <;> rfl
          · refine (cnd_neg z4).trans ?_
            refine (cond_is (isP_iff.2 fun cs n s c nl e => ?_)).trans ?_
            · have e0 : some (DV.sl [iD q0, iD q1, iD q2, iD q3] 4 1 false false) = some (DV.sl cs n s c nl) := e
              cases e0
              exact g4
            refine (inR_pos hq4.1 hq4.2).trans ?_
            refine (getI_nth (by omega)).trans ?_
            rw [hw]; simp only [stepD, z0, z1, z2, z3, z4, if_true, if_false, ↓reduceIte, cond_true, cond_false] <;> rfl
        · refine (cnd_neg z3).trans ?_
          refine (cond_is (isP_iff.2 fun cs n s c nl e => ?_)).trans ?_
          · have e0 : some (DV.sl [iD q0, iD q1, iD q2, iD q4] 4 1 false false) = some (DV.sl cs n s c nl) := e
            cases e0
            exact g3
          refine (inR_pos hq3.1 hq3.2).trans ?_
          refine (getI_nth (by omega)).trans ?_
          refine (inR_pos hq4.1 hq4.2).trans ?_
          refine (getI_nth (by omega)).trans ?_
          by_cases z4 : r0.getD q4.toNat 0 = 0
          · refine (cnd_pos z4).trans ?_
            rw [hw]; simp only [stepD, z0, z1, z2, z3, z4, if_true, if_false, ↓reduceIte, cond_true, cond_false] <;> rfl
          · refine (cnd_neg z4).trans ?_
            refine (cond_is (isP_iff.2 fun cs n s c nl e => ?_)).trans ?_
            · have e0 : some (DV.sl [iD q0, iD q1, iD q2, iD q3] 4 1 false false) = some (DV.sl cs n s c nl) := e
              cases e0
              exact g4
            refine (inR_pos hq4.1 hq4.2).trans ?_
            refine (getI_nth (by omega)).trans ?_
            rw [hw]; simp only [stepD, z0, z1, z2, z3, z4, if_true, if_false, ↓reduceIte, cond_true, cond_false] <;> rfl
      · refine (cnd_neg z2).trans ?_
        refine (cond_is (isP_iff.2 fun cs n s c nl e => ?_)).trans ?_
        · have e0 : some (DV.sl [iD q0, iD q1, iD q3, iD q4] 4 1 false false) = some (DV.sl cs n s c nl) := e
          cases e0
          exact g2
        refine (inR_pos hq2.1 hq2.2).trans ?_
        refine (getI_nth (by omega)).trans ?_
        refine (inR_pos hq3.1 hq3.2).trans ?_
        refine (getI_nth (by omega)).trans ?_
        by_cases z3 : r0.getD q3.toNat 0 = 0
        · refine (cnd_pos z3).trans ?_
          refine (inR_pos hq4.1 hq4.2).trans ?_
          refine (getI_nth (by omega)).trans ?_
          by_cases z4 : r0.getD q4.toNat 0 = 0
          · refine (cnd_pos z4).trans ?_
            rw [hw]; simp only [stepD, z0, z1, z2, z3, z4, if_true, if_false, ↓reduceIte, cond_true, cond_false] <;> rfl
          · refine (cnd_neg z4).trans ?_
            refine (cond_is (isP_iff.2 fun cs n s c nl e => ?_)).trans ?_
            · have e0 : some (DV.sl [iD q0, iD q1, iD q2, iD q3] 4 1 false false) = some (DV.sl cs n s c nl) := e
              cases e0
              exact g4
            refine (inR_pos hq4.1 hq4.2).trans ?_
            refine (getI_nth (by omega)).trans ?_
            rw [hw]; simp only [stepD, z0, z1, z2, z3, z4, if_true, if_false, ↓reduceIte, cond_true, cond_false] <;> rfl
        · refine (cnd_neg z3).trans ?_
          refine (cond_is (isP_iff.2 fun cs n s c nl e => ?_)).trans ?_
          · have e0 : some (DV.sl [iD q0, iD q1, iD q2, iD q4] 4 1 false false) = some (DV.sl cs n s c nl) := e
            cases e0
            exact g3
          refine (inR_pos hq3.1 hq3.2).trans ?_
          refine (getI_nth (by omega)).trans ?_
          refine (inR_pos hq4.1 hq4.2).trans ?_
          refine (getI_nth (by omega)).trans ?_
          by_cases z4 : r0.getD q4.toNat 0 = 0
          · refine (cnd_pos z4).trans ?_
            rw [hw]; simp only [stepD, z0, z1, z2, z3, z4, if_true, if_false, ↓reduceIte, cond_true, cond_false] <;> rfl
          · refine (cnd_neg z4).trans ?_
            refine (cond_is (isP_iff.2 fun cs n s c nl e => ?_)).trans ?_
            · have e0 : some (DV.sl [iD q0, iD q1, iD q2, iD q3] 4 1 false false) = some (DV.sl cs n s c nl) := e
              cases e0
              exact g4
            refine (inR_pos hq4.1 hq4.2).trans ?_
            refine (getI_nth (by omega)).trans ?_
            rw [hw]; simp only [stepD, z0, z1, z2, z3, z4, if_true, if_false, ↓reduceIte, cond_true, cond_false] <;> rfl

end Go.Proofs.YtiicbenhhdbnoaaDoor

/- Chapter 09: the document's determinant, by the set of columns. Written by wip/tools/gen77.py. -/
namespace Go.Proofs.YtiicbenhhdbnoaaDoor
open Go Go.AE
set_option maxRecDepth 100000
def sh77 (t : List DV → Int) : Nat → List DV → DV := fun _ ds => iD (t ds)
noncomputable def ev77 (ok : Nat → List DV → Bool) (t : List DV → Int) : Ev := evW [77] ok (sh77 t)

theorem u77_0 (ok : Nat → List DV → Bool) (t : List DV → Int) (M : List DV) (k : Nat) (nl : Bool) (r : Int) : pureE aeC (ev77 ok t) 30 77 Tryd.f77 [.sl M k 1 false nl, iD r, iD 0] =
  some (iD 1) := by kernel_rfl

theorem u77_1 (ok : Nat → List DV → Bool) (t : List DV → Int) (M : List DV) (k : Nat) (nl : Bool) (r : Int) : pureE aeC (ev77 ok t) 30 77 Tryd.f77 [.sl M k 1 false nl, iD r, iD 1] =
  bif inRange r k then
    getS (nth M (Int.toNat r * 1)) fun cs0 n0 sz0 c0 nl0 =>
    bif nl0 || Nat.beq sz0 1 then
      bif inRange 0 n0 then
        getI (nth cs0 0) fun x1 =>
        bif ok 77 [DV.sl M k 1 false nl, iD (IntKind.wrap IntKind.i64 (r + 1)), iD 0] then
          some (iD (IntKind.wrap IntKind.i64 (0 + IntKind.wrap IntKind.i64 (IntKind.wrap IntKind.i64 (1 * x1) * t [DV.sl M k 1 false nl, iD (IntKind.wrap IntKind.i64 (r + 1)), iD 0]))))
        else
          none
      else
        none
    else
      none
  else
    none := by kernel_rfl

theorem u77_2 (ok : Nat → List DV → Bool) (t : List DV → Int) (M : List DV) (k : Nat) (nl : Bool) (r : Int) : pureE aeC (ev77 ok t) 30 77 Tryd.f77 [.sl M k 1 false nl, iD r, iD 2] =
  bif inRange r k then
    getS (nth M (Int.toNat r * 1)) fun cs0 n0 sz0 c0 nl0 =>
    bif nl0 || Nat.beq sz0 1 then
      bif inRange 1 n0 then
        getI (nth cs0 1) fun x1 =>
        bif ok 77 [DV.sl M k 1 false nl, iD (IntKind.wrap IntKind.i64 (r + 1)), iD 0] then
          some (iD (IntKind.wrap IntKind.i64 (0 + IntKind.wrap IntKind.i64 (IntKind.wrap IntKind.i64 (1 * x1) * t [DV.sl M k 1 false nl, iD (IntKind.wrap IntKind.i64 (r + 1)), iD 0]))))
        else
          none
      else
        none
    else
      none
  else
    none := by kernel_rfl

theorem u77_4 (ok : Nat → List DV → Bool) (t : List DV → Int) (M : List DV) (k : Nat) (nl : Bool) (r : Int) : pureE aeC (ev77 ok t) 30 77 Tryd.f77 [.sl M k 1 false nl, iD r, iD 4] =
  bif inRange r k then
    getS (nth M (Int.toNat r * 1)) fun cs0 n0 sz0 c0 nl0 =>
    bif nl0 || Nat.beq sz0 1 then
      bif inRange 2 n0 then
        getI (nth cs0 2) fun x1 =>
        bif ok 77 [DV.sl M k 1 false nl, iD (IntKind.wrap IntKind.i64 (r + 1)), iD 0] then
          some (iD (IntKind.wrap IntKind.i64 (0 + IntKind.wrap IntKind.i64 (IntKind.wrap IntKind.i64 (1 * x1) * t [DV.sl M k 1 false nl, iD (IntKind.wrap IntKind.i64 (r + 1)), iD 0]))))
        else
          none
      else
        none
    else
      none
  else
    none := by kernel_rfl

theorem u77_8 (ok : Nat → List DV → Bool) (t : List DV → Int) (M : List DV) (k : Nat) (nl : Bool) (r : Int) : pureE aeC (ev77 ok t) 30 77 Tryd.f77 [.sl M k 1 false nl, iD r, iD 8] =
  bif inRange r k then
    getS (nth M (Int.toNat r * 1)) fun cs0 n0 sz0 c0 nl0 =>
    bif nl0 || Nat.beq sz0 1 then
      bif inRange 3 n0 then
        getI (nth cs0 3) fun x1 =>
        bif ok 77 [DV.sl M k 1 false nl, iD (IntKind.wrap IntKind.i64 (r + 1)), iD 0] then
          some (iD (IntKind.wrap IntKind.i64 (0 + IntKind.wrap IntKind.i64 (IntKind.wrap IntKind.i64 (1 * x1) * t [DV.sl M k 1 false nl, iD (IntKind.wrap IntKind.i64 (r + 1)), iD 0]))))
        else
          none
      else
        none
    else
      none
  else
    none := by kernel_rfl

theorem u77_16 (ok : Nat → List DV → Bool) (t : List DV → Int) (M : List DV) (k : Nat) (nl : Bool) (r : Int) : pureE aeC (ev77 ok t) 30 77 Tryd.f77 [.sl M k 1 false nl, iD r, iD 16] =
  bif inRange r k then
    getS (nth M (Int.toNat r * 1)) fun cs0 n0 sz0 c0 nl0 =>
    bif nl0 || Nat.beq sz0 1 then
      bif inRange 4 n0 then
        getI (nth cs0 4) fun x1 =>
        bif ok 77 [DV.sl M k 1 false nl, iD (IntKind.wrap IntKind.i64 (r + 1)), iD 0] then
          some (iD (IntKind.wrap IntKind.i64 (0 + IntKind.wrap IntKind.i64 (IntKind.wrap IntKind.i64 (1 * x1) * t [DV.sl M k 1 false nl, iD (IntKind.wrap IntKind.i64 (r + 1)), iD 0]))))
        else
          none
      else
        none
    else
      none
  else
    none := by kernel_rfl

theorem u77_3 (ok : Nat → List DV → Bool) (t : List DV → Int) (M : List DV) (k : Nat) (nl : Bool) (r : Int) : pureE aeC (ev77 ok t) 30 77 Tryd.f77 [.sl M k 1 false nl, iD r, iD 3] =
  bif inRange r k then
    getS (nth M (Int.toNat r * 1)) fun cs0 n0 sz0 c0 nl0 =>
    bif nl0 || Nat.beq sz0 1 then
      bif inRange 0 n0 then
        getI (nth cs0 0) fun x1 =>
        bif ok 77 [DV.sl M k 1 false nl, iD (IntKind.wrap IntKind.i64 (r + 1)), iD 2] then
          bif inRange r k then
            getS (nth M (Int.toNat r * 1)) fun cs2 n2 sz2 c2 nl2 =>
            bif nl2 || Nat.beq sz2 1 then
              bif inRange 1 n2 then
                getI (nth cs2 1) fun x3 =>
                bif ok 77 [DV.sl M k 1 false nl, iD (IntKind.wrap IntKind.i64 (r + 1)), iD 1] then
                  some (iD (IntKind.wrap IntKind.i64 (IntKind.wrap IntKind.i64 (0 + IntKind.wrap IntKind.i64 (IntKind.wrap IntKind.i64 (1 * x1) * t [DV.sl M k 1 false nl, iD (IntKind.wrap IntKind.i64 (r + 1)), iD 2])) + IntKind.wrap IntKind.i64 (IntKind.wrap IntKind.i64 (-1 * x3) * t [DV.sl M k 1 false nl, iD (IntKind.wrap IntKind.i64 (r + 1)), iD 1]))))
                else
                  none
              else
                none
            else
              none
          else
            none
        else
          none
      else
        none
    else
      none
  else
    none := by kernel_rfl

theorem u77_5 (ok : Nat → List DV → Bool) (t : List DV → Int) (M : List DV) (k : Nat) (nl : Bool) (r : Int) : pureE aeC (ev77 ok t) 30 77 Tryd.f77 [.sl M k 1 false nl, iD r, iD 5] =
  bif inRange r k then
    getS (nth M (Int.toNat r * 1)) fun cs0 n0 sz0 c0 nl0 =>
    bif nl0 || Nat.beq sz0 1 then
      bif inRange 0 n0 then
        getI (nth cs0 0) fun x1 =>
        bif ok 77 [DV.sl M k 1 false nl, iD (IntKind.wrap IntKind.i64 (r + 1)), iD 4] then
          bif inRange r k then
            getS (nth M (Int.toNat r * 1)) fun cs2 n2 sz2 c2 nl2 =>
            bif nl2 || Nat.beq sz2 1 then
              bif inRange 2 n2 then
                getI (nth cs2 2) fun x3 =>
                bif ok 77 [DV.sl M k 1 false nl, iD (IntKind.wrap IntKind.i64 (r + 1)), iD 1] then
                  some (iD (IntKind.wrap IntKind.i64 (IntKind.wrap IntKind.i64 (0 + IntKind.wrap IntKind.i64 (IntKind.wrap IntKind.i64 (1 * x1) * t [DV.sl M k 1 false nl, iD (IntKind.wrap IntKind.i64 (r + 1)), iD 4])) + IntKind.wrap IntKind.i64 (IntKind.wrap IntKind.i64 (-1 * x3) * t [DV.sl M k 1 false nl, iD (IntKind.wrap IntKind.i64 (r + 1)), iD 1]))))
                else
                  none
              else
                none
            else
              none
          else
            none
        else
          none
      else
        none
    else
      none
  else
    none := by kernel_rfl

theorem u77_6 (ok : Nat → List DV → Bool) (t : List DV → Int) (M : List DV) (k : Nat) (nl : Bool) (r : Int) : pureE aeC (ev77 ok t) 30 77 Tryd.f77 [.sl M k 1 false nl, iD r, iD 6] =
  bif inRange r k then
    getS (nth M (Int.toNat r * 1)) fun cs0 n0 sz0 c0 nl0 =>
    bif nl0 || Nat.beq sz0 1 then
      bif inRange 1 n0 then
        getI (nth cs0 1) fun x1 =>
        bif ok 77 [DV.sl M k 1 false nl, iD (IntKind.wrap IntKind.i64 (r + 1)), iD 4] then
          bif inRange r k then
            getS (nth M (Int.toNat r * 1)) fun cs2 n2 sz2 c2 nl2 =>
            bif nl2 || Nat.beq sz2 1 then
              bif inRange 2 n2 then
                getI (nth cs2 2) fun x3 =>
                bif ok 77 [DV.sl M k 1 false nl, iD (IntKind.wrap IntKind.i64 (r + 1)), iD 2] then
                  some (iD (IntKind.wrap IntKind.i64 (IntKind.wrap IntKind.i64 (0 + IntKind.wrap IntKind.i64 (IntKind.wrap IntKind.i64 (1 * x1) * t [DV.sl M k 1 false nl, iD (IntKind.wrap IntKind.i64 (r + 1)), iD 4])) + IntKind.wrap IntKind.i64 (IntKind.wrap IntKind.i64 (-1 * x3) * t [DV.sl M k 1 false nl, iD (IntKind.wrap IntKind.i64 (r + 1)), iD 2]))))
                else
                  none
              else
                none
            else
              none
          else
            none
        else
          none
      else
        none
    else
      none
  else
    none := by kernel_rfl

theorem u77_9 (ok : Nat → List DV → Bool) (t : List DV → Int) (M : List DV) (k : Nat) (nl : Bool) (r : Int) : pureE aeC (ev77 ok t) 30 77 Tryd.f77 [.sl M k 1 false nl, iD r, iD 9] =
  bif inRange r k then
    getS (nth M (Int.toNat r * 1)) fun cs0 n0 sz0 c0 nl0 =>
    bif nl0 || Nat.beq sz0 1 then
      bif inRange 0 n0 then
        getI (nth cs0 0) fun x1 =>
        bif ok 77 [DV.sl M k 1 false nl, iD (IntKind.wrap IntKind.i64 (r + 1)), iD 8] then
          bif inRange r k then
            getS (nth M (Int.toNat r * 1)) fun cs2 n2 sz2 c2 nl2 =>
            bif nl2 || Nat.beq sz2 1 then
              bif inRange 3 n2 then
                getI (nth cs2 3) fun x3 =>
                bif ok 77 [DV.sl M k 1 false nl, iD (IntKind.wrap IntKind.i64 (r + 1)), iD 1] then
                  some (iD (IntKind.wrap IntKind.i64 (IntKind.wrap IntKind.i64 (0 + IntKind.wrap IntKind.i64 (IntKind.wrap IntKind.i64 (1 * x1) * t [DV.sl M k 1 false nl, iD (IntKind.wrap IntKind.i64 (r + 1)), iD 8])) + IntKind.wrap IntKind.i64 (IntKind.wrap IntKind.i64 (-1 * x3) * t [DV.sl M k 1 false nl, iD (IntKind.wrap IntKind.i64 (r + 1)), iD 1]))))
                else
                  none
              else
                none
            else
              none
          else
            none
        else
          none
      else
        none
    else
      none
  else
    none := by kernel_rfl

theorem u77_10 (ok : Nat → List DV → Bool) (t : List DV → Int) (M : List DV) (k : Nat) (nl : Bool) (r : Int) : pureE aeC (ev77 ok t) 30 77 Tryd.f77 [.sl M k 1 false nl, iD r, iD 10] =
  bif inRange r k then
    getS (nth M (Int.toNat r * 1)) fun cs0 n0 sz0 c0 nl0 =>
    bif nl0 || Nat.beq sz0 1 then
      bif inRange 1 n0 then
        getI (nth cs0 1) fun x1 =>
        bif ok 77 [DV.sl M k 1 false nl, iD (IntKind.wrap IntKind.i64 (r + 1)), iD 8] then
          bif inRange r k then
            getS (nth M (Int.toNat r * 1)) fun cs2 n2 sz2 c2 nl2 =>
            bif nl2 || Nat.beq sz2 1 then
              bif inRange 3 n2 then
                getI (nth cs2 3) fun x3 =>
                bif ok 77 [DV.sl M k 1 false nl, iD (IntKind.wrap IntKind.i64 (r + 1)), iD 2] then
                  some (iD (IntKind.wrap IntKind.i64 (IntKind.wrap IntKind.i64 (0 + IntKind.wrap IntKind.i64 (IntKind.wrap IntKind.i64 (1 * x1) * t [DV.sl M k 1 false nl, iD (IntKind.wrap IntKind.i64 (r + 1)), iD 8])) + IntKind.wrap IntKind.i64 (IntKind.wrap IntKind.i64 (-1 * x3) * t [DV.sl M k 1 false nl, iD (IntKind.wrap IntKind.i64 (r + 1)), iD 2]))))
                else
                  none
              else
                none
            else
              none
          else
            none
        else
          none
      else
        none
    else
      none
  else
    none := by kernel_rfl

theorem u77_12 (ok : Nat → List DV → Bool) (t : List DV → Int) (M : List DV) (k : Nat) (nl : Bool) (r : Int) : pureE aeC (ev77 ok t) 30 77 Tryd.f77 [.sl M k 1 false nl, iD r, iD 12] =
  bif inRange r k then
    getS (nth M (Int.toNat r * 1)) fun cs0 n0 sz0 c0 nl0 =>
    bif nl0 || Nat.beq sz0 1 then
      bif inRange 2 n0 then
        getI (nth cs0 2) fun x1 =>
        bif ok 77 [DV.sl M k 1 false nl, iD (IntKind.wrap IntKind.i64 (r + 1)), iD 8] then
          bif inRange r k then
            getS (nth M (Int.toNat r * 1)) fun cs2 n2 sz2 c2 nl2 =>
            bif nl2 || Nat.beq sz2 1 then
              bif inRange 3 n2 then
                getI (nth cs2 3) fun x3 =>
                bif ok 77 [DV.sl M k 1 false nl, iD (IntKind.wrap IntKind.i64 (r + 1)), iD 4] then
                  some (iD (IntKind.wrap IntKind.i64 (IntKind.wrap IntKind.i64 (0 + IntKind.wrap IntKind.i64 (IntKind.wrap IntKind.i64 (1 * x1) * t [DV.sl M k 1 false nl, iD (IntKind.wrap IntKind.i64 (r + 1)), iD 8])) + IntKind.wrap IntKind.i64 (IntKind.wrap IntKind.i64 (-1 * x3) * t [DV.sl M k 1 false nl, iD (IntKind.wrap IntKind.i64 (r + 1)), iD 4]))))
                else
                  none
              else
                none
            else
              none
          else
            none
        else
          none
      else
        none
    else
      none
  else
    none := by kernel_rfl

theorem u77_17 (ok : Nat → List DV → Bool) (t : List DV → Int) (M : List DV) (k : Nat) (nl : Bool) (r : Int) : pureE aeC (ev77 ok t) 30 77 Tryd.f77 [.sl M k 1 false nl, iD r, iD 17] =
  bif inRange r k then
    getS (nth M (Int.toNat r * 1)) fun cs0 n0 sz0 c0 nl0 =>
    bif nl0 || Nat.beq sz0 1 then
      bif inRange 0 n0 then
        getI (nth cs0 0) fun x1 =>
        bif ok 77 [DV.sl M k 1 false nl, iD (IntKind.wrap IntKind.i64 (r + 1)), iD 16] then
          bif inRange r k then
            getS (nth M (Int.toNat r * 1)) fun cs2 n2 sz2 c2 nl2 =>
            bif nl2 || Nat.beq sz2 1 then
              bif inRange 4 n2 then
                getI (nth cs2 4) fun x3 =>
                bif ok 77 [DV.sl M k 1 false nl, iD (IntKind.wrap IntKind.i64 (r + 1)), iD 1] then
                  some (iD (IntKind.wrap IntKind.i64 (IntKind.wrap IntKind.i64 (0 + IntKind.wrap IntKind.i64 (IntKind.wrap IntKind.i64 (1 * x1) * t [DV.sl M k 1 false nl, iD (IntKind.wrap IntKind.i64 (r + 1)), iD 16])) + IntKind.wrap IntKind.i64 (IntKind.wrap IntKind.i64 (-1 * x3) * t [DV.sl M k 1 false nl, iD (IntKind.wrap IntKind.i64 (r + 1)), iD 1]))))
                else
                  none
              else
                none
            else
              none
          else
            none
        else
          none
      else
        none
    else
      none
  else
    none := by kernel_rfl

theorem u77_18 (ok : Nat → List DV → Bool) (t : List DV → Int) (M : List DV) (k : Nat) (nl : Bool) (r : Int) : pureE aeC (ev77 ok t) 30 77 Tryd.f77 [.sl M k 1 false nl, iD r, iD 18] =
  bif inRange r k then
    getS (nth M (Int.toNat r * 1)) fun cs0 n0 sz0 c0 nl0 =>
    bif nl0 || Nat.beq sz0 1 then
      bif inRange 1 n0 then
        getI (nth cs0 1) fun x1 =>
        bif ok 77 [DV.sl M k 1 false nl, iD (IntKind.wrap IntKind.i64 (r + 1)), iD 16] then
          bif inRange r k then
            getS (nth M (Int.toNat r * 1)) fun cs2 n2 sz2 c2 nl2 =>
            bif nl2 || Nat.beq sz2 1 then
              bif inRange 4 n2 then
                getI (nth cs2 4) fun x3 =>
                bif ok 77 [DV.sl M k 1 false nl, iD (IntKind.wrap IntKind.i64 (r + 1)), iD 2] then
                  some (iD (IntKind.wrap IntKind.i64 (IntKind.wrap IntKind.i64 (0 + IntKind.wrap IntKind.i64 (IntKind.wrap IntKind.i64 (1 * x1) * t [DV.sl M k 1 false nl, iD (IntKind.wrap IntKind.i64 (r + 1)), iD 16])) + IntKind.wrap IntKind.i64 (IntKind.wrap IntKind.i64 (-1 * x3) * t [DV.sl M k 1 false nl, iD (IntKind.wrap IntKind.i64 (r + 1)), iD 2]))))
                else
                  none
              else
                none
            else
              none
          else
            none
        else
          none
      else
        none
    else
      none
  else
    none := by kernel_rfl

theorem u77_20 (ok : Nat → List DV → Bool) (t : List DV → Int) (M : List DV) (k : Nat) (nl : Bool) (r : Int) : pureE aeC (ev77 ok t) 30 77 Tryd.f77 [.sl M k 1 false nl, iD r, iD 20] =
  bif inRange r k then
    getS (nth M (Int.toNat r * 1)) fun cs0 n0 sz0 c0 nl0 =>
    bif nl0 || Nat.beq sz0 1 then
      bif inRange 2 n0 then
        getI (nth cs0 2) fun x1 =>
        bif ok 77 [DV.sl M k 1 false nl, iD (IntKind.wrap IntKind.i64 (r + 1)), iD 16] then
          bif inRange r k then
            getS (nth M (Int.toNat r * 1)) fun cs2 n2 sz2 c2 nl2 =>
            bif nl2 || Nat.beq sz2 1 then
              bif inRange 4 n2 then
                getI (nth cs2 4) fun x3 =>
                bif ok 77 [DV.sl M k 1 false nl, iD (IntKind.wrap IntKind.i64 (r + 1)), iD 4] then
                  some (iD (IntKind.wrap IntKind.i64 (IntKind.wrap IntKind.i64 (0 + IntKind.wrap IntKind.i64 (IntKind.wrap IntKind.i64 (1 * x1) * t [DV.sl M k 1 false nl, iD (IntKind.wrap IntKind.i64 (r + 1)), iD 16])) + IntKind.wrap IntKind.i64 (IntKind.wrap IntKind.i64 (-1 * x3) * t [DV.sl M k 1 false nl, iD (IntKind.wrap IntKind.i64 (r + 1)), iD 4]))))
                else
                  none
              else
                none
            else
              none
          else
            none
        else
          none
      else
        none
    else
      none
  else
    none := by kernel_rfl

theorem u77_24 (ok : Nat → List DV → Bool) (t : List DV → Int) (M : List DV) (k : Nat) (nl : Bool) (r : Int) : pureE aeC (ev77 ok t) 30 77 Tryd.f77 [.sl M k 1 false nl, iD r, iD 24] =
  bif inRange r k then
    getS (nth M (Int.toNat r * 1)) fun cs0 n0 sz0 c0 nl0 =>
    bif nl0 || Nat.beq sz0 1 then
      bif inRange 3 n0 then
        getI (nth cs0 3) fun x1 =>
        bif ok 77 [DV.sl M k 1 false nl, iD (IntKind.wrap IntKind.i64 (r + 1)), iD 16] then
          bif inRange r k then
            getS (nth M (Int.toNat r * 1)) fun cs2 n2 sz2 c2 nl2 =>
            bif nl2 || Nat.beq sz2 1 then
              bif inRange 4 n2 then
                getI (nth cs2 4) fun x3 =>
                bif ok 77 [DV.sl M k 1 false nl, iD (IntKind.wrap IntKind.i64 (r + 1)), iD 8] then
                  some (iD (IntKind.wrap IntKind.i64 (IntKind.wrap IntKind.i64 (0 + IntKind.wrap IntKind.i64 (IntKind.wrap IntKind.i64 (1 * x1) * t [DV.sl M k 1 false nl, iD (IntKind.wrap IntKind.i64 (r + 1)), iD 16])) + IntKind.wrap IntKind.i64 (IntKind.wrap IntKind.i64 (-1 * x3) * t [DV.sl M k 1 false nl, iD (IntKind.wrap IntKind.i64 (r + 1)), iD 8]))))
                else
                  none
              else
                none
            else
              none
          else
            none
        else
          none
      else
        none
    else
      none
  else
    none := by kernel_rfl

theorem u77_7 (ok : Nat → List DV → Bool) (t : List DV → Int) (M : List DV) (k : Nat) (nl : Bool) (r : Int) : pureE aeC (ev77 ok t) 30 77 Tryd.f77 [.sl M k 1 false nl, iD r, iD 7] =
  bif inRange r k then
    getS (nth M (Int.toNat r * 1)) fun cs0 n0 sz0 c0 nl0 =>
    bif nl0 || Nat.beq sz0 1 then
      bif inRange 0 n0 then
        getI (nth cs0 0) fun x1 =>
        bif ok 77 [DV.sl M k 1 false nl, iD (IntKind.wrap IntKind.i64 (r + 1)), iD 6] then
          bif inRange r k then
            getS (nth M (Int.toNat r * 1)) fun cs2 n2 sz2 c2 nl2 =>
            bif nl2 || Nat.beq sz2 1 then
              bif inRange 1 n2 then
                getI (nth cs2 1) fun x3 =>
                bif ok 77 [DV.sl M k 1 false nl, iD (IntKind.wrap IntKind.i64 (r + 1)), iD 5] then
                  bif inRange r k then
                    getS (nth M (Int.toNat r * 1)) fun cs4 n4 sz4 c4 nl4 =>
                    bif nl4 || Nat.beq sz4 1 then
                      bif inRange 2 n4 then
                        getI (nth cs4 2) fun x5 =>
                        bif ok 77 [DV.sl M k 1 false nl, iD (IntKind.wrap IntKind.i64 (r + 1)), iD 3] then
                          some (iD (IntKind.wrap IntKind.i64 (IntKind.wrap IntKind.i64 (IntKind.wrap IntKind.i64 (0 + IntKind.wrap IntKind.i64 (IntKind.wrap IntKind.i64 (1 * x1) * t [DV.sl M k 1 false nl, iD (IntKind.wrap IntKind.i64 (r + 1)), iD 6])) + IntKind.wrap IntKind.i64 (IntKind.wrap IntKind.i64 (-1 * x3) * t [DV.sl M k 1 false nl, iD (IntKind.wrap IntKind.i64 (r + 1)), iD 5])) + IntKind.wrap IntKind.i64 (IntKind.wrap IntKind.i64 (1 * x5) * t [DV.sl M k 1 false nl, iD (IntKind.wrap IntKind.i64 (r + 1)), iD 3]))))
                        else
                          none
                      else
                        none
                    else
                      none
                  else
                    none
                else
                  none
              else
                none
            else
              none
          else
            none
        else
          none
      else
        none
    else
      none
  else
    none := by kernel_rfl

theorem u77_11 (ok : Nat → List DV → Bool) (t : List DV → Int) (M : List DV) (k : Nat) (nl : Bool) (r : Int) : pureE aeC (ev77 ok t) 30 77 Tryd.f77 [.sl M k 1 false nl, iD r, iD 11] =
  bif inRange r k then
    getS (nth M (Int.toNat r * 1)) fun cs0 n0 sz0 c0 nl0 =>
    bif nl0 || Nat.beq sz0 1 then
      bif inRange 0 n0 then
        getI (nth cs0 0) fun x1 =>
        bif ok 77 [DV.sl M k 1 false nl, iD (IntKind.wrap IntKind.i64 (r + 1)), iD 10] then
          bif inRange r k then
            getS (nth M (Int.toNat r * 1)) fun cs2 n2 sz2 c2 nl2 =>
            bif nl2 || Nat.beq sz2 1 then
              bif inRange 1 n2 then
                getI (nth cs2 1) fun x3 =>
                bif ok 77 [DV.sl M k 1 false nl, iD (IntKind.wrap IntKind.i64 (r + 1)), iD 9] then
                  bif inRange r k then
                    getS (nth M (Int.toNat r * 1)) fun cs4 n4 sz4 c4 nl4 =>
                    bif nl4 || Nat.beq sz4 1 then
                      bif inRange 3 n4 then
                        getI (nth cs4 3) fun x5 =>
                        bif ok 77 [DV.sl M k 1 false nl, iD (IntKind.wrap IntKind.i64 (r + 1)), iD 3] then
                          some (iD (IntKind.wrap IntKind.i64 (IntKind.wrap IntKind.i64 (IntKind.wrap IntKind.i64 (0 + IntKind.wrap IntKind.i64 (IntKind.wrap IntKind.i64 (1 * x1) * t [DV.sl M k 1 false nl, iD (IntKind.wrap IntKind.i64 (r + 1)), iD 10])) + IntKind.wrap IntKind.i64 (IntKind.wrap IntKind.i64 (-1 * x3) * t [DV.sl M k 1 false nl, iD (IntKind.wrap IntKind.i64 (r + 1)), iD 9])) + IntKind.wrap IntKind.i64 (IntKind.wrap IntKind.i64 (1 * x5) * t [DV.sl M k 1 false nl, iD (IntKind.wrap IntKind.i64 (r + 1)), iD 3]))))
                        else
                          none
                      else
                        none
                    else
                      none
                  else
                    none
                else
                  none
              else
                none
            else
              none
          else
            none
        else
          none
      else
        none
    else
      none
  else
    none := by kernel_rfl

theorem u77_13 (ok : Nat → List DV → Bool) (t : List DV → Int) (M : List DV) (k : Nat) (nl : Bool) (r : Int) : pureE aeC (ev77 ok t) 30 77 Tryd.f77 [.sl M k 1 false nl, iD r, iD 13] =
  bif inRange r k then
    getS (nth M (Int.toNat r * 1)) fun cs0 n0 sz0 c0 nl0 =>
    bif nl0 || Nat.beq sz0 1 then
      bif inRange 0 n0 then
        getI (nth cs0 0) fun x1 =>
        bif ok 77 [DV.sl M k 1 false nl, iD (IntKind.wrap IntKind.i64 (r + 1)), iD 12] then
          bif inRange r k then
            getS (nth M (Int.toNat r * 1)) fun cs2 n2 sz2 c2 nl2 =>
            bif nl2 || Nat.beq sz2 1 then
              bif inRange 2 n2 then
                getI (nth cs2 2) fun x3 =>
                bif ok 77 [DV.sl M k 1 false nl, iD (IntKind.wrap IntKind.i64 (r + 1)), iD 9] then
                  bif inRange r k then
                    getS (nth M (Int.toNat r * 1)) fun cs4 n4 sz4 c4 nl4 =>
                    bif nl4 || Nat.beq sz4 1 then
                      bif inRange 3 n4 then
                        getI (nth cs4 3) fun x5 =>
                        bif ok 77 [DV.sl M k 1 false nl, iD (IntKind.wrap IntKind.i64 (r + 1)), iD 5] then
                          some (iD (IntKind.wrap IntKind.i64 (IntKind.wrap IntKind.i64 (IntKind.wrap IntKind.i64 (0 + IntKind.wrap IntKind.i64 (IntKind.wrap IntKind.i64 (1 * x1) * t [DV.sl M k 1 false nl, iD (IntKind.wrap IntKind.i64 (r + 1)), iD 12])) + IntKind.wrap IntKind.i64 (IntKind.wrap IntKind.i64 (-1 * x3) * t [DV.sl M k 1 false nl, iD (IntKind.wrap IntKind.i64 (r + 1)), iD 9])) + IntKind.wrap IntKind.i64 (IntKind.wrap IntKind.i64 (1 * x5) * t [DV.sl M k 1 false nl, iD (IntKind.wrap IntKind.i64 (r + 1)), iD 5]))))
                        else
                          none
                      else
                        none
                    else
                      none
                  else
                    none
                else
                  none
              else
                none
            else
              none
          else
            none
        else
          none
      else
        none
    else
      none
  else
    none := by kernel_rfl

theorem u77_14 (ok : Nat → List DV → Bool) (t : List DV → Int) (M : List DV) (k : Nat) (nl : Bool) (r : Int) : pureE aeC (ev77 ok t) 30 77 Tryd.f77 [.sl M k 1 false nl, iD r, iD 14] =
  bif inRange r k then
    getS (nth M (Int.toNat r * 1)) fun cs0 n0 sz0 c0 nl0 =>
    bif nl0 || Nat.beq sz0 1 then
      bif inRange 1 n0 then
        getI (nth cs0 1) fun x1 =>
        bif ok 77 [DV.sl M k 1 false nl, iD (IntKind.wrap IntKind.i64 (r + 1)), iD 12] then
          bif inRange r k then
            getS (nth M (Int.toNat r * 1)) fun cs2 n2 sz2 c2 nl2 =>
            bif nl2 || Nat.beq sz2 1 then
              bif inRange 2 n2 then
                getI (nth cs2 2) fun x3 =>
                bif ok 77 [DV.sl M k 1 false nl, iD (IntKind.wrap IntKind.i64 (r + 1)), iD 10] then
                  bif inRange r k then
                    getS (nth M (Int.toNat r * 1)) fun cs4 n4 sz4 c4 nl4 =>
                    bif nl4 || Nat.beq sz4 1 then
                      bif inRange 3 n4 then
                        getI (nth cs4 3) fun x5 =>
                        bif ok 77 [DV.sl M k 1 false nl, iD (IntKind.wrap IntKind.i64 (r + 1)), iD 6] then
                          some (iD (IntKind.wrap IntKind.i64 (IntKind.wrap IntKind.i64 (IntKind.wrap IntKind.i64 (0 + IntKind.wrap IntKind.i64 (IntKind.wrap IntKind.i64 (1 * x1) * t [DV.sl M k 1 false nl, iD (IntKind.wrap IntKind.i64 (r + 1)), iD 12])) + IntKind.wrap IntKind.i64 (IntKind.wrap IntKind.i64 (-1 * x3) * t [DV.sl M k 1 false nl, iD (IntKind.wrap IntKind.i64 (r + 1)), iD 10])) + IntKind.wrap IntKind.i64 (IntKind.wrap IntKind.i64 (1 * x5) * t [DV.sl M k 1 false nl, iD (IntKind.wrap IntKind.i64 (r + 1)), iD 6]))))
                        else
                          none
                      else
                        none
                    else
                      none
                  else
                    none
                else
                  none
              else
                none
            else
              none
          else
            none
        else
          none
      else
        none
    else
      none
  else
    none := by kernel_rfl

theorem u77_19 (ok : Nat → List DV → Bool) (t : List DV → Int) (M : List DV) (k : Nat) (nl : Bool) (r : Int) : pureE aeC (ev77 ok t) 30 77 Tryd.f77 [.sl M k 1 false nl, iD r, iD 19] =
  bif inRange r k then
    getS (nth M (Int.toNat r * 1)) fun cs0 n0 sz0 c0 nl0 =>
    bif nl0 || Nat.beq sz0 1 then
      bif inRange 0 n0 then
        getI (nth cs0 0) fun x1 =>
        bif ok 77 [DV.sl M k 1 false nl, iD (IntKind.wrap IntKind.i64 (r + 1)), iD 18] then
          bif inRange r k then
            getS (nth M (Int.toNat r * 1)) fun cs2 n2 sz2 c2 nl2 =>
            bif nl2 || Nat.beq sz2 1 then
              bif inRange 1 n2 then
                getI (nth cs2 1) fun x3 =>
                bif ok 77 [DV.sl M k 1 false nl, iD (IntKind.wrap IntKind.i64 (r + 1)), iD 17] then
                  bif inRange r k then
                    getS (nth M (Int.toNat r * 1)) fun cs4 n4 sz4 c4 nl4 =>
                    bif nl4 || Nat.beq sz4 1 then
                      bif inRange 4 n4 then
                        getI (nth cs4 4) fun x5 =>
                        bif ok 77 [DV.sl M k 1 false nl, iD (IntKind.wrap IntKind.i64 (r + 1)), iD 3] then
                          some (iD (IntKind.wrap IntKind.i64 (IntKind.wrap IntKind.i64 (IntKind.wrap IntKind.i64 (0 + IntKind.wrap IntKind.i64 (IntKind.wrap IntKind.i64 (1 * x1) * t [DV.sl M k 1 false nl, iD (IntKind.wrap IntKind.i64 (r + 1)), iD 18])) + IntKind.wrap IntKind.i64 (IntKind.wrap IntKind.i64 (-1 * x3) * t [DV.sl M k 1 false nl, iD (IntKind.wrap IntKind.i64 (r + 1)), iD 17])) + IntKind.wrap IntKind.i64 (IntKind.wrap IntKind.i64 (1 * x5) * t [DV.sl M k 1 false nl, iD (IntKind.wrap IntKind.i64 (r + 1)), iD 3]))))
                        else
                          none
                      else
                        none
                    else
                      none
                  else
                    none
                else
                  none
              else
                none
            else
              none
          else
            none
        else
          none
      else
        none
    else
      none
  else
    none := by kernel_rfl

theorem u77_21 (ok : Nat → List DV → Bool) (t : List DV → Int) (M : List DV) (k : Nat) (nl : Bool) (r : Int) : pureE aeC (ev77 ok t) 30 77 Tryd.f77 [.sl M k 1 false nl, iD r, iD 21] =
  bif inRange r k then
    getS (nth M (Int.toNat r * 1)) fun cs0 n0 sz0 c0 nl0 =>
    bif nl0 || Nat.beq sz0 1 then
      bif inRange 0 n0 then
        getI (nth cs0 0) fun x1 =>
        bif ok 77 [DV.sl M k 1 false nl, iD (IntKind.wrap IntKind.i64 (r + 1)), iD 20] then
          bif inRange r k then
            getS (nth M (Int.toNat r * 1)) fun cs2 n2 sz2 c2 nl2 =>
            bif nl2 || Nat.beq sz2 1 then
              bif inRange 2 n2 then
                getI (nth cs2 2) fun x3 =>
                bif ok 77 [DV.sl M k 1 false nl, iD (IntKind.wrap IntKind.i64 (r + 1)), iD 17] then
                  bif inRange r k then
                    getS (nth M (Int.toNat r * 1)) fun cs4 n4 sz4 c4 nl4 =>
                    bif nl4 || Nat.beq sz4 1 then
                      bif inRange 4 n4 then
                        getI (nth cs4 4) fun x5 =>
                        bif ok 77 [DV.sl M k 1 false nl, iD (IntKind.wrap IntKind.i64 (r + 1)), iD 5] then
                          some (iD (IntKind.wrap IntKind.i64 (IntKind.wrap IntKind.i64 (IntKind.wrap IntKind.i64 (0 + IntKind.wrap IntKind.i64 (IntKind.wrap IntKind.i64 (1 * x1) * t [DV.sl M k 1 false nl, iD (IntKind.wrap IntKind.i64 (r + 1)), iD 20])) + IntKind.wrap IntKind.i64 (IntKind.wrap IntKind.i64 (-1 * x3) * t [DV.sl M k 1 false nl, iD (IntKind.wrap IntKind.i64 (r + 1)), iD 17])) + IntKind.wrap IntKind.i64 (IntKind.wrap IntKind.i64 (1 * x5) * t [DV.sl M k 1 false nl, iD (IntKind.wrap IntKind.i64 (r + 1)), iD 5]))))
                        else
                          none
                      else
                        none
                    else
                      none
                  else
                    none
                else
                  none
              else
                none
            else
              none
          else
            none
        else
          none
      else
        none
    else
      none
  else
    none := by kernel_rfl

theorem u77_22 (ok : Nat → List DV → Bool) (t : List DV → Int) (M : List DV) (k : Nat) (nl : Bool) (r : Int) : pureE aeC (ev77 ok t) 30 77 Tryd.f77 [.sl M k 1 false nl, iD r, iD 22] =
  bif inRange r k then
    getS (nth M (Int.toNat r * 1)) fun cs0 n0 sz0 c0 nl0 =>
    bif nl0 || Nat.beq sz0 1 then
      bif inRange 1 n0 then
        getI (nth cs0 1) fun x1 =>
        bif ok 77 [DV.sl M k 1 false nl, iD (IntKind.wrap IntKind.i64 (r + 1)), iD 20] then
          bif inRange r k then
            getS (nth M (Int.toNat r * 1)) fun cs2 n2 sz2 c2 nl2 =>
            bif nl2 || Nat.beq sz2 1 then
              bif inRange 2 n2 then
                getI (nth cs2 2) fun x3 =>
                bif ok 77 [DV.sl M k 1 false nl, iD (IntKind.wrap IntKind.i64 (r + 1)), iD 18] then
                  bif inRange r k then
                    getS (nth M (Int.toNat r * 1)) fun cs4 n4 sz4 c4 nl4 =>
                    bif nl4 || Nat.beq sz4 1 then
                      bif inRange 4 n4 then
                        getI (nth cs4 4) fun x5 =>
                        bif ok 77 [DV.sl M k 1 false nl, iD (IntKind.wrap IntKind.i64 (r + 1)), iD 6] then
                          some (iD (IntKind.wrap IntKind.i64 (IntKind.wrap IntKind.i64 (IntKind.wrap IntKind.i64 (0 + IntKind.wrap IntKind.i64 (IntKind.wrap IntKind.i64 (1 * x1) * t [DV.sl M k 1 false nl, iD (IntKind.wrap IntKind.i64 (r + 1)), iD 20])) + IntKind.wrap IntKind.i64 (IntKind.wrap IntKind.i64 (-1 * x3) * t [DV.sl M k 1 false nl, iD (IntKind.wrap IntKind.i64 (r + 1)), iD 18])) + IntKind.wrap IntKind.i64 (IntKind.wrap IntKind.i64 (1 * x5) * t [DV.sl M k 1 false nl, iD (IntKind.wrap IntKind.i64 (r + 1)), iD 6]))))
                        else
                          none
                      else
                        none
                    else
                      none
                  else
                    none
                else
                  none
              else
                none
            else
              none
          else
            none
        else
          none
      else
        none
    else
      none
  else
    none := by kernel_rfl

theorem u77_25 (ok : Nat → List DV → Bool) (t : List DV → Int) (M : List DV) (k : Nat) (nl : Bool) (r : Int) : pureE aeC (ev77 ok t) 30 77 Tryd.f77 [.sl M k 1 false nl, iD r, iD 25] =
  bif inRange r k then
    getS (nth M (Int.toNat r * 1)) fun cs0 n0 sz0 c0 nl0 =>
    bif nl0 || Nat.beq sz0 1 then
      bif inRange 0 n0 then
        getI (nth cs0 0) fun x1 =>
        bif ok 77 [DV.sl M k 1 false nl, iD (IntKind.wrap IntKind.i64 (r + 1)), iD 24] then
          bif inRange r k then
            getS (nth M (Int.toNat r * 1)) fun cs2 n2 sz2 c2 nl2 =>
            bif nl2 || Nat.beq sz2 1 then
              bif inRange 3 n2 then
                getI (nth cs2 3) fun x3 =>
                bif ok 77 [DV.sl M k 1 false nl, iD (IntKind.wrap IntKind.i64 (r + 1)), iD 17] then
                  bif inRange r k then
                    getS (nth M (Int.toNat r * 1)) fun cs4 n4 sz4 c4 nl4 =>
                    bif nl4 || Nat.beq sz4 1 then
                      bif inRange 4 n4 then
                        getI (nth cs4 4) fun x5 =>
                        bif ok 77 [DV.sl M k 1 false nl, iD (IntKind.wrap IntKind.i64 (r + 1)), iD 9] then
                          some (iD (IntKind.wrap IntKind.i64 (IntKind.wrap IntKind.i64 (IntKind.wrap IntKind.i64 (0 + IntKind.wrap IntKind.i64 (IntKind.wrap IntKind.i64 (1 * x1) * t [DV.sl M k 1 false nl, iD (IntKind.wrap IntKind.i64 (r + 1)), iD 24])) + IntKind.wrap IntKind.i64 (IntKind.wrap IntKind.i64 (-1 * x3) * t [DV.sl M k 1 false nl, iD (IntKind.wrap IntKind.i64 (r + 1)), iD 17])) + IntKind.wrap IntKind.i64 (IntKind.wrap IntKind.i64 (1 * x5) * t [DV.sl M k 1 false nl, iD (IntKind.wrap IntKind.i64 (r + 1)), iD 9]))))
                        else
                          none
                      else
                        none
                    else
                      none
                  else
                    none
                else
                  none
              else
                none
            else
              none
          else
            none
        else
          none
      else
        none
    else
      none
  else
    none := by kernel_rfl

theorem u77_26 (ok : Nat → List DV → Bool) (t : List DV → Int) (M : List DV) (k : Nat) (nl : Bool) (r : Int) : pureE aeC (ev77 ok t) 30 77 Tryd.f77 [.sl M k 1 false nl, iD r, iD 26] =
  bif inRange r k then
    getS (nth M (Int.toNat r * 1)) fun cs0 n0 sz0 c0 nl0 =>
    bif nl0 || Nat.beq sz0 1 then
      bif inRange 1 n0 then
        getI (nth cs0 1) fun x1 =>
        bif ok 77 [DV.sl M k 1 false nl, iD (IntKind.wrap IntKind.i64 (r + 1)), iD 24] then
          bif inRange r k then
            getS (nth M (Int.toNat r * 1)) fun cs2 n2 sz2 c2 nl2 =>
            bif nl2 || Nat.beq sz2 1 then
              bif inRange 3 n2 then
                getI (nth cs2 3) fun x3 =>
                bif ok 77 [DV.sl M k 1 false nl, iD (IntKind.wrap IntKind.i64 (r + 1)), iD 18] then
                  bif inRange r k then
                    getS (nth M (Int.toNat r * 1)) fun cs4 n4 sz4 c4 nl4 =>
                    bif nl4 || Nat.beq sz4 1 then
                      bif inRange 4 n4 then
                        getI (nth cs4 4) fun x5 =>
                        bif ok 77 [DV.sl M k 1 false nl, iD (IntKind.wrap IntKind.i64 (r + 1)), iD 10] then
                          some (iD (IntKind.wrap IntKind.i64 (IntKind.wrap IntKind.i64 (IntKind.wrap IntKind.i64 (0 + IntKind.wrap IntKind.i64 (IntKind.wrap IntKind.i64 (1 * x1) * t [DV.sl M k 1 false nl, iD (IntKind.wrap IntKind.i64 (r + 1)), iD 24])) + IntKind.wrap IntKind.i64 (IntKind.wrap IntKind.i64 (-1 * x3) * t [DV.sl M k 1 false nl, iD (IntKind.wrap IntKind.i64 (r + 1)), iD 18])) + IntKind.wrap IntKind.i64 (IntKind.wrap IntKind.i64 (1 * x5) * t [DV.sl M k 1 false nl, iD (IntKind.wrap IntKind.i64 (r + 1)), iD 10]))))
                        else
                          none
                      else
                        none
                    else
                      none
                  else
                    none
                else
                  none
              else
                none
            else
              none
          else
            none
        else
          none
      else
        none
    else
      none
  else
    none := by kernel_rfl

theorem u77_28 (ok : Nat → List DV → Bool) (t : List DV → Int) (M : List DV) (k : Nat) (nl : Bool) (r : Int) : pureE aeC (ev77 ok t) 30 77 Tryd.f77 [.sl M k 1 false nl, iD r, iD 28] =
  bif inRange r k then
    getS (nth M (Int.toNat r * 1)) fun cs0 n0 sz0 c0 nl0 =>
    bif nl0 || Nat.beq sz0 1 then
      bif inRange 2 n0 then
        getI (nth cs0 2) fun x1 =>
        bif ok 77 [DV.sl M k 1 false nl, iD (IntKind.wrap IntKind.i64 (r + 1)), iD 24] then
          bif inRange r k then
            getS (nth M (Int.toNat r * 1)) fun cs2 n2 sz2 c2 nl2 =>
            bif nl2 || Nat.beq sz2 1 then
              bif inRange 3 n2 then
                getI (nth cs2 3) fun x3 =>
                bif ok 77 [DV.sl M k 1 false nl, iD (IntKind.wrap IntKind.i64 (r + 1)), iD 20] then
                  bif inRange r k then
                    getS (nth M (Int.toNat r * 1)) fun cs4 n4 sz4 c4 nl4 =>
                    bif nl4 || Nat.beq sz4 1 then
                      bif inRange 4 n4 then
                        getI (nth cs4 4) fun x5 =>
                        bif ok 77 [DV.sl M k 1 false nl, iD (IntKind.wrap IntKind.i64 (r + 1)), iD 12] then
                          some (iD (IntKind.wrap IntKind.i64 (IntKind.wrap IntKind.i64 (IntKind.wrap IntKind.i64 (0 + IntKind.wrap IntKind.i64 (IntKind.wrap IntKind.i64 (1 * x1) * t [DV.sl M k 1 false nl, iD (IntKind.wrap IntKind.i64 (r + 1)), iD 24])) + IntKind.wrap IntKind.i64 (IntKind.wrap IntKind.i64 (-1 * x3) * t [DV.sl M k 1 false nl, iD (IntKind.wrap IntKind.i64 (r + 1)), iD 20])) + IntKind.wrap IntKind.i64 (IntKind.wrap IntKind.i64 (1 * x5) * t [DV.sl M k 1 false nl, iD (IntKind.wrap IntKind.i64 (r + 1)), iD 12]))))
                        else
                          none
                      else
                        none
                    else
                      none
                  else
                    none
                else
                  none
              else
                none
            else
              none
          else
            none
        else
          none
      else
        none
    else
      none
  else
    none := by kernel_rfl

theorem u77_15 (ok : Nat → List DV → Bool) (t : List DV → Int) (M : List DV) (k : Nat) (nl : Bool) (r : Int) : pureE aeC (ev77 ok t) 30 77 Tryd.f77 [.sl M k 1 false nl, iD r, iD 15] =
  bif inRange r k then
    getS (nth M (Int.toNat r * 1)) fun cs0 n0 sz0 c0 nl0 =>
    bif nl0 || Nat.beq sz0 1 then
      bif inRange 0 n0 then
        getI (nth cs0 0) fun x1 =>
        bif ok 77 [DV.sl M k 1 false nl, iD (IntKind.wrap IntKind.i64 (r + 1)), iD 14] then
          bif inRange r k then
            getS (nth M (Int.toNat r * 1)) fun cs2 n2 sz2 c2 nl2 =>
            bif nl2 || Nat.beq sz2 1 then
              bif inRange 1 n2 then
                getI (nth cs2 1) fun x3 =>
                bif ok 77 [DV.sl M k 1 false nl, iD (IntKind.wrap IntKind.i64 (r + 1)), iD 13] then
                  bif inRange r k then
                    getS (nth M (Int.toNat r * 1)) fun cs4 n4 sz4 c4 nl4 =>
                    bif nl4 || Nat.beq sz4 1 then
                      bif inRange 2 n4 then
                        getI (nth cs4 2) fun x5 =>
                        bif ok 77 [DV.sl M k 1 false nl, iD (IntKind.wrap IntKind.i64 (r + 1)), iD 11] then
                          bif inRange r k then
                            getS (nth M (Int.toNat r * 1)) fun cs6 n6 sz6 c6 nl6 =>
                            bif nl6 || Nat.beq sz6 1 then
                              bif inRange 3 n6 then
                                getI (nth cs6 3) fun x7 =>
                                bif ok 77 [DV.sl M k 1 false nl, iD (IntKind.wrap IntKind.i64 (r + 1)), iD 7] then
                                  some (iD (IntKind.wrap IntKind.i64 (IntKind.wrap IntKind.i64 (IntKind.wrap IntKind.i64 (IntKind.wrap IntKind.i64 (0 + IntKind.wrap IntKind.i64 (IntKind.wrap IntKind.i64 (1 * x1) * t [DV.sl M k 1 false nl, iD (IntKind.wrap IntKind.i64 (r + 1)), iD 14])) + IntKind.wrap IntKind.i64 (IntKind.wrap IntKind.i64 (-1 * x3) * t [DV.sl M k 1 false nl, iD (IntKind.wrap IntKind.i64 (r + 1)), iD 13])) + IntKind.wrap IntKind.i64 (IntKind.wrap IntKind.i64 (1 * x5) * t [DV.sl M k 1 false nl, iD (IntKind.wrap IntKind.i64 (r + 1)), iD 11])) + IntKind.wrap IntKind.i64 (IntKind.wrap IntKind.i64 (-1 * x7) * t [DV.sl M k 1 false nl, iD (IntKind.wrap IntKind.i64 (r + 1)), iD 7]))))
                                else
                                  none
                              else
                                none
                            else
                              none
                          else
                            none
                        else
                          none
                      else
                        none
                    else
                      none
                  else
                    none
                else
                  none
              else
                none
            else
              none
          else
            none
        else
          none
      else
        none
    else
      none
  else
    none := by kernel_rfl

theorem u77_23 (ok : Nat → List DV → Bool) (t : List DV → Int) (M : List DV) (k : Nat) (nl : Bool) (r : Int) : pureE aeC (ev77 ok t) 30 77 Tryd.f77 [.sl M k 1 false nl, iD r, iD 23] =
  bif inRange r k then
    getS (nth M (Int.toNat r * 1)) fun cs0 n0 sz0 c0 nl0 =>
    bif nl0 || Nat.beq sz0 1 then
      bif inRange 0 n0 then
        getI (nth cs0 0) fun x1 =>
        bif ok 77 [DV.sl M k 1 false nl, iD (IntKind.wrap IntKind.i64 (r + 1)), iD 22] then
          bif inRange r k then
            getS (nth M (Int.toNat r * 1)) fun cs2 n2 sz2 c2 nl2 =>
            bif nl2 || Nat.beq sz2 1 then
              bif inRange 1 n2 then
                getI (nth cs2 1) fun x3 =>
                bif ok 77 [DV.sl M k 1 false nl, iD (IntKind.wrap IntKind.i64 (r + 1)), iD 21] then
                  bif inRange r k then
                    getS (nth M (Int.toNat r * 1)) fun cs4 n4 sz4 c4 nl4 =>
                    bif nl4 || Nat.beq sz4 1 then
                      bif inRange 2 n4 then
                        getI (nth cs4 2) fun x5 =>
                        bif ok 77 [DV.sl M k 1 false nl, iD (IntKind.wrap IntKind.i64 (r + 1)), iD 19] then
                          bif inRange r k then
                            getS (nth M (Int.toNat r * 1)) fun cs6 n6 sz6 c6 nl6 =>
                            bif nl6 || Nat.beq sz6 1 then
                              bif inRange 4 n6 then
                                getI (nth cs6 4) fun x7 =>
                                bif ok 77 [DV.sl M k 1 false nl, iD (IntKind.wrap IntKind.i64 (r + 1)), iD 7] then
                                  some (iD (IntKind.wrap IntKind.i64 (IntKind.wrap IntKind.i64 (IntKind.wrap IntKind.i64 (IntKind.wrap IntKind.i64 (0 + IntKind.wrap IntKind.i64 (IntKind.wrap IntKind.i64 (1 * x1) * t [DV.sl M k 1 false nl, iD (IntKind.wrap IntKind.i64 (r + 1)), iD 22])) + IntKind.wrap IntKind.i64 (IntKind.wrap IntKind.i64 (-1 * x3) * t [DV.sl M k 1 false nl, iD (IntKind.wrap IntKind.i64 (r + 1)), iD 21])) + IntKind.wrap IntKind.i64 (IntKind.wrap IntKind.i64 (1 * x5) * t [DV.sl M k 1 false nl, iD (IntKind.wrap IntKind.i64 (r + 1)), iD 19])) + IntKind.wrap IntKind.i64 (IntKind.wrap IntKind.i64 (-1 * x7) * t [DV.sl M k 1 false nl, iD (IntKind.wrap IntKind.i64 (r + 1)), iD 7]))))
                                else
                                  none
                              else
                                none
                            else
                              none
                          else
                            none
                        else
                          none
                      else
                        none
                    else
                      none
                  else
                    none
                else
                  none
              else
                none
            else
              none
          else
            none
        else
          none
      else
        none
    else
      none
  else
    none := by kernel_rfl

theorem u77_27 (ok : Nat → List DV → Bool) (t : List DV → Int) (M : List DV) (k : Nat) (nl : Bool) (r : Int) : pureE aeC (ev77 ok t) 30 77 Tryd.f77 [.sl M k 1 false nl, iD r, iD 27] =
  bif inRange r k then
    getS (nth M (Int.toNat r * 1)) fun cs0 n0 sz0 c0 nl0 =>
    bif nl0 || Nat.beq sz0 1 then
      bif inRange 0 n0 then
        getI (nth cs0 0) fun x1 =>
        bif ok 77 [DV.sl M k 1 false nl, iD (IntKind.wrap IntKind.i64 (r + 1)), iD 26] then
          bif inRange r k then
            getS (nth M (Int.toNat r * 1)) fun cs2 n2 sz2 c2 nl2 =>
            bif nl2 || Nat.beq sz2 1 then
              bif inRange 1 n2 then
                getI (nth cs2 1) fun x3 =>
                bif ok 77 [DV.sl M k 1 false nl, iD (IntKind.wrap IntKind.i64 (r + 1)), iD 25] then
                  bif inRange r k then
                    getS (nth M (Int.toNat r * 1)) fun cs4 n4 sz4 c4 nl4 =>
                    bif nl4 || Nat.beq sz4 1 then
                      bif inRange 3 n4 then
                        getI (nth cs4 3) fun x5 =>
                        bif ok 77 [DV.sl M k 1 false nl, iD (IntKind.wrap IntKind.i64 (r + 1)), iD 19] then
                          bif inRange r k then
                            getS (nth M (Int.toNat r * 1)) fun cs6 n6 sz6 c6 nl6 =>
                            bif nl6 || Nat.beq sz6 1 then
                              bif inRange 4 n6 then
                                getI (nth cs6 4) fun x7 =>
                                bif ok 77 [DV.sl M k 1 false nl, iD (IntKind.wrap IntKind.i64 (r + 1)), iD 11] then
                                  some (iD (IntKind.wrap IntKind.i64 (IntKind.wrap IntKind.i64 (IntKind.wrap IntKind.i64 (IntKind.wrap IntKind.i64 (0 + IntKind.wrap IntKind.i64 (IntKind.wrap IntKind.i64 (1 * x1) * t [DV.sl M k 1 false nl, iD (IntKind.wrap IntKind.i64 (r + 1)), iD 26])) + IntKind.wrap IntKind.i64 (IntKind.wrap IntKind.i64 (-1 * x3) * t [DV.sl M k 1 false nl, iD (IntKind.wrap IntKind.i64 (r + 1)), iD 25])) + IntKind.wrap IntKind.i64 (IntKind.wrap IntKind.i64 (1 * x5) * t [DV.sl M k 1 false nl, iD (IntKind.wrap IntKind.i64 (r + 1)), iD 19])) + IntKind.wrap IntKind.i64 (IntKind.wrap IntKind.i64 (-1 * x7) * t [DV.sl M k 1 false nl, iD (IntKind.wrap IntKind.i64 (r + 1)), iD 11]))))
                                else
                                  none
                              else
                                none
                            else
                              none
                          else
                            none
                        else
                          none
                      else
                        none
                    else
                      none
                  else
                    none
                else
                  none
              else
                none
            else
              none
          else
            none
        else
          none
      else
        none
    else
      none
  else
    none := by kernel_rfl

theorem u77_29 (ok : Nat → List DV → Bool) (t : List DV → Int) (M : List DV) (k : Nat) (nl : Bool) (r : Int) : pureE aeC (ev77 ok t) 30 77 Tryd.f77 [.sl M k 1 false nl, iD r, iD 29] =
  bif inRange r k then
    getS (nth M (Int.toNat r * 1)) fun cs0 n0 sz0 c0 nl0 =>
    bif nl0 || Nat.beq sz0 1 then
      bif inRange 0 n0 then
        getI (nth cs0 0) fun x1 =>
        bif ok 77 [DV.sl M k 1 false nl, iD (IntKind.wrap IntKind.i64 (r + 1)), iD 28] then
          bif inRange r k then
            getS (nth M (Int.toNat r * 1)) fun cs2 n2 sz2 c2 nl2 =>
            bif nl2 || Nat.beq sz2 1 then
              bif inRange 2 n2 then
                getI (nth cs2 2) fun x3 =>
                bif ok 77 [DV.sl M k 1 false nl, iD (IntKind.wrap IntKind.i64 (r + 1)), iD 25] then
                  bif inRange r k then
                    getS (nth M (Int.toNat r * 1)) fun cs4 n4 sz4 c4 nl4 =>
                    bif nl4 || Nat.beq sz4 1 then
                      bif inRange 3 n4 then
                        getI (nth cs4 3) fun x5 =>
                        bif ok 77 [DV.sl M k 1 false nl, iD (IntKind.wrap IntKind.i64 (r + 1)), iD 21] then
                          bif inRange r k then
                            getS (nth M (Int.toNat r * 1)) fun cs6 n6 sz6 c6 nl6 =>
                            bif nl6 || Nat.beq sz6 1 then
                              bif inRange 4 n6 then
                                getI (nth cs6 4) fun x7 =>
                                bif ok 77 [DV.sl M k 1 false nl, iD (IntKind.wrap IntKind.i64 (r + 1)), iD 13] then
                                  some (iD (IntKind.wrap IntKind.i64 (IntKind.wrap IntKind.i64 (IntKind.wrap IntKind.i64 (IntKind.wrap IntKind.i64 (0 + IntKind.wrap IntKind.i64 (IntKind.wrap IntKind.i64 (1 * x1) * t [DV.sl M k 1 false nl, iD (IntKind.wrap IntKind.i64 (r + 1)), iD 28])) + IntKind.wrap IntKind.i64 (IntKind.wrap IntKind.i64 (-1 * x3) * t [DV.sl M k 1 false nl, iD (IntKind.wrap IntKind.i64 (r + 1)), iD 25])) + IntKind.wrap IntKind.i64 (IntKind.wrap IntKind.i64 (1 * x5) * t [DV.sl M k 1 false nl, iD (IntKind.wrap IntKind.i64 (r + 1)), iD 21])) + IntKind.wrap IntKind.i64 (IntKind.wrap IntKind.i64 (-1 * x7) * t [DV.sl M k 1 false nl, iD (IntKind.wrap IntKind.i64 (r + 1)), iD 13]))))
                                else
                                  none
                              else
                                none
                            else
                              none
                          else
                            none
                        else
                          none
                      else
                        none
                    else
                      none
                  else
                    none
                else
                  none
              else
                none
            else
              none
          else
            none
        else
          none
      else
        none
    else
      none
  else
    none := by kernel_rfl

theorem u77_30 (ok : Nat → List DV → Bool) (t : List DV → Int) (M : List DV) (k : Nat) (nl : Bool) (r : Int) : pureE aeC (ev77 ok t) 30 77 Tryd.f77 [.sl M k 1 false nl, iD r, iD 30] =
  bif inRange r k then
    getS (nth M (Int.toNat r * 1)) fun cs0 n0 sz0 c0 nl0 =>
    bif nl0 || Nat.beq sz0 1 then
      bif inRange 1 n0 then
        getI (nth cs0 1) fun x1 =>
        bif ok 77 [DV.sl M k 1 false nl, iD (IntKind.wrap IntKind.i64 (r + 1)), iD 28] then
          bif inRange r k then
            getS (nth M (Int.toNat r * 1)) fun cs2 n2 sz2 c2 nl2 =>
            bif nl2 || Nat.beq sz2 1 then
              bif inRange 2 n2 then
                getI (nth cs2 2) fun x3 =>
                bif ok 77 [DV.sl M k 1 false nl, iD (IntKind.wrap IntKind.i64 (r + 1)), iD 26] then
                  bif inRange r k then
                    getS (nth M (Int.toNat r * 1)) fun cs4 n4 sz4 c4 nl4 =>
                    bif nl4 || Nat.beq sz4 1 then
                      bif inRange 3 n4 then
                        getI (nth cs4 3) fun x5 =>
                        bif ok 77 [DV.sl M k 1 false nl, iD (IntKind.wrap IntKind.i64 (r + 1)), iD 22] then
                          bif inRange r k then
                            getS (nth M (Int.toNat r * 1)) fun cs6 n6 sz6 c6 nl6 =>
                            bif nl6 || Nat.beq sz6 1 then
                              bif inRange 4 n6 then
                                getI (nth cs6 4) fun x7 =>
                                bif ok 77 [DV.sl M k 1 false nl, iD (IntKind.wrap IntKind.i64 (r + 1)), iD 14] then
                                  some (iD (IntKind.wrap IntKind.i64 (IntKind.wrap IntKind.i64 (IntKind.wrap IntKind.i64 (IntKind.wrap IntKind.i64 (0 + IntKind.wrap IntKind.i64 (IntKind.wrap IntKind.i64 (1 * x1) * t [DV.sl M k 1 false nl, iD (IntKind.wrap IntKind.i64 (r + 1)), iD 28])) + IntKind.wrap IntKind.i64 (IntKind.wrap IntKind.i64 (-1 * x3) * t [DV.sl M k 1 false nl, iD (IntKind.wrap IntKind.i64 (r + 1)), iD 26])) + IntKind.wrap IntKind.i64 (IntKind.wrap IntKind.i64 (1 * x5) * t [DV.sl M k 1 false nl, iD (IntKind.wrap IntKind.i64 (r + 1)), iD 22])) + IntKind.wrap IntKind.i64 (IntKind.wrap IntKind.i64 (-1 * x7) * t [DV.sl M k 1 false nl, iD (IntKind.wrap IntKind.i64 (r + 1)), iD 14]))))
                                else
                                  none
                              else
                                none
                            else
                              none
                          else
                            none
                        else
                          none
                      else
                        none
                    else
                      none
                  else
                    none
                else
                  none
              else
                none
            else
              none
          else
            none
        else
          none
      else
        none
    else
      none
  else
    none := by kernel_rfl

theorem u77_31 (ok : Nat → List DV → Bool) (t : List DV → Int) (M : List DV) (k : Nat) (nl : Bool) (r : Int) : pureE aeC (ev77 ok t) 30 77 Tryd.f77 [.sl M k 1 false nl, iD r, iD 31] =
  bif inRange r k then
    getS (nth M (Int.toNat r * 1)) fun cs0 n0 sz0 c0 nl0 =>
    bif nl0 || Nat.beq sz0 1 then
      bif inRange 0 n0 then
        getI (nth cs0 0) fun x1 =>
        bif ok 77 [DV.sl M k 1 false nl, iD (IntKind.wrap IntKind.i64 (r + 1)), iD 30] then
          bif inRange r k then
            getS (nth M (Int.toNat r * 1)) fun cs2 n2 sz2 c2 nl2 =>
            bif nl2 || Nat.beq sz2 1 then
              bif inRange 1 n2 then
                getI (nth cs2 1) fun x3 =>
                bif ok 77 [DV.sl M k 1 false nl, iD (IntKind.wrap IntKind.i64 (r + 1)), iD 29] then
                  bif inRange r k then
                    getS (nth M (Int.toNat r * 1)) fun cs4 n4 sz4 c4 nl4 =>
                    bif nl4 || Nat.beq sz4 1 then
                      bif inRange 2 n4 then
                        getI (nth cs4 2) fun x5 =>
                        bif ok 77 [DV.sl M k 1 false nl, iD (IntKind.wrap IntKind.i64 (r + 1)), iD 27] then
                          bif inRange r k then
                            getS (nth M (Int.toNat r * 1)) fun cs6 n6 sz6 c6 nl6 =>
                            bif nl6 || Nat.beq sz6 1 then
                              bif inRange 3 n6 then
                                getI (nth cs6 3) fun x7 =>
                                bif ok 77 [DV.sl M k 1 false nl, iD (IntKind.wrap IntKind.i64 (r + 1)), iD 23] then
                                  bif inRange r k then
                                    getS (nth M (Int.toNat r * 1)) fun cs8 n8 sz8 c8 nl8 =>
                                    bif nl8 || Nat.beq sz8 1 then
                                      bif inRange 4 n8 then
                                        getI (nth cs8 4) fun x9 =>
                                        bif ok 77 [DV.sl M k 1 false nl, iD (IntKind.wrap IntKind.i64 (r + 1)), iD 15] then
                                          some (iD (IntKind.wrap IntKind.i64 (IntKind.wrap IntKind.i64 (IntKind.wrap IntKind.i64 (IntKind.wrap IntKind.i64 (IntKind.wrap IntKind.i64 (0 + IntKind.wrap IntKind.i64 (IntKind.wrap IntKind.i64 (1 * x1) * t [DV.sl M k 1 false nl, iD (IntKind.wrap IntKind.i64 (r + 1)), iD 30])) + IntKind.wrap IntKind.i64 (IntKind.wrap IntKind.i64 (-1 * x3) * t [DV.sl M k 1 false nl, iD (IntKind.wrap IntKind.i64 (r + 1)), iD 29])) + IntKind.wrap IntKind.i64 (IntKind.wrap IntKind.i64 (1 * x5) * t [DV.sl M k 1 false nl, iD (IntKind.wrap IntKind.i64 (r + 1)), iD 27])) + IntKind.wrap IntKind.i64 (IntKind.wrap IntKind.i64 (-1 * x7) * t [DV.sl M k 1 false nl, iD (IntKind.wrap IntKind.i64 (r + 1)), iD 23])) + IntKind.wrap IntKind.i64 (IntKind.wrap IntKind.i64 (1 * x9) * t [DV.sl M k 1 false nl, iD (IntKind.wrap IntKind.i64 (r + 1)), iD 15]))))
                                        else
                                          none
                                      else
                                        none
                                    else
                                      none
                                  else
                                    none
                                else
                                  none
                              else
                                none
                            else
                              none
                          else
                            none
                        else
                          none
                      else
                        none
                    else
                      none
                  else
                    none
                else
                  none
              else
                none
            else
              none
          else
            none
        else
          none
      else
        none
    else
      none
  else
    none := by kernel_rfl

def bitsL (m : Int) : List Int := (List.range 5).filterMap fun (j : Nat) => if m.toNat / 2 ^ j % 2 = 1 then some (j : Int) else none
def tD (ds : List DV) : Int := match ds with
  | [m, .int _ r, .int _ c] => lapW ((unM m).drop r.toNat) (bitsL c)
  | _ => 0
theorem tD_at (M : List (List Int)) (nl : Bool) (r : Nat) (c : Int) : tD [matD M nl, iD (r : Int), iD c] = lapW (M.drop r) (bitsL c) := by
  show lapW ((unM (matD M nl)).drop (r : Int).toNat) (bitsL c) = _
  rw [unM_mat, Int.toNat_natCast]
theorem g77 {M : List (List Int)} {nl : Bool} {r : Nat} {c : Int} {cs : List Int} (hc : bitsL c = cs) (h : PureOK Tryd.prog 77 [matD M nl, iD (r : Int), iD c] (iD (lapW (M.drop r) cs))) : okS (sh77 tD) 77 [matD M nl, iD (r : Int), iD c] = true := by
  refine okS_is ?_
  show PureOK Tryd.prog 77 _ (iD (tD _))
  rw [tD_at, hc]; exact h
theorem drop_at {M : List (List Int)} {r : Nat} (h : r < M.length) : M.drop r = M.getD r [] :: M.drop (r + 1) := by
  rw [List.drop_eq_getElem_cons h]
  simp [List.getD_eq_getElem?_getD, h]
theorem w0 : W 0 = 0 := rfl
theorem e77_0 (M : List (List Int)) (r : Nat) (nl : Bool) : PureOK Tryd.prog 77 [matD M nl, iD (r : Int), iD 0] (iD (lapW (M.drop r) [])) := by
  have : lapW (M.drop r) [] = 1 := by cases M.drop r <;> rfl
  rw [this]
  exact walk (fs := [77]) (shape := sh77 tD) (by kernel_rfl : tget aeF 77 = some Tryd.f77) (u77_0 ..)

theorem e77_1 (M : List (List Int)) (r : Nat) (nl : Bool) (h5 : M.length ≤ 5) (hr : r + 1 ≤ M.length) (hM : ∀ R ∈ M, 0 < R.length) : PureOK Tryd.prog 77 [matD M nl, iD (r : Int), iD 1] (iD (lapW (M.drop r) [0])) := by
  have hR : 0 < (M.getD r []).length := hM _ (by rw [List.getD_eq_getElem?_getD, List.getElem?_eq_getElem (by omega), Option.getD_some]; exact List.getElem_mem _)
  have res := u77_1 (okS (sh77 tD)) tD (M.map rowD) M.length nl (r : Int)
  rw [show IntKind.wrap .i64 ((r : Int) + 1) = ((r + 1 : Nat) : Int) by rw [wrap64_o (by omega) (by omega)]; omega] at res
  refine walk (fs := [77]) (shape := sh77 tD) (by kernel_rfl : tget aeF 77 = some Tryd.f77) (res.trans ?_)
  refine (inR_at (j := r) rfl (by omega)).trans ?_
  refine (getS_row (by omega)).trans ?_
  refine (cond_is rfl).trans ?_
  refine (inR_at (j := 0) rfl (by omega)).trans ?_
  refine (getI_at (by omega)).trans ?_
  refine (cond_is (g77 (cs := []) rfl (e77_0 M (r + 1) nl))).trans ?_
  rw [drop_at (by omega)]
  simp only [tD_at, show bitsL 0 = [] from rfl]
  rw [stepE _ _ _ (w0)]
  rfl

theorem e77_2 (M : List (List Int)) (r : Nat) (nl : Bool) (h5 : M.length ≤ 5) (hr : r + 1 ≤ M.length) (hM : ∀ R ∈ M, 1 < R.length) : PureOK Tryd.prog 77 [matD M nl, iD (r : Int), iD 2] (iD (lapW (M.drop r) [1])) := by
  have hR : 1 < (M.getD r []).length := hM _ (by rw [List.getD_eq_getElem?_getD, List.getElem?_eq_getElem (by omega), Option.getD_some]; exact List.getElem_mem _)
  have res := u77_2 (okS (sh77 tD)) tD (M.map rowD) M.length nl (r : Int)
  rw [show IntKind.wrap .i64 ((r : Int) + 1) = ((r + 1 : Nat) : Int) by rw [wrap64_o (by omega) (by omega)]; omega] at res
  refine walk (fs := [77]) (shape := sh77 tD) (by kernel_rfl : tget aeF 77 = some Tryd.f77) (res.trans ?_)
  refine (inR_at (j := r) rfl (by omega)).trans ?_
  refine (getS_row (by omega)).trans ?_
  refine (cond_is rfl).trans ?_
  refine (inR_at (j := 1) rfl (by omega)).trans ?_
  refine (getI_at (by omega)).trans ?_
  refine (cond_is (g77 (cs := []) rfl (e77_0 M (r + 1) nl))).trans ?_
  rw [drop_at (by omega)]
  simp only [tD_at, show bitsL 0 = [] from rfl]
  rw [stepE _ _ _ (w0)]
  rfl

theorem e77_4 (M : List (List Int)) (r : Nat) (nl : Bool) (h5 : M.length ≤ 5) (hr : r + 1 ≤ M.length) (hM : ∀ R ∈ M, 2 < R.length) : PureOK Tryd.prog 77 [matD M nl, iD (r : Int), iD 4] (iD (lapW (M.drop r) [2])) := by
  have hR : 2 < (M.getD r []).length := hM _ (by rw [List.getD_eq_getElem?_getD, List.getElem?_eq_getElem (by omega), Option.getD_some]; exact List.getElem_mem _)
  have res := u77_4 (okS (sh77 tD)) tD (M.map rowD) M.length nl (r : Int)
  rw [show IntKind.wrap .i64 ((r : Int) + 1) = ((r + 1 : Nat) : Int) by rw [wrap64_o (by omega) (by omega)]; omega] at res
  refine walk (fs := [77]) (shape := sh77 tD) (by kernel_rfl : tget aeF 77 = some Tryd.f77) (res.trans ?_)
  refine (inR_at (j := r) rfl (by omega)).trans ?_
  refine (getS_row (by omega)).trans ?_
  refine (cond_is rfl).trans ?_
  refine (inR_at (j := 2) rfl (by omega)).trans ?_
  refine (getI_at (by omega)).trans ?_
  refine (cond_is (g77 (cs := []) rfl (e77_0 M (r + 1) nl))).trans ?_
  rw [drop_at (by omega)]
  simp only [tD_at, show bitsL 0 = [] from rfl]
  rw [stepE _ _ _ (w0)]
  rfl

theorem e77_8 (M : List (List Int)) (r : Nat) (nl : Bool) (h5 : M.length ≤ 5) (hr : r + 1 ≤ M.length) (hM : ∀ R ∈ M, 3 < R.length) : PureOK Tryd.prog 77 [matD M nl, iD (r : Int), iD 8] (iD (lapW (M.drop r) [3])) := by
  have hR : 3 < (M.getD r []).length := hM _ (by rw [List.getD_eq_getElem?_getD, List.getElem?_eq_getElem (by omega), Option.getD_some]; exact List.getElem_mem _)
  have res := u77_8 (okS (sh77 tD)) tD (M.map rowD) M.length nl (r : Int)
  rw [show IntKind.wrap .i64 ((r : Int) + 1) = ((r + 1 : Nat) : Int) by rw [wrap64_o (by omega) (by omega)]; omega] at res
  refine walk (fs := [77]) (shape := sh77 tD) (by kernel_rfl : tget aeF 77 = some Tryd.f77) (res.trans ?_)
  refine (inR_at (j := r) rfl (by omega)).trans ?_
  refine (getS_row (by omega)).trans ?_
  refine (cond_is rfl).trans ?_
  refine (inR_at (j := 3) rfl (by omega)).trans ?_
  refine (getI_at (by omega)).trans ?_
  refine (cond_is (g77 (cs := []) rfl (e77_0 M (r + 1) nl))).trans ?_
  rw [drop_at (by omega)]
  simp only [tD_at, show bitsL 0 = [] from rfl]
  rw [stepE _ _ _ (w0)]
  rfl

theorem e77_16 (M : List (List Int)) (r : Nat) (nl : Bool) (h5 : M.length ≤ 5) (hr : r + 1 ≤ M.length) (hM : ∀ R ∈ M, 4 < R.length) : PureOK Tryd.prog 77 [matD M nl, iD (r : Int), iD 16] (iD (lapW (M.drop r) [4])) := by
  have hR : 4 < (M.getD r []).length := hM _ (by rw [List.getD_eq_getElem?_getD, List.getElem?_eq_getElem (by omega), Option.getD_some]; exact List.getElem_mem _)
  have res := u77_16 (okS (sh77 tD)) tD (M.map rowD) M.length nl (r : Int)
  rw [show IntKind.wrap .i64 ((r : Int) + 1) = ((r + 1 : Nat) : Int) by rw [wrap64_o (by omega) (by omega)]; omega] at res
  refine walk (fs := [77]) (shape := sh77 tD) (by kernel_rfl : tget aeF 77 = some Tryd.f77) (res.trans ?_)
  refine (inR_at (j := r) rfl (by omega)).trans ?_
  refine (getS_row (by omega)).trans ?_
  refine (cond_is rfl).trans ?_
  refine (inR_at (j := 4) rfl (by omega)).trans ?_
  refine (getI_at (by omega)).trans ?_
  refine (cond_is (g77 (cs := []) rfl (e77_0 M (r + 1) nl))).trans ?_
  rw [drop_at (by omega)]
  simp only [tD_at, show bitsL 0 = [] from rfl]
  rw [stepE _ _ _ (w0)]
  rfl

theorem e77_3 (M : List (List Int)) (r : Nat) (nl : Bool) (h5 : M.length ≤ 5) (hr : r + 2 ≤ M.length) (hM : ∀ R ∈ M, 1 < R.length) : PureOK Tryd.prog 77 [matD M nl, iD (r : Int), iD 3] (iD (lapW (M.drop r) [0, 1])) := by
  have hR : 1 < (M.getD r []).length := hM _ (by rw [List.getD_eq_getElem?_getD, List.getElem?_eq_getElem (by omega), Option.getD_some]; exact List.getElem_mem _)
  have res := u77_3 (okS (sh77 tD)) tD (M.map rowD) M.length nl (r : Int)
  rw [show IntKind.wrap .i64 ((r : Int) + 1) = ((r + 1 : Nat) : Int) by rw [wrap64_o (by omega) (by omega)]; omega] at res
  refine walk (fs := [77]) (shape := sh77 tD) (by kernel_rfl : tget aeF 77 = some Tryd.f77) (res.trans ?_)
  refine (inR_at (j := r) rfl (by omega)).trans ?_
  refine (getS_row (by omega)).trans ?_
  refine (cond_is rfl).trans ?_
  refine (inR_at (j := 0) rfl (by omega)).trans ?_
  refine (getI_at (by omega)).trans ?_
  refine (cond_is (g77 (cs := [1]) rfl (e77_2 M (r + 1) nl h5 (by omega) (fun R q => by have := hM R q; omega)))).trans ?_
  refine (inR_at (j := r) rfl (by omega)).trans ?_
  refine (getS_row (by omega)).trans ?_
  refine (cond_is rfl).trans ?_
  refine (inR_at (j := 1) rfl (by omega)).trans ?_
  refine (getI_at (by omega)).trans ?_
  refine (cond_is (g77 (cs := [0]) rfl (e77_1 M (r + 1) nl h5 (by omega) (fun R q => by have := hM R q; omega)))).trans ?_
  rw [drop_at (by omega)]
  simp only [tD_at, show bitsL 1 = [0] from rfl, show bitsL 2 = [1] from rfl]
  rw [stepE _ _ _ (w0)]
  rw [stepO _ _ _ (wst _ _ _ _ (w0))]
  rfl

theorem e77_5 (M : List (List Int)) (r : Nat) (nl : Bool) (h5 : M.length ≤ 5) (hr : r + 2 ≤ M.length) (hM : ∀ R ∈ M, 2 < R.length) : PureOK Tryd.prog 77 [matD M nl, iD (r : Int), iD 5] (iD (lapW (M.drop r) [0, 2])) := by
  have hR : 2 < (M.getD r []).length := hM _ (by rw [List.getD_eq_getElem?_getD, List.getElem?_eq_getElem (by omega), Option.getD_some]; exact List.getElem_mem _)
  have res := u77_5 (okS (sh77 tD)) tD (M.map rowD) M.length nl (r : Int)
  rw [show IntKind.wrap .i64 ((r : Int) + 1) = ((r + 1 : Nat) : Int) by rw [wrap64_o (by omega) (by omega)]; omega] at res
  refine walk (fs := [77]) (shape := sh77 tD) (by kernel_rfl : tget aeF 77 = some Tryd.f77) (res.trans ?_)
  refine (inR_at (j := r) rfl (by omega)).trans ?_
  refine (getS_row (by omega)).trans ?_
  refine (cond_is rfl).trans ?_
  refine (inR_at (j := 0) rfl (by omega)).trans ?_
  refine (getI_at (by omega)).trans ?_
  refine (cond_is (g77 (cs := [2]) rfl (e77_4 M (r + 1) nl h5 (by omega) (fun R q => by have := hM R q; omega)))).trans ?_
  refine (inR_at (j := r) rfl (by omega)).trans ?_
  refine (getS_row (by omega)).trans ?_
  refine (cond_is rfl).trans ?_
  refine (inR_at (j := 2) rfl (by omega)).trans ?_
  refine (getI_at (by omega)).trans ?_
  refine (cond_is (g77 (cs := [0]) rfl (e77_1 M (r + 1) nl h5 (by omega) (fun R q => by have := hM R q; omega)))).trans ?_
  rw [drop_at (by omega)]
  simp only [tD_at, show bitsL 1 = [0] from rfl, show bitsL 4 = [2] from rfl]
  rw [stepE _ _ _ (w0)]
  rw [stepO _ _ _ (wst _ _ _ _ (w0))]
  rfl

theorem e77_6 (M : List (List Int)) (r : Nat) (nl : Bool) (h5 : M.length ≤ 5) (hr : r + 2 ≤ M.length) (hM : ∀ R ∈ M, 2 < R.length) : PureOK Tryd.prog 77 [matD M nl, iD (r : Int), iD 6] (iD (lapW (M.drop r) [1, 2])) := by
  have hR : 2 < (M.getD r []).length := hM _ (by rw [List.getD_eq_getElem?_getD, List.getElem?_eq_getElem (by omega), Option.getD_some]; exact List.getElem_mem _)
  have res := u77_6 (okS (sh77 tD)) tD (M.map rowD) M.length nl (r : Int)
  rw [show IntKind.wrap .i64 ((r : Int) + 1) = ((r + 1 : Nat) : Int) by rw [wrap64_o (by omega) (by omega)]; omega] at res
  refine walk (fs := [77]) (shape := sh77 tD) (by kernel_rfl : tget aeF 77 = some Tryd.f77) (res.trans ?_)
  refine (inR_at (j := r) rfl (by omega)).trans ?_
  refine (getS_row (by omega)).trans ?_
  refine (cond_is rfl).trans ?_
  refine (inR_at (j := 1) rfl (by omega)).trans ?_
  refine (getI_at (by omega)).trans ?_
  refine (cond_is (g77 (cs := [2]) rfl (e77_4 M (r + 1) nl h5 (by omega) (fun R q => by have := hM R q; omega)))).trans ?_
  refine (inR_at (j := r) rfl (by omega)).trans ?_
  refine (getS_row (by omega)).trans ?_
  refine (cond_is rfl).trans ?_
  refine (inR_at (j := 2) rfl (by omega)).trans ?_
  refine (getI_at (by omega)).trans ?_
  refine (cond_is (g77 (cs := [1]) rfl (e77_2 M (r + 1) nl h5 (by omega) (fun R q => by have := hM R q; omega)))).trans ?_
  rw [drop_at (by omega)]
  simp only [tD_at, show bitsL 2 = [1] from rfl, show bitsL 4 = [2] from rfl]
  rw [stepE _ _ _ (w0)]
  rw [stepO _ _ _ (wst _ _ _ _ (w0))]
  rfl

theorem e77_9 (M : List (List Int)) (r : Nat) (nl : Bool) (h5 : M.length ≤ 5) (hr : r + 2 ≤ M.length) (hM : ∀ R ∈ M, 3 < R.length) : PureOK Tryd.prog 77 [matD M nl, iD (r : Int), iD 9] (iD (lapW (M.drop r) [0, 3])) := by
  have hR : 3 < (M.getD r []).length := hM _ (by rw [List.getD_eq_getElem?_getD, List.getElem?_eq_getElem (by omega), Option.getD_some]; exact List.getElem_mem _)
  have res := u77_9 (okS (sh77 tD)) tD (M.map rowD) M.length nl (r : Int)
  rw [show IntKind.wrap .i64 ((r : Int) + 1) = ((r + 1 : Nat) : Int) by rw [wrap64_o (by omega) (by omega)]; omega] at res
  refine walk (fs := [77]) (shape := sh77 tD) (by kernel_rfl : tget aeF 77 = some Tryd.f77) (res.trans ?_)
  refine (inR_at (j := r) rfl (by omega)).trans ?_
  refine (getS_row (by omega)).trans ?_
  refine (cond_is rfl).trans ?_
  refine (inR_at (j := 0) rfl (by omega)).trans ?_
  refine (getI_at (by omega)).trans ?_
  refine (cond_is (g77 (cs := [3]) rfl (e77_8 M (r + 1) nl h5 (by omega) (fun R q => by have := hM R q; omega)))).trans ?_
  refine (inR_at (j := r) rfl (by omega)).trans ?_
  refine (getS_row (by omega)).trans ?_
  refine (cond_is rfl).trans ?_
  refine (inR_at (j := 3) rfl (by omega)).trans ?_
  refine (getI_at (by omega)).trans ?_
  refine (cond_is (g77 (cs := [0]) rfl (e77_1 M (r + 1) nl h5 (by omega) (fun R q => by have := hM R q; omega)))).trans ?_
  rw [drop_at (by omega)]
  simp only [tD_at, show bitsL 1 = [0] from rfl, show bitsL 8 = [3] from rfl]
  rw [stepE _ _ _ (w0)]
  rw [stepO _ _ _ (wst _ _ _ _ (w0))]
  rfl

theorem e77_10 (M : List (List Int)) (r : Nat) (nl : Bool) (h5 : M.length ≤ 5) (hr : r + 2 ≤ M.length) (hM : ∀ R ∈ M, 3 < R.length) : PureOK Tryd.prog 77 [matD M nl, iD (r : Int), iD 10] (iD (lapW (M.drop r) [1, 3])) := by
  have hR : 3 < (M.getD r []).length := hM _ (by rw [List.getD_eq_getElem?_getD, List.getElem?_eq_getElem (by omega), Option.getD_some]; exact List.getElem_mem _)
  have res := u77_10 (okS (sh77 tD)) tD (M.map rowD) M.length nl (r : Int)
  rw [show IntKind.wrap .i64 ((r : Int) + 1) = ((r + 1 : Nat) : Int) by rw [wrap64_o (by omega) (by omega)]; omega] at res
  refine walk (fs := [77]) (shape := sh77 tD) (by kernel_rfl : tget aeF 77 = some Tryd.f77) (res.trans ?_)
  refine (inR_at (j := r) rfl (by omega)).trans ?_
  refine (getS_row (by omega)).trans ?_
  refine (cond_is rfl).trans ?_
  refine (inR_at (j := 1) rfl (by omega)).trans ?_
  refine (getI_at (by omega)).trans ?_
  refine (cond_is (g77 (cs := [3]) rfl (e77_8 M (r + 1) nl h5 (by omega) (fun R q => by have := hM R q; omega)))).trans ?_
  refine (inR_at (j := r) rfl (by omega)).trans ?_
  refine (getS_row (by omega)).trans ?_
  refine (cond_is rfl).trans ?_
  refine (inR_at (j := 3) rfl (by omega)).trans ?_
  refine (getI_at (by omega)).trans ?_
  refine (cond_is (g77 (cs := [1]) rfl (e77_2 M (r + 1) nl h5 (by omega) (fun R q => by have := hM R q; omega)))).trans ?_
  rw [drop_at (by omega)]
  simp only [tD_at, show bitsL 2 = [1] from rfl, show bitsL 8 = [3] from rfl]
  rw [stepE _ _ _ (w0)]
  rw [stepO _ _ _ (wst _ _ _ _ (w0))]
  rfl

theorem e77_12 (M : List (List Int)) (r : Nat) (nl : Bool) (h5 : M.length ≤ 5) (hr : r + 2 ≤ M.length) (hM : ∀ R ∈ M, 3 < R.length) : PureOK Tryd.prog 77 [matD M nl, iD (r : Int), iD 12] (iD (lapW (M.drop r) [2, 3])) := by
  have hR : 3 < (M.getD r []).length := hM _ (by rw [List.getD_eq_getElem?_getD, List.getElem?_eq_getElem (by omega), Option.getD_some]; exact List.getElem_mem _)
  have res := u77_12 (okS (sh77 tD)) tD (M.map rowD) M.length nl (r : Int)
  rw [show IntKind.wrap .i64 ((r : Int) + 1) = ((r + 1 : Nat) : Int) by rw [wrap64_o (by omega) (by omega)]; omega] at res
  refine walk (fs := [77]) (shape := sh77 tD) (by kernel_rfl : tget aeF 77 = some Tryd.f77) (res.trans ?_)
  refine (inR_at (j := r) rfl (by omega)).trans ?_
  refine (getS_row (by omega)).trans ?_
  refine (cond_is rfl).trans ?_
  refine (inR_at (j := 2) rfl (by omega)).trans ?_
  refine (getI_at (by omega)).trans ?_
  refine (cond_is (g77 (cs := [3]) rfl (e77_8 M (r + 1) nl h5 (by omega) (fun R q => by have := hM R q; omega)))).trans ?_
  refine (inR_at (j := r) rfl (by omega)).trans ?_
  refine (getS_row (by omega)).trans ?_
  refine (cond_is rfl).trans ?_
  refine (inR_at (j := 3) rfl (by omega)).trans ?_
  refine (getI_at (by omega)).trans ?_
  refine (cond_is (g77 (cs := [2]) rfl (e77_4 M (r + 1) nl h5 (by omega) (fun R q => by have := hM R q; omega)))).trans ?_
  rw [drop_at (by omega)]
  simp only [tD_at, show bitsL 4 = [2] from rfl, show bitsL 8 = [3] from rfl]
  rw [stepE _ _ _ (w0)]
  rw [stepO _ _ _ (wst _ _ _ _ (w0))]
  rfl

theorem e77_17 (M : List (List Int)) (r : Nat) (nl : Bool) (h5 : M.length ≤ 5) (hr : r + 2 ≤ M.length) (hM : ∀ R ∈ M, 4 < R.length) : PureOK Tryd.prog 77 [matD M nl, iD (r : Int), iD 17] (iD (lapW (M.drop r) [0, 4])) := by
  have hR : 4 < (M.getD r []).length := hM _ (by rw [List.getD_eq_getElem?_getD, List.getElem?_eq_getElem (by omega), Option.getD_some]; exact List.getElem_mem _)
  have res := u77_17 (okS (sh77 tD)) tD (M.map rowD) M.length nl (r : Int)
  rw [show IntKind.wrap .i64 ((r : Int) + 1) = ((r + 1 : Nat) : Int) by rw [wrap64_o (by omega) (by omega)]; omega] at res
  refine walk (fs := [77]) (shape := sh77 tD) (by kernel_rfl : tget aeF 77 = some Tryd.f77) (res.trans ?_)
  refine (inR_at (j := r) rfl (by omega)).trans ?_
  refine (getS_row (by omega)).trans ?_
  refine (cond_is rfl).trans ?_
  refine (inR_at (j := 0) rfl (by omega)).trans ?_
  refine (getI_at (by omega)).trans ?_
  refine (cond_is (g77 (cs := [4]) rfl (e77_16 M (r + 1) nl h5 (by omega) (fun R q => by have := hM R q; omega)))).trans ?_
  refine (inR_at (j := r) rfl (by omega)).trans ?_
  refine (getS_row (by omega)).trans ?_
  refine (cond_is rfl).trans ?_
  refine (inR_at (j := 4) rfl (by omega)).trans ?_
  refine (getI_at (by omega)).trans ?_
  refine (cond_is (g77 (cs := [0]) rfl (e77_1 M (r + 1) nl h5 (by omega) (fun R q => by have := hM R q; omega)))).trans ?_
  rw [drop_at (by omega)]
  simp only [tD_at, show bitsL 1 = [0] from rfl, show bitsL 16 = [4] from rfl]
  rw [stepE _ _ _ (w0)]
  rw [stepO _ _ _ (wst _ _ _ _ (w0))]
  rfl

theorem e77_18 (M : List (List Int)) (r : Nat) (nl : Bool) (h5 : M.length ≤ 5) (hr : r + 2 ≤ M.length) (hM : ∀ R ∈ M, 4 < R.length) : PureOK Tryd.prog 77 [matD M nl, iD (r : Int), iD 18] (iD (lapW (M.drop r) [1, 4])) := by
  have hR : 4 < (M.getD r []).length := hM _ (by rw [List.getD_eq_getElem?_getD, List.getElem?_eq_getElem (by omega), Option.getD_some]; exact List.getElem_mem _)
  have res := u77_18 (okS (sh77 tD)) tD (M.map rowD) M.length nl (r : Int)
  rw [show IntKind.wrap .i64 ((r : Int) + 1) = ((r + 1 : Nat) : Int) by rw [wrap64_o (by omega) (by omega)]; omega] at res
  refine walk (fs := [77]) (shape := sh77 tD) (by kernel_rfl : tget aeF 77 = some Tryd.f77) (res.trans ?_)
  refine (inR_at (j := r) rfl (by omega)).trans ?_
  refine (getS_row (by omega)).trans ?_
  refine (cond_is rfl).trans ?_
  refine (inR_at (j := 1) rfl (by omega)).trans ?_
  refine (getI_at (by omega)).trans ?_
  refine (cond_is (g77 (cs := [4]) rfl (e77_16 M (r + 1) nl h5 (by omega) (fun R q => by have := hM R q; omega)))).trans ?_
  refine (inR_at (j := r) rfl (by omega)).trans ?_
  refine (getS_row (by omega)).trans ?_
  refine (cond_is rfl).trans ?_
  refine (inR_at (j := 4) rfl (by omega)).trans ?_
  refine (getI_at (by omega)).trans ?_
  refine (cond_is (g77 (cs := [1]) rfl (e77_2 M (r + 1) nl h5 (by omega) (fun R q => by have := hM R q; omega)))).trans ?_
  rw [drop_at (by omega)]
  simp only [tD_at, show bitsL 2 = [1] from rfl, show bitsL 16 = [4] from rfl]
  rw [stepE _ _ _ (w0)]
  rw [stepO _ _ _ (wst _ _ _ _ (w0))]
  rfl

theorem e77_20 (M : List (List Int)) (r : Nat) (nl : Bool) (h5 : M.length ≤ 5) (hr : r + 2 ≤ M.length) (hM : ∀ R ∈ M, 4 < R.length) : PureOK Tryd.prog 77 [matD M nl, iD (r : Int), iD 20] (iD (lapW (M.drop r) [2, 4])) := by
  have hR : 4 < (M.getD r []).length := hM _ (by rw [List.getD_eq_getElem?_getD, List.getElem?_eq_getElem (by omega), Option.getD_some]; exact List.getElem_mem _)
  have res := u77_20 (okS (sh77 tD)) tD (M.map rowD) M.length nl (r : Int)
  rw [show IntKind.wrap .i64 ((r : Int) + 1) = ((r + 1 : Nat) : Int) by rw [wrap64_o (by omega) (by omega)]; omega] at res
  refine walk (fs := [77]) (shape := sh77 tD) (by kernel_rfl : tget aeF 77 = some Tryd.f77) (res.trans ?_)
  refine (inR_at (j := r) rfl (by omega)).trans ?_
  refine (getS_row (by omega)).trans ?_
  refine (cond_is rfl).trans ?_
  refine (inR_at (j := 2) rfl (by omega)).trans ?_
  refine (getI_at (by omega)).trans ?_
  refine (cond_is (g77 (cs := [4]) rfl (e77_16 M (r + 1) nl h5 (by omega) (fun R q => by have := hM R q; omega)))).trans ?_
  refine (inR_at (j := r) rfl (by omega)).trans ?_
  refine (getS_row (by omega)).trans ?_
  refine (cond_is rfl).trans ?_
  refine (inR_at (j := 4) rfl (by omega)).trans ?_
  refine (getI_at (by omega)).trans ?_
  refine (cond_is (g77 (cs := [2]) rfl (e77_4 M (r + 1) nl h5 (by omega) (fun R q => by have := hM R q; omega)))).trans ?_
  rw [drop_at (by omega)]
  simp only [tD_at, show bitsL 4 = [2] from rfl, show bitsL 16 = [4] from rfl]
  rw [stepE _ _ _ (w0)]
  rw [stepO _ _ _ (wst _ _ _ _ (w0))]
  rfl

theorem e77_24 (M : List (List Int)) (r : Nat) (nl : Bool) (h5 : M.length ≤ 5) (hr : r + 2 ≤ M.length) (hM : ∀ R ∈ M, 4 < R.length) : PureOK Tryd.prog 77 [matD M nl, iD (r : Int), iD 24] (iD (lapW (M.drop r) [3, 4])) := by
  have hR : 4 < (M.getD r []).length := hM _ (by rw [List.getD_eq_getElem?_getD, List.getElem?_eq_getElem (by omega), Option.getD_some]; exact List.getElem_mem _)
  have res := u77_24 (okS (sh77 tD)) tD (M.map rowD) M.length nl (r : Int)
  rw [show IntKind.wrap .i64 ((r : Int) + 1) = ((r + 1 : Nat) : Int) by rw [wrap64_o (by omega) (by omega)]; omega] at res
  refine walk (fs := [77]) (shape := sh77 tD) (by kernel_rfl : tget aeF 77 = some Tryd.f77) (res.trans ?_)
  refine (inR_at (j := r) rfl (by omega)).trans ?_
  refine (getS_row (by omega)).trans ?_
  refine (cond_is rfl).trans ?_
  refine (inR_at (j := 3) rfl (by omega)).trans ?_
  refine (getI_at (by omega)).trans ?_
  refine (cond_is (g77 (cs := [4]) rfl (e77_16 M (r + 1) nl h5 (by omega) (fun R q => by have := hM R q; omega)))).trans ?_
  refine (inR_at (j := r) rfl (by omega)).trans ?_
  refine (getS_row (by omega)).trans ?_
  refine (cond_is rfl).trans ?_
  refine (inR_at (j := 4) rfl (by omega)).trans ?_
  refine (getI_at (by omega)).trans ?_
  refine (cond_is (g77 (cs := [3]) rfl (e77_8 M (r + 1) nl h5 (by omega) (fun R q => by have := hM R q; omega)))).trans ?_
  rw [drop_at (by omega)]
  simp only [tD_at, show bitsL 8 = [3] from rfl, show bitsL 16 = [4] from rfl]
  rw [stepE _ _ _ (w0)]
  rw [stepO _ _ _ (wst _ _ _ _ (w0))]
  rfl

theorem e77_7 (M : List (List Int)) (r : Nat) (nl : Bool) (h5 : M.length ≤ 5) (hr : r + 3 ≤ M.length) (hM : ∀ R ∈ M, 2 < R.length) : PureOK Tryd.prog 77 [matD M nl, iD (r : Int), iD 7] (iD (lapW (M.drop r) [0, 1, 2])) := by
  have hR : 2 < (M.getD r []).length := hM _ (by rw [List.getD_eq_getElem?_getD, List.getElem?_eq_getElem (by omega), Option.getD_some]; exact List.getElem_mem _)
  have res := u77_7 (okS (sh77 tD)) tD (M.map rowD) M.length nl (r : Int)
  rw [show IntKind.wrap .i64 ((r : Int) + 1) = ((r + 1 : Nat) : Int) by rw [wrap64_o (by omega) (by omega)]; omega] at res
  refine walk (fs := [77]) (shape := sh77 tD) (by kernel_rfl : tget aeF 77 = some Tryd.f77) (res.trans ?_)
  refine (inR_at (j := r) rfl (by omega)).trans ?_
  refine (getS_row (by omega)).trans ?_
  refine (cond_is rfl).trans ?_
  refine (inR_at (j := 0) rfl (by omega)).trans ?_
  refine (getI_at (by omega)).trans ?_
  refine (cond_is (g77 (cs := [1, 2]) rfl (e77_6 M (r + 1) nl h5 (by omega) (fun R q => by have := hM R q; omega)))).trans ?_
  refine (inR_at (j := r) rfl (by omega)).trans ?_
  refine (getS_row (by omega)).trans ?_
  refine (cond_is rfl).trans ?_
  refine (inR_at (j := 1) rfl (by omega)).trans ?_
  refine (getI_at (by omega)).trans ?_
  refine (cond_is (g77 (cs := [0, 2]) rfl (e77_5 M (r + 1) nl h5 (by omega) (fun R q => by have := hM R q; omega)))).trans ?_
  refine (inR_at (j := r) rfl (by omega)).trans ?_
  refine (getS_row (by omega)).trans ?_
  refine (cond_is rfl).trans ?_
  refine (inR_at (j := 2) rfl (by omega)).trans ?_
  refine (getI_at (by omega)).trans ?_
  refine (cond_is (g77 (cs := [0, 1]) rfl (e77_3 M (r + 1) nl h5 (by omega) (fun R q => by have := hM R q; omega)))).trans ?_
  rw [drop_at (by omega)]
  simp only [tD_at, show bitsL 3 = [0, 1] from rfl, show bitsL 5 = [0, 2] from rfl, show bitsL 6 = [1, 2] from rfl]
  rw [stepE _ _ _ (w0)]
  rw [stepO _ _ _ (wst _ _ _ _ (w0))]
  rw [stepE _ _ _ (wst _ _ _ _ (wst _ _ _ _ (w0)))]
  rfl

theorem e77_11 (M : List (List Int)) (r : Nat) (nl : Bool) (h5 : M.length ≤ 5) (hr : r + 3 ≤ M.length) (hM : ∀ R ∈ M, 3 < R.length) : PureOK Tryd.prog 77 [matD M nl, iD (r : Int), iD 11] (iD (lapW (M.drop r) [0, 1, 3])) := by
  have hR : 3 < (M.getD r []).length := hM _ (by rw [List.getD_eq_getElem?_getD, List.getElem?_eq_getElem (by omega), Option.getD_some]; exact List.getElem_mem _)
  have res := u77_11 (okS (sh77 tD)) tD (M.map rowD) M.length nl (r : Int)
  rw [show IntKind.wrap .i64 ((r : Int) + 1) = ((r + 1 : Nat) : Int) by rw [wrap64_o (by omega) (by omega)]; omega] at res
  refine walk (fs := [77]) (shape := sh77 tD) (by kernel_rfl : tget aeF 77 = some Tryd.f77) (res.trans ?_)
  refine (inR_at (j := r) rfl (by omega)).trans ?_
  refine (getS_row (by omega)).trans ?_
  refine (cond_is rfl).trans ?_
  refine (inR_at (j := 0) rfl (by omega)).trans ?_
  refine (getI_at (by omega)).trans ?_
  refine (cond_is (g77 (cs := [1, 3]) rfl (e77_10 M (r + 1) nl h5 (by omega) (fun R q => by have := hM R q; omega)))).trans ?_
  refine (inR_at (j := r) rfl (by omega)).trans ?_
  refine (getS_row (by omega)).trans ?_
  refine (cond_is rfl).trans ?_
  refine (inR_at (j := 1) rfl (by omega)).trans ?_
  refine (getI_at (by omega)).trans ?_
  refine (cond_is (g77 (cs := [0, 3]) rfl (e77_9 M (r + 1) nl h5 (by omega) (fun R q => by have := hM R q; omega)))).trans ?_
  refine (inR_at (j := r) rfl (by omega)).trans ?_
  refine (getS_row (by omega)).trans ?_
  refine (cond_is rfl).trans ?_
  refine (inR_at (j := 3) rfl (by omega)).trans ?_
  refine (getI_at (by omega)).trans ?_
  refine (cond_is (g77 (cs := [0, 1]) rfl (e77_3 M (r + 1) nl h5 (by omega) (fun R q => by have := hM R q; omega)))).trans ?_
  rw [drop_at (by omega)]
  simp only [tD_at, show bitsL 3 = [0, 1] from rfl, show bitsL 9 = [0, 3] from rfl, show bitsL 10 = [1, 3] from rfl]
  rw [stepE _ _ _ (w0)]
  rw [stepO _ _ _ (wst _ _ _ _ (w0))]
  rw [stepE _ _ _ (wst _ _ _ _ (wst _ _ _ _ (w0)))]
  rfl

theorem e77_13 (M : List (List Int)) (r : Nat) (nl : Bool) (h5 : M.length ≤ 5) (hr : r + 3 ≤ M.length) (hM : ∀ R ∈ M, 3 < R.length) : PureOK Tryd.prog 77 [matD M nl, iD (r : Int), iD 13] (iD (lapW (M.drop r) [0, 2, 3])) := by
  have hR : 3 < (M.getD r []).length := hM _ (by rw [List.getD_eq_getElem?_getD, List.getElem?_eq_getElem (by omega), Option.getD_some]; exact List.getElem_mem _)
  have res := u77_13 (okS (sh77 tD)) tD (M.map rowD) M.length nl (r : Int)
  rw [show IntKind.wrap .i64 ((r : Int) + 1) = ((r + 1 : Nat) : Int) by rw [wrap64_o (by omega) (by omega)]; omega] at res
  refine walk (fs := [77]) (shape := sh77 tD) (by kernel_rfl : tget aeF 77 = some Tryd.f77) (res.trans ?_)
  refine (inR_at (j := r) rfl (by omega)).trans ?_
  refine (getS_row (by omega)).trans ?_
  refine (cond_is rfl).trans ?_
  refine (inR_at (j := 0) rfl (by omega)).trans ?_
  refine (getI_at (by omega)).trans ?_
  refine (cond_is (g77 (cs := [2, 3]) rfl (e77_12 M (r + 1) nl h5 (by omega) (fun R q => by have := hM R q; omega)))).trans ?_
  refine (inR_at (j := r) rfl (by omega)).trans ?_
  refine (getS_row (by omega)).trans ?_
  refine (cond_is rfl).trans ?_
  refine (inR_at (j := 2) rfl (by omega)).trans ?_
  refine (getI_at (by omega)).trans ?_
  refine (cond_is (g77 (cs := [0, 3]) rfl (e77_9 M (r + 1) nl h5 (by omega) (fun R q => by have := hM R q; omega)))).trans ?_
  refine (inR_at (j := r) rfl (by omega)).trans ?_
  refine (getS_row (by omega)).trans ?_
  refine (cond_is rfl).trans ?_
  refine (inR_at (j := 3) rfl (by omega)).trans ?_
  refine (getI_at (by omega)).trans ?_
  refine (cond_is (g77 (cs := [0, 2]) rfl (e77_5 M (r + 1) nl h5 (by omega) (fun R q => by have := hM R q; omega)))).trans ?_
  rw [drop_at (by omega)]
  simp only [tD_at, show bitsL 5 = [0, 2] from rfl, show bitsL 9 = [0, 3] from rfl, show bitsL 12 = [2, 3] from rfl]
  rw [stepE _ _ _ (w0)]
  rw [stepO _ _ _ (wst _ _ _ _ (w0))]
  rw [stepE _ _ _ (wst _ _ _ _ (wst _ _ _ _ (w0)))]
  rfl

theorem e77_14 (M : List (List Int)) (r : Nat) (nl : Bool) (h5 : M.length ≤ 5) (hr : r + 3 ≤ M.length) (hM : ∀ R ∈ M, 3 < R.length) : PureOK Tryd.prog 77 [matD M nl, iD (r : Int), iD 14] (iD (lapW (M.drop r) [1, 2, 3])) := by
  have hR : 3 < (M.getD r []).length := hM _ (by rw [List.getD_eq_getElem?_getD, List.getElem?_eq_getElem (by omega), Option.getD_some]; exact List.getElem_mem _)
  have res := u77_14 (okS (sh77 tD)) tD (M.map rowD) M.length nl (r : Int)
  rw [show IntKind.wrap .i64 ((r : Int) + 1) = ((r + 1 : Nat) : Int) by rw [wrap64_o (by omega) (by omega)]; omega] at res
  refine walk (fs := [77]) (shape := sh77 tD) (by kernel_rfl : tget aeF 77 = some Tryd.f77) (res.trans ?_)
  refine (inR_at (j := r) rfl (by omega)).trans ?_
  refine (getS_row (by omega)).trans ?_
  refine (cond_is rfl).trans ?_
  refine (inR_at (j := 1) rfl (by omega)).trans ?_
  refine (getI_at (by omega)).trans ?_
  refine (cond_is (g77 (cs := [2, 3]) rfl (e77_12 M (r + 1) nl h5 (by omega) (fun R q => by have := hM R q; omega)))).trans ?_
  refine (inR_at (j := r) rfl (by omega)).trans ?_
  refine (getS_row (by omega)).trans ?_
  refine (cond_is rfl).trans ?_
  refine (inR_at (j := 2) rfl (by omega)).trans ?_
  refine (getI_at (by omega)).trans ?_
  refine (cond_is (g77 (cs := [1, 3]) rfl (e77_10 M (r + 1) nl h5 (by omega) (fun R q => by have := hM R q; omega)))).trans ?_
  refine (inR_at (j := r) rfl (by omega)).trans ?_
  refine (getS_row (by omega)).trans ?_
  refine (cond_is rfl).trans ?_
  refine (inR_at (j := 3) rfl (by omega)).trans ?_
  refine (getI_at (by omega)).trans ?_
  refine (cond_is (g77 (cs := [1, 2]) rfl (e77_6 M (r + 1) nl h5 (by omega) (fun R q => by have := hM R q; omega)))).trans ?_
  rw [drop_at (by omega)]
  simp only [tD_at, show bitsL 6 = [1, 2] from rfl, show bitsL 10 = [1, 3] from rfl, show bitsL 12 = [2, 3] from rfl]
  rw [stepE _ _ _ (w0)]
  rw [stepO _ _ _ (wst _ _ _ _ (w0))]
  rw [stepE _ _ _ (wst _ _ _ _ (wst _ _ _ _ (w0)))]
  rfl

theorem e77_19 (M : List (List Int)) (r : Nat) (nl : Bool) (h5 : M.length ≤ 5) (hr : r + 3 ≤ M.length) (hM : ∀ R ∈ M, 4 < R.length) : PureOK Tryd.prog 77 [matD M nl, iD (r : Int), iD 19] (iD (lapW (M.drop r) [0, 1, 4])) := by
  have hR : 4 < (M.getD r []).length := hM _ (by rw [List.getD_eq_getElem?_getD, List.getElem?_eq_getElem (by omega), Option.getD_some]; exact List.getElem_mem _)
  have res := u77_19 (okS (sh77 tD)) tD (M.map rowD) M.length nl (r : Int)
  rw [show IntKind.wrap .i64 ((r : Int) + 1) = ((r + 1 : Nat) : Int) by rw [wrap64_o (by omega) (by omega)]; omega] at res
  refine walk (fs := [77]) (shape := sh77 tD) (by kernel_rfl : tget aeF 77 = some Tryd.f77) (res.trans ?_)
  refine (inR_at (j := r) rfl (by omega)).trans ?_
  refine (getS_row (by omega)).trans ?_
  refine (cond_is rfl).trans ?_
  refine (inR_at (j := 0) rfl (by omega)).trans ?_
  refine (getI_at (by omega)).trans ?_
  refine (cond_is (g77 (cs := [1, 4]) rfl (e77_18 M (r + 1) nl h5 (by omega) (fun R q => by have := hM R q; omega)))).trans ?_
  refine (inR_at (j := r) rfl (by omega)).trans ?_
  refine (getS_row (by omega)).trans ?_
  refine (cond_is rfl).trans ?_
  refine (inR_at (j := 1) rfl (by omega)).trans ?_
  refine (getI_at (by omega)).trans ?_
  refine (cond_is (g77 (cs := [0, 4]) rfl (e77_17 M (r + 1) nl h5 (by omega) (fun R q => by have := hM R q; omega)))).trans ?_
  refine (inR_at (j := r) rfl (by omega)).trans ?_
  refine (getS_row (by omega)).trans ?_
  refine (cond_is rfl).trans ?_
  refine (inR_at (j := 4) rfl (by omega)).trans ?_
  refine (getI_at (by omega)).trans ?_
  refine (cond_is (g77 (cs := [0, 1]) rfl (e77_3 M (r + 1) nl h5 (by omega) (fun R q => by have := hM R q; omega)))).trans ?_
  rw [drop_at (by omega)]
  simp only [tD_at, show bitsL 3 = [0, 1] from rfl, show bitsL 17 = [0, 4] from rfl, show bitsL 18 = [1, 4] from rfl]
  rw [stepE _ _ _ (w0)]
  rw [stepO _ _ _ (wst _ _ _ _ (w0))]
  rw [stepE _ _ _ (wst _ _ _ _ (wst _ _ _ _ (w0)))]
  rfl

theorem e77_21 (M : List (List Int)) (r : Nat) (nl : Bool) (h5 : M.length ≤ 5) (hr : r + 3 ≤ M.length) (hM : ∀ R ∈ M, 4 < R.length) : PureOK Tryd.prog 77 [matD M nl, iD (r : Int), iD 21] (iD (lapW (M.drop r) [0, 2, 4])) := by
  have hR : 4 < (M.getD r []).length := hM _ (by rw [List.getD_eq_getElem?_getD, List.getElem?_eq_getElem (by omega), Option.getD_some]; exact List.getElem_mem _)
  have res := u77_21 (okS (sh77 tD)) tD (M.map rowD) M.length nl (r : Int)
  rw [show IntKind.wrap .i64 ((r : Int) + 1) = ((r + 1 : Nat) : Int) by rw [wrap64_o (by omega) (by omega)]; omega] at res
  refine walk (fs := [77]) (shape := sh77 tD) (by kernel_rfl : tget aeF 77 = some Tryd.f77) (res.trans ?_)
  refine (inR_at (j := r) rfl (by omega)).trans ?_
  refine (getS_row (by omega)).trans ?_
  refine (cond_is rfl).trans ?_
  refine (inR_at (j := 0) rfl (by omega)).trans ?_
  refine (getI_at (by omega)).trans ?_
  refine (cond_is (g77 (cs := [2, 4]) rfl (e77_20 M (r + 1) nl h5 (by omega) (fun R q => by have := hM R q; omega)))).trans ?_
  refine (inR_at (j := r) rfl (by omega)).trans ?_
  refine (getS_row (by omega)).trans ?_
  refine (cond_is rfl).trans ?_
  refine (inR_at (j := 2) rfl (by omega)).trans ?_
  refine (getI_at (by omega)).trans ?_
  refine (cond_is (g77 (cs := [0, 4]) rfl (e77_17 M (r + 1) nl h5 (by omega) (fun R q => by have := hM R q; omega)))).trans ?_
  refine (inR_at (j := r) rfl (by omega)).trans ?_
  refine (getS_row (by omega)).trans ?_
  refine (cond_is rfl).trans ?_
  refine (inR_at (j := 4) rfl (by omega)).trans ?_
  refine (getI_at (by omega)).trans ?_
  refine (cond_is (g77 (cs := [0, 2]) rfl (e77_5 M (r + 1) nl h5 (by omega) (fun R q => by have := hM R q; omega)))).trans ?_
  rw [drop_at (by omega)]
  simp only [tD_at, show bitsL 5 = [0, 2] from rfl, show bitsL 17 = [0, 4] from rfl, show bitsL 20 = [2, 4] from rfl]
  rw [stepE _ _ _ (w0)]
  rw [stepO _ _ _ (wst _ _ _ _ (w0))]
  rw [stepE _ _ _ (wst _ _ _ _ (wst _ _ _ _ (w0)))]
  rfl

theorem e77_22 (M : List (List Int)) (r : Nat) (nl : Bool) (h5 : M.length ≤ 5) (hr : r + 3 ≤ M.length) (hM : ∀ R ∈ M, 4 < R.length) : PureOK Tryd.prog 77 [matD M nl, iD (r : Int), iD 22] (iD (lapW (M.drop r) [1, 2, 4])) := by
  have hR : 4 < (M.getD r []).length := hM _ (by rw [List.getD_eq_getElem?_getD, List.getElem?_eq_getElem (by omega), Option.getD_some]; exact List.getElem_mem _)
  have res := u77_22 (okS (sh77 tD)) tD (M.map rowD) M.length nl (r : Int)
  rw [show IntKind.wrap .i64 ((r : Int) + 1) = ((r + 1 : Nat) : Int) by rw [wrap64_o (by omega) (by omega)]; omega] at res
  refine walk (fs := [77]) (shape := sh77 tD) (by kernel_rfl : tget aeF 77 = some Tryd.f77) (res.trans ?_)
  refine (inR_at (j := r) rfl (by omega)).trans ?_
  refine (getS_row (by omega)).trans ?_
  refine (cond_is rfl).trans ?_
  refine (inR_at (j := 1) rfl (by omega)).trans ?_
  refine (getI_at (by omega)).trans ?_
  refine (cond_is (g77 (cs := [2, 4]) rfl (e77_20 M (r + 1) nl h5 (by omega) (fun R q => by have := hM R q; omega)))).trans ?_
  refine (inR_at (j := r) rfl (by omega)).trans ?_
  refine (getS_row (by omega)).trans ?_
  refine (cond_is rfl).trans ?_
  refine (inR_at (j := 2) rfl (by omega)).trans ?_
  refine (getI_at (by omega)).trans ?_
  refine (cond_is (g77 (cs := [1, 4]) rfl (e77_18 M (r + 1) nl h5 (by omega) (fun R q => by have := hM R q; omega)))).trans ?_
  refine (inR_at (j := r) rfl (by omega)).trans ?_
  refine (getS_row (by omega)).trans ?_
  refine (cond_is rfl).trans ?_
  refine (inR_at (j := 4) rfl (by omega)).trans ?_
  refine (getI_at (by omega)).trans ?_
  refine (cond_is (g77 (cs := [1, 2]) rfl (e77_6 M (r + 1) nl h5 (by omega) (fun R q => by have := hM R q; omega)))).trans ?_
  rw [drop_at (by omega)]
  simp only [tD_at, show bitsL 6 = [1, 2] from rfl, show bitsL 18 = [1, 4] from rfl, show bitsL 20 = [2, 4] from rfl]
  rw [stepE _ _ _ (w0)]
  rw [stepO _ _ _ (wst _ _ _ _ (w0))]
  rw [stepE _ _ _ (wst _ _ _ _ (wst _ _ _ _ (w0)))]
  rfl

theorem e77_25 (M : List (List Int)) (r : Nat) (nl : Bool) (h5 : M.length ≤ 5) (hr : r + 3 ≤ M.length) (hM : ∀ R ∈ M, 4 < R.length) : PureOK Tryd.prog 77 [matD M nl, iD (r : Int), iD 25] (iD (lapW (M.drop r) [0, 3, 4])) := by
  have hR : 4 < (M.getD r []).length := hM _ (by rw [List.getD_eq_getElem?_getD, List.getElem?_eq_getElem (by omega), Option.getD_some]; exact List.getElem_mem _)
  have res := u77_25 (okS (sh77 tD)) tD (M.map rowD) M.length nl (r : Int)
  rw [show IntKind.wrap .i64 ((r : Int) + 1) = ((r + 1 : Nat) : Int) by rw [wrap64_o (by omega) (by omega)]; omega] at res
  refine walk (fs := [77]) (shape := sh77 tD) (by kernel_rfl : tget aeF 77 = some Tryd.f77) (res.trans ?_)
  refine (inR_at (j := r) rfl (by omega)).trans ?_
  refine (getS_row (by omega)).trans ?_
  refine (cond_is rfl).trans ?_
  refine (inR_at (j := 0) rfl (by omega)).trans ?_
  refine (getI_at (by omega)).trans ?_
  refine (cond_is (g77 (cs := [3, 4]) rfl (e77_24 M (r + 1) nl h5 (by omega) (fun R q => by have := hM R q; omega)))).trans ?_
  refine (inR_at (j := r) rfl (by omega)).trans ?_
  refine (getS_row (by omega)).trans ?_
  refine (cond_is rfl).trans ?_
  refine (inR_at (j := 3) rfl (by omega)).trans ?_
  refine (getI_at (by omega)).trans ?_
  refine (cond_is (g77 (cs := [0, 4]) rfl (e77_17 M (r + 1) nl h5 (by omega) (fun R q => by have := hM R q; omega)))).trans ?_
  refine (inR_at (j := r) rfl (by omega)).trans ?_
  refine (getS_row (by omega)).trans ?_
  refine (cond_is rfl).trans ?_
  refine (inR_at (j := 4) rfl (by omega)).trans ?_
  refine (getI_at (by omega)).trans ?_
  refine (cond_is (g77 (cs := [0, 3]) rfl (e77_9 M (r + 1) nl h5 (by omega) (fun R q => by have := hM R q; omega)))).trans ?_
  rw [drop_at (by omega)]
  simp only [tD_at, show bitsL 9 = [0, 3] from rfl, show bitsL 17 = [0, 4] from rfl, show bitsL 24 = [3, 4] from rfl]
  rw [stepE _ _ _ (w0)]
  rw [stepO _ _ _ (wst _ _ _ _ (w0))]
  rw [stepE _ _ _ (wst _ _ _ _ (wst _ _ _ _ (w0)))]
  rfl

theorem e77_26 (M : List (List Int)) (r : Nat) (nl : Bool) (h5 : M.length ≤ 5) (hr : r + 3 ≤ M.length) (hM : ∀ R ∈ M, 4 < R.length) : PureOK Tryd.prog 77 [matD M nl, iD (r : Int), iD 26] (iD (lapW (M.drop r) [1, 3, 4])) := by
  have hR : 4 < (M.getD r []).length := hM _ (by rw [List.getD_eq_getElem?_getD, List.getElem?_eq_getElem (by omega), Option.getD_some]; exact List.getElem_mem _)
  have res := u77_26 (okS (sh77 tD)) tD (M.map rowD) M.length nl (r : Int)
  rw [show IntKind.wrap .i64 ((r : Int) + 1) = ((r + 1 : Nat) : Int) by rw [wrap64_o (by omega) (by omega)]; omega] at res
  refine walk (fs := [77]) (shape := sh77 tD) (by kernel_rfl : tget aeF 77 = some Tryd.f77) (res.trans ?_)
  refine (inR_at (j := r) rfl (by omega)).trans ?_
  refine (getS_row (by omega)).trans ?_
  refine (cond_is rfl).trans ?_
  refine (inR_at (j := 1) rfl (by omega)).trans ?_
  refine (getI_at (by omega)).trans ?_
  refine (cond_is (g77 (cs := [3, 4]) rfl (e77_24 M (r + 1) nl h5 (by omega) (fun R q => by have := hM R q; omega)))).trans ?_
  refine (inR_at (j := r) rfl (by omega)).trans ?_
  refine (getS_row (by omega)).trans ?_
  refine (cond_is rfl).trans ?_
  refine (inR_at (j := 3) rfl (by omega)).trans ?_
  refine (getI_at (by omega)).trans ?_
  refine (cond_is (g77 (cs := [1, 4]) rfl (e77_18 M (r + 1) nl h5 (by omega) (fun R q => by have := hM R q; omega)))).trans ?_
  refine (inR_at (j := r) rfl (by omega)).trans ?_
  refine (getS_row (by omega)).trans ?_
  refine (cond_is rfl).trans ?_
  refine (inR_at (j := 4) rfl (by omega)).trans ?_
  refine (getI_at (by omega)).trans ?_
  refine (cond_is (g77 (cs := [1, 3]) rfl (e77_10 M (r + 1) nl h5 (by omega) (fun R q => by have := hM R q; omega)))).trans ?_
  rw [drop_at (by omega)]
  simp only [tD_at, show bitsL 10 = [1, 3] from rfl, show bitsL 18 = [1, 4] from rfl, show bitsL 24 = [3, 4] from rfl]
  rw [stepE _ _ _ (w0)]
  rw [stepO _ _ _ (wst _ _ _ _ (w0))]
  rw [stepE _ _ _ (wst _ _ _ _ (wst _ _ _ _ (w0)))]
  rfl

theorem e77_28 (M : List (List Int)) (r : Nat) (nl : Bool) (h5 : M.length ≤ 5) (hr : r + 3 ≤ M.length) (hM : ∀ R ∈ M, 4 < R.length) : PureOK Tryd.prog 77 [matD M nl, iD (r : Int), iD 28] (iD (lapW (M.drop r) [2, 3, 4])) := by
  have hR : 4 < (M.getD r []).length := hM _ (by rw [List.getD_eq_getElem?_getD, List.getElem?_eq_getElem (by omega), Option.getD_some]; exact List.getElem_mem _)
  have res := u77_28 (okS (sh77 tD)) tD (M.map rowD) M.length nl (r : Int)
  rw [show IntKind.wrap .i64 ((r : Int) + 1) = ((r + 1 : Nat) : Int) by rw [wrap64_o (by omega) (by omega)]; omega] at res
  refine walk (fs := [77]) (shape := sh77 tD) (by kernel_rfl : tget aeF 77 = some Tryd.f77) (res.trans ?_)
  refine (inR_at (j := r) rfl (by omega)).trans ?_
  refine (getS_row (by omega)).trans ?_
  refine (cond_is rfl).trans ?_
  refine (inR_at (j := 2) rfl (by omega)).trans ?_
  refine (getI_at (by omega)).trans ?_
  refine (cond_is (g77 (cs := [3, 4]) rfl (e77_24 M (r + 1) nl h5 (by omega) (fun R q => by have := hM R q; omega)))).trans ?_
  refine (inR_at (j := r) rfl (by omega)).trans ?_
  refine (getS_row (by omega)).trans ?_
  refine (cond_is rfl).trans ?_
  refine (inR_at (j := 3) rfl (by omega)).trans ?_
  refine (getI_at (by omega)).trans ?_
  refine (cond_is (g77 (cs := [2, 4]) rfl (e77_20 M (r + 1) nl h5 (by omega) (fun R q => by have := hM R q; omega)))).trans ?_
  refine (inR_at (j := r) rfl (by omega)).trans ?_
  refine (getS_row (by omega)).trans ?_
  refine (cond_is rfl).trans ?_
  refine (inR_at (j := 4) rfl (by omega)).trans ?_
  refine (getI_at (by omega)).trans ?_
  refine (cond_is (g77 (cs := [2, 3]) rfl (e77_12 M (r + 1) nl h5 (by omega) (fun R q => by have := hM R q; omega)))).trans ?_
  rw [drop_at (by omega)]
  simp only [tD_at, show bitsL 12 = [2, 3] from rfl, show bitsL 20 = [2, 4] from rfl, show bitsL 24 = [3, 4] from rfl]
  rw [stepE _ _ _ (w0)]
  rw [stepO _ _ _ (wst _ _ _ _ (w0))]
  rw [stepE _ _ _ (wst _ _ _ _ (wst _ _ _ _ (w0)))]
  rfl

theorem e77_15 (M : List (List Int)) (r : Nat) (nl : Bool) (h5 : M.length ≤ 5) (hr : r + 4 ≤ M.length) (hM : ∀ R ∈ M, 3 < R.length) : PureOK Tryd.prog 77 [matD M nl, iD (r : Int), iD 15] (iD (lapW (M.drop r) [0, 1, 2, 3])) := by
  have hR : 3 < (M.getD r []).length := hM _ (by rw [List.getD_eq_getElem?_getD, List.getElem?_eq_getElem (by omega), Option.getD_some]; exact List.getElem_mem _)
  have res := u77_15 (okS (sh77 tD)) tD (M.map rowD) M.length nl (r : Int)
  rw [show IntKind.wrap .i64 ((r : Int) + 1) = ((r + 1 : Nat) : Int) by rw [wrap64_o (by omega) (by omega)]; omega] at res
  refine walk (fs := [77]) (shape := sh77 tD) (by kernel_rfl : tget aeF 77 = some Tryd.f77) (res.trans ?_)
  refine (inR_at (j := r) rfl (by omega)).trans ?_
  refine (getS_row (by omega)).trans ?_
  refine (cond_is rfl).trans ?_
  refine (inR_at (j := 0) rfl (by omega)).trans ?_
  refine (getI_at (by omega)).trans ?_
  refine (cond_is (g77 (cs := [1, 2, 3]) rfl (e77_14 M (r + 1) nl h5 (by omega) (fun R q => by have := hM R q; omega)))).trans ?_
  refine (inR_at (j := r) rfl (by omega)).trans ?_
  refine (getS_row (by omega)).trans ?_
  refine (cond_is rfl).trans ?_
  refine (inR_at (j := 1) rfl (by omega)).trans ?_
  refine (getI_at (by omega)).trans ?_
  refine (cond_is (g77 (cs := [0, 2, 3]) rfl (e77_13 M (r + 1) nl h5 (by omega) (fun R q => by have := hM R q; omega)))).trans ?_
  refine (inR_at (j := r) rfl (by omega)).trans ?_
  refine (getS_row (by omega)).trans ?_
  refine (cond_is rfl).trans ?_
  refine (inR_at (j := 2) rfl (by omega)).trans ?_
  refine (getI_at (by omega)).trans ?_
  refine (cond_is (g77 (cs := [0, 1, 3]) rfl (e77_11 M (r + 1) nl h5 (by omega) (fun R q => by have := hM R q; omega)))).trans ?_
  refine (inR_at (j := r) rfl (by omega)).trans ?_
  refine (getS_row (by omega)).trans ?_
  refine (cond_is rfl).trans ?_
  refine (inR_at (j := 3) rfl (by omega)).trans ?_
  refine (getI_at (by omega)).trans ?_
  refine (cond_is (g77 (cs := [0, 1, 2]) rfl (e77_7 M (r + 1) nl h5 (by omega) (fun R q => by have := hM R q; omega)))).trans ?_
  rw [drop_at (by omega)]
  simp only [tD_at, show bitsL 7 = [0, 1, 2] from rfl, show bitsL 11 = [0, 1, 3] from rfl, show bitsL 13 = [0, 2, 3] from rfl, show bitsL 14 = [1, 2, 3] from rfl]
  rw [stepE _ _ _ (w0)]
  rw [stepO _ _ _ (wst _ _ _ _ (w0))]
  rw [stepE _ _ _ (wst _ _ _ _ (wst _ _ _ _ (w0)))]
  rw [stepO _ _ _ (wst _ _ _ _ (wst _ _ _ _ (wst _ _ _ _ (w0))))]
  rfl

theorem e77_23 (M : List (List Int)) (r : Nat) (nl : Bool) (h5 : M.length ≤ 5) (hr : r + 4 ≤ M.length) (hM : ∀ R ∈ M, 4 < R.length) : PureOK Tryd.prog 77 [matD M nl, iD (r : Int), iD 23] (iD (lapW (M.drop r) [0, 1, 2, 4])) := by
  have hR : 4 < (M.getD r []).length := hM _ (by rw [List.getD_eq_getElem?_getD, List.getElem?_eq_getElem (by omega), Option.getD_some]; exact List.getElem_mem _)
  have res := u77_23 (okS (sh77 tD)) tD (M.map rowD) M.length nl (r : Int)
  rw [show IntKind.wrap .i64 ((r : Int) + 1) = ((r + 1 : Nat) : Int) by rw [wrap64_o (by omega) (by omega)]; omega] at res
  refine walk (fs := [77]) (shape := sh77 tD) (by kernel_rfl : tget aeF 77 = some Tryd.f77) (res.trans ?_)
  refine (inR_at (j := r) rfl (by omega)).trans ?_
  refine (getS_row (by omega)).trans ?_
  refine (cond_is rfl).trans ?_
  refine (inR_at (j := 0) rfl (by omega)).trans ?_
  refine (getI_at (by omega)).trans ?_
  refine (cond_is (g77 (cs := [1, 2, 4]) rfl (e77_22 M (r + 1) nl h5 (by omega) (fun R q => by have := hM R q; omega)))).trans ?_
  refine (inR_at (j := r) rfl (by omega)).trans ?_
  refine (getS_row (by omega)).trans ?_
  refine (cond_is rfl).trans ?_
  refine (inR_at (j := 1) rfl (by omega)).trans ?_
  refine (getI_at (by omega)).trans ?_
  refine (cond_is (g77 (cs := [0, 2, 4]) rfl (e77_21 M (r + 1) nl h5 (by omega) (fun R q => by have := hM R q; omega)))).trans ?_
  refine (inR_at (j := r) rfl (by omega)).trans ?_
  refine (getS_row (by omega)).trans ?_
  refine (cond_is rfl).trans ?_
  refine (inR_at (j := 2) rfl (by omega)).trans ?_
  refine (getI_at (by omega)).trans ?_
  refine (cond_is (g77 (cs := [0, 1, 4]) rfl (e77_19 M (r + 1) nl h5 (by omega) (fun R q => by have := hM R q; omega)))).trans ?_
  refine (inR_at (j := r) rfl (by omega)).trans ?_
  refine (getS_row (by omega)).trans ?_
  refine (cond_is rfl).trans ?_
  refine (inR_at (j := 4) rfl (by omega)).trans ?_
  refine (getI_at (by omega)).trans ?_
  refine (cond_is (g77 (cs := [0, 1, 2]) rfl (e77_7 M (r + 1) nl h5 (by omega) (fun R q => by have := hM R q; omega)))).trans ?_
  rw [drop_at (by omega)]
  simp only [tD_at, show bitsL 7 = [0, 1, 2] from rfl, show bitsL 19 = [0, 1, 4] from rfl, show bitsL 21 = [0, 2, 4] from rfl, show bitsL 22 = [1, 2, 4] from rfl]
  rw [stepE _ _ _ (w0)]
  rw [stepO _ _ _ (wst _ _ _ _ (w0))]
  rw [stepE _ _ _ (wst _ _ _ _ (wst _ _ _ _ (w0)))]
  rw [stepO _ _ _ (wst _ _ _ _ (wst _ _ _ _ (wst _ _ _ _ (w0))))]
  rfl

theorem e77_27 (M : List (List Int)) (r : Nat) (nl : Bool) (h5 : M.length ≤ 5) (hr : r + 4 ≤ M.length) (hM : ∀ R ∈ M, 4 < R.length) : PureOK Tryd.prog 77 [matD M nl, iD (r : Int), iD 27] (iD (lapW (M.drop r) [0, 1, 3, 4])) := by
  have hR : 4 < (M.getD r []).length := hM _ (by rw [List.getD_eq_getElem?_getD, List.getElem?_eq_getElem (by omega), Option.getD_some]; exact List.getElem_mem _)
  have res := u77_27 (okS (sh77 tD)) tD (M.map rowD) M.length nl (r : Int)
  rw [show IntKind.wrap .i64 ((r : Int) + 1) = ((r + 1 : Nat) : Int) by rw [wrap64_o (by omega) (by omega)]; omega] at res
  refine walk (fs := [77]) (shape := sh77 tD) (by kernel_rfl : tget aeF 77 = some Tryd.f77) (res.trans ?_)
  refine (inR_at (j := r) rfl (by omega)).trans ?_
  refine (getS_row (by omega)).trans ?_
  refine (cond_is rfl).trans ?_
  refine (inR_at (j := 0) rfl (by omega)).trans ?_
  refine (getI_at (by omega)).trans ?_
  refine (cond_is (g77 (cs := [1, 3, 4]) rfl (e77_26 M (r + 1) nl h5 (by omega) (fun R q => by have := hM R q; omega)))).trans ?_
  refine (inR_at (j := r) rfl (by omega)).trans ?_
  refine (getS_row (by omega)).trans ?_
  refine (cond_is rfl).trans ?_
  refine (inR_at (j := 1) rfl (by omega)).trans ?_
  refine (getI_at (by omega)).trans ?_
  refine (cond_is (g77 (cs := [0, 3, 4]) rfl (e77_25 M (r + 1) nl h5 (by omega) (fun R q => by have := hM R q; omega)))).trans ?_
  refine (inR_at (j := r) rfl (by omega)).trans ?_
  refine (getS_row (by omega)).trans ?_
  refine (cond_is rfl).trans ?_
  refine (inR_at (j := 3) rfl (by omega)).trans ?_
  refine (getI_at (by omega)).trans ?_
  refine (cond_is (g77 (cs := [0, 1, 4]) rfl (e77_19 M (r + 1) nl h5 (by omega) (fun R q => by have := hM R q; omega)))).trans ?_
  refine (inR_at (j := r) rfl (by omega)).trans ?_
  refine (getS_row (by omega)).trans ?_
  refine (cond_is rfl).trans ?_
  refine (inR_at (j := 4) rfl (by omega)).trans ?_
  refine (getI_at (by omega)).trans ?_
  refine (cond_is (g77 (cs := [0, 1, 3]) rfl (e77_11 M (r + 1) nl h5 (by omega) (fun R q => by have := hM R q; omega)))).trans ?_
  rw [drop_at (by omega)]
  simp only [tD_at, show bitsL 11 = [0, 1, 3] from rfl, show bitsL 19 = [0, 1, 4] from rfl, show bitsL 25 = [0, 3, 4] from rfl, show bitsL 26 = [1, 3, 4] from rfl]
  rw [stepE _ _ _ (w0)]
  rw [stepO _ _ _ (wst _ _ _ _ (w0))]
  rw [stepE _ _ _ (wst _ _ _ _ (wst _ _ _ _ (w0)))]
  rw [stepO _ _ _ (wst _ _ _ _ (wst _ _ _ _ (wst _ _ _ _ (w0))))]
  rfl

theorem e77_29 (M : List (List Int)) (r : Nat) (nl : Bool) (h5 : M.length ≤ 5) (hr : r + 4 ≤ M.length) (hM : ∀ R ∈ M, 4 < R.length) : PureOK Tryd.prog 77 [matD M nl, iD (r : Int), iD 29] (iD (lapW (M.drop r) [0, 2, 3, 4])) := by
  have hR : 4 < (M.getD r []).length := hM _ (by rw [List.getD_eq_getElem?_getD, List.getElem?_eq_getElem (by omega), Option.getD_some]; exact List.getElem_mem _)
  have res := u77_29 (okS (sh77 tD)) tD (M.map rowD) M.length nl (r : Int)
  rw [show IntKind.wrap .i64 ((r : Int) + 1) = ((r + 1 : Nat) : Int) by rw [wrap64_o (by omega) (by omega)]; omega] at res
  refine walk (fs := [77]) (shape := sh77 tD) (by kernel_rfl : tget aeF 77 = some Tryd.f77) (res.trans ?_)
  refine (inR_at (j := r) rfl (by omega)).trans ?_
  refine (getS_row (by omega)).trans ?_
  refine (cond_is rfl).trans ?_
  refine (inR_at (j := 0) rfl (by omega)).trans ?_
  refine (getI_at (by omega)).trans ?_
  refine (cond_is (g77 (cs := [2, 3, 4]) rfl (e77_28 M (r + 1) nl h5 (by omega) (fun R q => by have := hM R q; omega)))).trans ?_
  refine (inR_at (j := r) rfl (by omega)).trans ?_
  refine (getS_row (by omega)).trans ?_
  refine (cond_is rfl).trans ?_
  refine (inR_at (j := 2) rfl (by omega)).trans ?_
  refine (getI_at (by omega)).trans ?_
  refine (cond_is (g77 (cs := [0, 3, 4]) rfl (e77_25 M (r + 1) nl h5 (by omega) (fun R q => by have := hM R q; omega)))).trans ?_
  refine (inR_at (j := r) rfl (by omega)).trans ?_
  refine (getS_row (by omega)).trans ?_
  refine (cond_is rfl).trans ?_
  refine (inR_at (j := 3) rfl (by omega)).trans ?_
  refine (getI_at (by omega)).trans ?_
  refine (cond_is (g77 (cs := [0, 2, 4]) rfl (e77_21 M (r + 1) nl h5 (by omega) (fun R q => by have := hM R q; omega)))).trans ?_
  refine (inR_at (j := r) rfl (by omega)).trans ?_
  refine (getS_row (by omega)).trans ?_
  refine (cond_is rfl).trans ?_
  refine (inR_at (j := 4) rfl (by omega)).trans ?_
  refine (getI_at (by omega)).trans ?_
  refine (cond_is (g77 (cs := [0, 2, 3]) rfl (e77_13 M (r + 1) nl h5 (by omega) (fun R q => by have := hM R q; omega)))).trans ?_
  rw [drop_at (by omega)]
  simp only [tD_at, show bitsL 13 = [0, 2, 3] from rfl, show bitsL 21 = [0, 2, 4] from rfl, show bitsL 25 = [0, 3, 4] from rfl, show bitsL 28 = [2, 3, 4] from rfl]
  rw [stepE _ _ _ (w0)]
  rw [stepO _ _ _ (wst _ _ _ _ (w0))]
  rw [stepE _ _ _ (wst _ _ _ _ (wst _ _ _ _ (w0)))]
  rw [stepO _ _ _ (wst _ _ _ _ (wst _ _ _ _ (wst _ _ _ _ (w0))))]
  rfl

theorem e77_30 (M : List (List Int)) (r : Nat) (nl : Bool) (h5 : M.length ≤ 5) (hr : r + 4 ≤ M.length) (hM : ∀ R ∈ M, 4 < R.length) : PureOK Tryd.prog 77 [matD M nl, iD (r : Int), iD 30] (iD (lapW (M.drop r) [1, 2, 3, 4])) := by
  have hR : 4 < (M.getD r []).length := hM _ (by rw [List.getD_eq_getElem?_getD, List.getElem?_eq_getElem (by omega), Option.getD_some]; exact List.getElem_mem _)
  have res := u77_30 (okS (sh77 tD)) tD (M.map rowD) M.length nl (r : Int)
  rw [show IntKind.wrap .i64 ((r : Int) + 1) = ((r + 1 : Nat) : Int) by rw [wrap64_o (by omega) (by omega)]; omega] at res
  refine walk (fs := [77]) (shape := sh77 tD) (by kernel_rfl : tget aeF 77 = some Tryd.f77) (res.trans ?_)
  refine (inR_at (j := r) rfl (by omega)).trans ?_
  refine (getS_row (by omega)).trans ?_
  refine (cond_is rfl).trans ?_
  refine (inR_at (j := 1) rfl (by omega)).trans ?_
  refine (getI_at (by omega)).trans ?_
  refine (cond_is (g77 (cs := [2, 3, 4]) rfl (e77_28 M (r + 1) nl h5 (by omega) (fun R q => by have := hM R q; omega)))).trans ?_
  refine (inR_at (j := r) rfl (by omega)).trans ?_
  refine (getS_row (by omega)).trans ?_
  refine (cond_is rfl).trans ?_
  refine (inR_at (j := 2) rfl (by omega)).trans ?_
  refine (getI_at (by omega)).trans ?_
  refine (cond_is (g77 (cs := [1, 3, 4]) rfl (e77_26 M (r + 1) nl h5 (by omega) (fun R q => by have := hM R q; omega)))).trans ?_
  refine (inR_at (j := r) rfl (by omega)).trans ?_
  refine (getS_row (by omega)).trans ?_
  refine (cond_is rfl).trans ?_
  refine (inR_at (j := 3) rfl (by omega)).trans ?_
  refine (getI_at (by omega)).trans ?_
  refine (cond_is (g77 (cs := [1, 2, 4]) rfl (e77_22 M (r + 1) nl h5 (by omega) (fun R q => by have := hM R q; omega)))).trans ?_
  refine (inR_at (j := r) rfl (by omega)).trans ?_
  refine (getS_row (by omega)).trans ?_
  refine (cond_is rfl).trans ?_
  refine (inR_at (j := 4) rfl (by omega)).trans ?_
  refine (getI_at (by omega)).trans ?_
  refine (cond_is (g77 (cs := [1, 2, 3]) rfl (e77_14 M (r + 1) nl h5 (by omega) (fun R q => by have := hM R q; omega)))).trans ?_
  rw [drop_at (by omega)]
  simp only [tD_at, show bitsL 14 = [1, 2, 3] from rfl, show bitsL 22 = [1, 2, 4] from rfl, show bitsL 26 = [1, 3, 4] from rfl, show bitsL 28 = [2, 3, 4] from rfl]
  rw [stepE _ _ _ (w0)]
  rw [stepO _ _ _ (wst _ _ _ _ (w0))]
  rw [stepE _ _ _ (wst _ _ _ _ (wst _ _ _ _ (w0)))]
  rw [stepO _ _ _ (wst _ _ _ _ (wst _ _ _ _ (wst _ _ _ _ (w0))))]
  rfl

theorem e77_31 (M : List (List Int)) (r : Nat) (nl : Bool) (h5 : M.length ≤ 5) (hr : r + 5 ≤ M.length) (hM : ∀ R ∈ M, 4 < R.length) : PureOK Tryd.prog 77 [matD M nl, iD (r : Int), iD 31] (iD (lapW (M.drop r) [0, 1, 2, 3, 4])) := by
  have hR : 4 < (M.getD r []).length := hM _ (by rw [List.getD_eq_getElem?_getD, List.getElem?_eq_getElem (by omega), Option.getD_some]; exact List.getElem_mem _)
  have res := u77_31 (okS (sh77 tD)) tD (M.map rowD) M.length nl (r : Int)
  rw [show IntKind.wrap .i64 ((r : Int) + 1) = ((r + 1 : Nat) : Int) by rw [wrap64_o (by omega) (by omega)]; omega] at res
  refine walk (fs := [77]) (shape := sh77 tD) (by kernel_rfl : tget aeF 77 = some Tryd.f77) (res.trans ?_)
  refine (inR_at (j := r) rfl (by omega)).trans ?_
  refine (getS_row (by omega)).trans ?_
  refine (cond_is rfl).trans ?_
  refine (inR_at (j := 0) rfl (by omega)).trans ?_
  refine (getI_at (by omega)).trans ?_
  refine (cond_is (g77 (cs := [1, 2, 3, 4]) rfl (e77_30 M (r + 1) nl h5 (by omega) (fun R q => by have := hM R q; omega)))).trans ?_
  refine (inR_at (j := r) rfl (by omega)).trans ?_
  refine (getS_row (by omega)).trans ?_
  refine (cond_is rfl).trans ?_
  refine (inR_at (j := 1) rfl (by omega)).trans ?_
  refine (getI_at (by omega)).trans ?_
  refine (cond_is (g77 (cs := [0, 2, 3, 4]) rfl (e77_29 M (r + 1) nl h5 (by omega) (fun R q => by have := hM R q; omega)))).trans ?_
  refine (inR_at (j := r) rfl (by omega)).trans ?_
  refine (getS_row (by omega)).trans ?_
  refine (cond_is rfl).trans ?_
  refine (inR_at (j := 2) rfl (by omega)).trans ?_
  refine (getI_at (by omega)).trans ?_
  refine (cond_is (g77 (cs := [0, 1, 3, 4]) rfl (e77_27 M (r + 1) nl h5 (by omega) (fun R q => by have := hM R q; omega)))).trans ?_
  refine (inR_at (j := r) rfl (by omega)).trans ?_
  refine (getS_row (by omega)).trans ?_
  refine (cond_is rfl).trans ?_
  refine (inR_at (j := 3) rfl (by omega)).trans ?_
  refine (getI_at (by omega)).trans ?_
  refine (cond_is (g77 (cs := [0, 1, 2, 4]) rfl (e77_23 M (r + 1) nl h5 (by omega) (fun R q => by have := hM R q; omega)))).trans ?_
  refine (inR_at (j := r) rfl (by omega)).trans ?_
  refine (getS_row (by omega)).trans ?_
  refine (cond_is rfl).trans ?_
  refine (inR_at (j := 4) rfl (by omega)).trans ?_
  refine (getI_at (by omega)).trans ?_
  refine (cond_is (g77 (cs := [0, 1, 2, 3]) rfl (e77_15 M (r + 1) nl h5 (by omega) (fun R q => by have := hM R q; omega)))).trans ?_
  rw [drop_at (by omega)]
  simp only [tD_at, show bitsL 15 = [0, 1, 2, 3] from rfl, show bitsL 23 = [0, 1, 2, 4] from rfl, show bitsL 27 = [0, 1, 3, 4] from rfl, show bitsL 29 = [0, 2, 3, 4] from rfl, show bitsL 30 = [1, 2, 3, 4] from rfl]
  rw [stepE _ _ _ (w0)]
  rw [stepO _ _ _ (wst _ _ _ _ (w0))]
  rw [stepE _ _ _ (wst _ _ _ _ (wst _ _ _ _ (w0)))]
  rw [stepO _ _ _ (wst _ _ _ _ (wst _ _ _ _ (wst _ _ _ _ (w0))))]
  rw [stepE _ _ _ (wst _ _ _ _ (wst _ _ _ _ (wst _ _ _ _ (wst _ _ _ _ (w0)))))]
  rfl

end Go.Proofs.YtiicbenhhdbnoaaDoor

/- Chapter 09: minors, of the program and of the document. Written by wip/tools/genC1.py. -/
namespace Go.Proofs.YtiicbenhhdbnoaaDoor
open Go Go.AE
set_option maxRecDepth 100000

theorem u82_1 (T : TabD) (m0 : DV) : pureE aeC (ev92 T) 30 82 Tryd.f82 [.sl [m0] 1 1 false false] =
  bif TabD.ok T 0 (AV.grow 2 1 false) (AV.ref 1 0) (AV.ref 0 0) [.ac [AV.fn 92 [] [AV.ref 1 0, AV.ref 0 0]], .dc [DV.sl [m0] 1 1 false false], .dc [iD 0]] then
    some (iD (TabD.D T 0 [iD 0]))
  else
    none := by kernel_rfl

theorem u82_2 (T : TabD) (m0 m1 : DV) : pureE aeC (ev92 T) 30 82 Tryd.f82 [.sl [m0, m1] 2 1 false false] =
  bif TabD.ok T 0 (AV.grow 2 1 false) (AV.ref 1 0) (AV.ref 0 0) [.ac [AV.fn 92 [] [AV.ref 1 0, AV.ref 0 0]], .dc [DV.sl [m0, m1] 2 1 false false], .dc [iD 0, iD 1]] then
    some (iD (TabD.D T 0 [iD 0, iD 1]))
  else
    none := by kernel_rfl

theorem u82_3 (T : TabD) (m0 m1 m2 : DV) : pureE aeC (ev92 T) 30 82 Tryd.f82 [.sl [m0, m1, m2] 3 1 false false] =
  bif TabD.ok T 0 (AV.grow 2 1 false) (AV.ref 1 0) (AV.ref 0 0) [.ac [AV.fn 92 [] [AV.ref 1 0, AV.ref 0 0]], .dc [DV.sl [m0, m1, m2] 3 1 false false], .dc [iD 0, iD 1, iD 2]] then
    some (iD (TabD.D T 0 [iD 0, iD 1, iD 2]))
  else
    none := by kernel_rfl

theorem u82_4 (T : TabD) (m0 m1 m2 m3 : DV) : pureE aeC (ev92 T) 30 82 Tryd.f82 [.sl [m0, m1, m2, m3] 4 1 false false] =
  bif TabD.ok T 0 (AV.grow 2 1 false) (AV.ref 1 0) (AV.ref 0 0) [.ac [AV.fn 92 [] [AV.ref 1 0, AV.ref 0 0]], .dc [DV.sl [m0, m1, m2, m3] 4 1 false false], .dc [iD 0, iD 1, iD 2, iD 3]] then
    some (iD (TabD.D T 0 [iD 0, iD 1, iD 2, iD 3]))
  else
    none := by kernel_rfl

theorem u82_5 (T : TabD) (m0 m1 m2 m3 m4 : DV) : pureE aeC (ev92 T) 30 82 Tryd.f82 [.sl [m0, m1, m2, m3, m4] 5 1 false false] =
  bif TabD.ok T 0 (AV.grow 2 1 false) (AV.ref 1 0) (AV.ref 0 0) [.ac [AV.fn 92 [] [AV.ref 1 0, AV.ref 0 0]], .dc [DV.sl [m0, m1, m2, m3, m4] 5 1 false false], .dc [iD 0, iD 1, iD 2, iD 3, iD 4]] then
    some (iD (TabD.D T 0 [iD 0, iD 1, iD 2, iD 3, iD 4]))
  else
    none := by kernel_rfl

theorem det82_1 (r0 : List Int) (hl : r0.length = 1) : PureOK Tryd.prog 82 [.sl [.sl (ints r0) 1 1 false false] 1 1 false false] (iD (lapW [r0] [0])) := by
  refine ae_direct (ev92_ok [r0]) 30 (by kernel_rfl : tget aeF 82 = some Tryd.f82) ((u82_1 (tabD [r0]) (.sl (ints r0) 1 1 false false)).trans ?_)
  refine (cond_is (isP_iff.2 fun cs n s c nl e => ?_)).trans ?_
  · have e0 : some (DV.sl [iD 0] 1 1 false false) = some (DV.sl cs n s c nl) := e
    cases e0
    exact d92_0_1 r0 0 hl (by omega)
  · rfl

theorem det82_2 (r0 r1 : List Int) (hl : r0.length = 2 ∧ r1.length = 2) : PureOK Tryd.prog 82 [.sl [.sl (ints r0) 2 1 false false, .sl (ints r1) 2 1 false false] 2 1 false false] (iD (lapW [r0, r1] [0, 1])) := by
  refine ae_direct (ev92_ok [r0, r1]) 30 (by kernel_rfl : tget aeF 82 = some Tryd.f82) ((u82_2 (tabD [r0, r1]) (.sl (ints r0) 2 1 false false) (.sl (ints r1) 2 1 false false)).trans ?_)
  refine (cond_is (isP_iff.2 fun cs n s c nl e => ?_)).trans ?_
  · have e0 : some (DV.sl [iD 0, iD 1] 2 1 false false) = some (DV.sl cs n s c nl) := e
    cases e0
    exact d92_0_2 r0 r1 0 1 hl (by omega) (by omega)
  · rfl

theorem det82_3 (r0 r1 r2 : List Int) (hl : r0.length = 3 ∧ r1.length = 3 ∧ r2.length = 3) : PureOK Tryd.prog 82 [.sl [.sl (ints r0) 3 1 false false, .sl (ints r1) 3 1 false false, .sl (ints r2) 3 1 false false] 3 1 false false] (iD (lapW [r0, r1, r2] [0, 1, 2])) := by
  refine ae_direct (ev92_ok [r0, r1, r2]) 30 (by kernel_rfl : tget aeF 82 = some Tryd.f82) ((u82_3 (tabD [r0, r1, r2]) (.sl (ints r0) 3 1 false false) (.sl (ints r1) 3 1 false false) (.sl (ints r2) 3 1 false false)).trans ?_)
  refine (cond_is (isP_iff.2 fun cs n s c nl e => ?_)).trans ?_
  · have e0 : some (DV.sl [iD 0, iD 1, iD 2] 3 1 false false) = some (DV.sl cs n s c nl) := e
    cases e0
    exact d92_0_3 r0 r1 r2 0 1 2 hl (by omega) (by omega) (by omega)
  · rfl

theorem det82_4 (r0 r1 r2 r3 : List Int) (hl : r0.length = 4 ∧ r1.length = 4 ∧ r2.length = 4 ∧ r3.length = 4) : PureOK Tryd.prog 82 [.sl [.sl (ints r0) 4 1 false false, .sl (ints r1) 4 1 false false, .sl (ints r2) 4 1 false false, .sl (ints r3) 4 1 false false] 4 1 false false] (iD (lapW [r0, r1, r2, r3] [0, 1, 2, 3])) := by
  refine ae_direct (ev92_ok [r0, r1, r2, r3]) 30 (by kernel_rfl : tget aeF 82 = some Tryd.f82) ((u82_4 (tabD [r0, r1, r2, r3]) (.sl (ints r0) 4 1 false false) (.sl (ints r1) 4 1 false false) (.sl (ints r2) 4 1 false false) (.sl (ints r3) 4 1 false false)).trans ?_)
  refine (cond_is (isP_iff.2 fun cs n s c nl e => ?_)).trans ?_
  · have e0 : some (DV.sl [iD 0, iD 1, iD 2, iD 3] 4 1 false false) = some (DV.sl cs n s c nl) := e
    cases e0
    exact d92_0_4 r0 r1 r2 r3 0 1 2 3 hl (by omega) (by omega) (by omega) (by omega)
  · rfl

theorem det82_5 (r0 r1 r2 r3 r4 : List Int) (hl : r0.length = 5 ∧ r1.length = 5 ∧ r2.length = 5 ∧ r3.length = 5 ∧ r4.length = 5) : PureOK Tryd.prog 82 [.sl [.sl (ints r0) 5 1 false false, .sl (ints r1) 5 1 false false, .sl (ints r2) 5 1 false false, .sl (ints r3) 5 1 false false, .sl (ints r4) 5 1 false false] 5 1 false false] (iD (lapW [r0, r1, r2, r3, r4] [0, 1, 2, 3, 4])) := by
  refine ae_direct (ev92_ok [r0, r1, r2, r3, r4]) 30 (by kernel_rfl : tget aeF 82 = some Tryd.f82) ((u82_5 (tabD [r0, r1, r2, r3, r4]) (.sl (ints r0) 5 1 false false) (.sl (ints r1) 5 1 false false) (.sl (ints r2) 5 1 false false) (.sl (ints r3) 5 1 false false) (.sl (ints r4) 5 1 false false)).trans ?_)
  refine (cond_is (isP_iff.2 fun cs n s c nl e => ?_)).trans ?_
  · have e0 : some (DV.sl [iD 0, iD 1, iD 2, iD 3, iD 4] 5 1 false false) = some (DV.sl cs n s c nl) := e
    cases e0
    exact d92_0_5 r0 r1 r2 r3 r4 0 1 2 3 4 hl (by omega) (by omega) (by omega) (by omega) (by omega)
  · rfl

def atL (a : List Int) (i : Int) : Int := if 0 ≤ i then a.getD i.toNat 0 else 0
def hurR (a : List Int) (n k i : Nat) : List Int := (List.range k).map fun (j : Nat) => atL a ((n : Int) - 2 * ((j : Int) + 1) + ((i : Int) + 1))
/-- The first k rows and columns of a polynomial's matrix. -/
def hurM (a : List Int) (n k : Nat) : List (List Int) := (List.range k).map (hurR a n k)
def colsN (k : Nat) : List Int := (List.range k).map fun (i : Nat) => (i : Int)
/-- The minors of a polynomial, modulo 2 ^ 64. -/
def minL (a : List Int) : List Int := (List.range (a.length - 1)).map fun t => lapW (hurM a (a.length - 1) (t + 1)) (colsN (t + 1))
def tM (ds : List DV) : Int := match ds with
  | [m] => lapW (unM m) (colsN (unM m).length)
  | _ => 0
theorem g82 {m : DV} {v : Int} (h : PureOK Tryd.prog 82 [m] (iD v)) (e : tM [m] = v) : okS (sh77 tM) 82 [m] = true := okS_is (by show PureOK Tryd.prog 82 [m] (iD (tM [m])); rw [e]; exact h)
abbrev lsN (l : List Int) (c : Bool) : DV := .sl (ints l) l.length 1 c l.isEmpty

noncomputable def ev63 (ok : Nat → List DV → Bool) (t : List DV → Int) : Ev := evW [82] ok (sh77 t)
theorem u63_1 (ok : Nat → List DV → Bool) (t : List DV → Int) (c nl : Bool) (x0 : Int) : pureE aeC (ev63 ok t) 30 63 Tryd.f63 [.sl [iD x0] 1 1 c nl] =
  some (DV.sl [] 0 1 false true) := by kernel_rfl

theorem u49_1 (ok : Nat → List DV → Bool) (t : List DV → Int) (c nl : Bool) (x0 : Int) : pureE aeC (ev77 ok t) 30 49 Tryd.f49 [.sl [iD x0] 1 1 c nl] =
  some (DV.sl [] 0 1 false true) := by kernel_rfl

theorem u63_2 (ok : Nat → List DV → Bool) (t : List DV → Int) (c nl : Bool) (x0 x1 : Int) : pureE aeC (ev63 ok t) 30 63 Tryd.f63 [.sl [iD x0, iD x1] 2 1 c nl] =
  bif ok 82 [DV.sl [DV.sl [iD x0] 1 1 false false] 1 1 false false] then
    some (DV.sl [iD (t [DV.sl [DV.sl [iD x0] 1 1 false false] 1 1 false false])] 1 1 false false)
  else
    none := by kernel_rfl

theorem u49_2 (ok : Nat → List DV → Bool) (t : List DV → Int) (c nl : Bool) (x0 x1 : Int) : pureE aeC (ev77 ok t) 30 49 Tryd.f49 [.sl [iD x0, iD x1] 2 1 c nl] =
  bif ok 77 [DV.sl [DV.sl [iD x0] 1 1 false false] 1 1 false false, iD 0, iD 1] then
    some (DV.sl [iD (t [DV.sl [DV.sl [iD x0] 1 1 false false] 1 1 false false, iD 0, iD 1])] 1 1 false false)
  else
    none := by kernel_rfl

theorem u63_3 (ok : Nat → List DV → Bool) (t : List DV → Int) (c nl : Bool) (x0 x1 x2 : Int) : pureE aeC (ev63 ok t) 30 63 Tryd.f63 [.sl [iD x0, iD x1, iD x2] 3 1 c nl] =
  bif ok 82 [DV.sl [DV.sl [iD x1] 1 1 false false] 1 1 false false] then
    bif ok 82 [DV.sl [DV.sl [iD x1, iD 0] 2 1 false false, DV.sl [iD x2, iD x0] 2 1 false false] 2 1 false false] then
      some (DV.sl [iD (t [DV.sl [DV.sl [iD x1] 1 1 false false] 1 1 false false]), iD (t [DV.sl [DV.sl [iD x1, iD 0] 2 1 false false, DV.sl [iD x2, iD x0] 2 1 false false] 2 1 false false])] 2 1 false false)
    else
      none
  else
    none := by kernel_rfl

theorem u49_3 (ok : Nat → List DV → Bool) (t : List DV → Int) (c nl : Bool) (x0 x1 x2 : Int) : pureE aeC (ev77 ok t) 30 49 Tryd.f49 [.sl [iD x0, iD x1, iD x2] 3 1 c nl] =
  bif ok 77 [DV.sl [DV.sl [iD x1, iD 0] 2 1 false false, DV.sl [iD x2, iD x0] 2 1 false false] 2 1 false false, iD 0, iD 1] then
    bif ok 77 [DV.sl [DV.sl [iD x1, iD 0] 2 1 false false, DV.sl [iD x2, iD x0] 2 1 false false] 2 1 false false, iD 0, iD 3] then
      some (DV.sl [iD (t [DV.sl [DV.sl [iD x1, iD 0] 2 1 false false, DV.sl [iD x2, iD x0] 2 1 false false] 2 1 false false, iD 0, iD 1]), iD (t [DV.sl [DV.sl [iD x1, iD 0] 2 1 false false, DV.sl [iD x2, iD x0] 2 1 false false] 2 1 false false, iD 0, iD 3])] 2 1 false false)
    else
      none
  else
    none := by kernel_rfl

theorem u63_4 (ok : Nat → List DV → Bool) (t : List DV → Int) (c nl : Bool) (x0 x1 x2 x3 : Int) : pureE aeC (ev63 ok t) 30 63 Tryd.f63 [.sl [iD x0, iD x1, iD x2, iD x3] 4 1 c nl] =
  bif ok 82 [DV.sl [DV.sl [iD x2] 1 1 false false] 1 1 false false] then
    bif ok 82 [DV.sl [DV.sl [iD x2, iD x0] 2 1 false false, DV.sl [iD x3, iD x1] 2 1 false false] 2 1 false false] then
      bif ok 82 [DV.sl [DV.sl [iD x2, iD x0, iD 0] 3 1 false false, DV.sl [iD x3, iD x1, iD 0] 3 1 false false, DV.sl [iD 0, iD x2, iD x0] 3 1 false false] 3 1 false false] then
        some (DV.sl [iD (t [DV.sl [DV.sl [iD x2] 1 1 false false] 1 1 false false]), iD (t [DV.sl [DV.sl [iD x2, iD x0] 2 1 false false, DV.sl [iD x3, iD x1] 2 1 false false] 2 1 false false]), iD (t [DV.sl [DV.sl [iD x2, iD x0, iD 0] 3 1 false false, DV.sl [iD x3, iD x1, iD 0] 3 1 false false, DV.sl [iD 0, iD x2, iD x0] 3 1 false false] 3 1 false false])] 3 1 false false)
      else
        none
    else
      none
  else
    none := by kernel_rfl

theorem u49_4 (ok : Nat → List DV → Bool) (t : List DV → Int) (c nl : Bool) (x0 x1 x2 x3 : Int) : pureE aeC (ev77 ok t) 30 49 Tryd.f49 [.sl [iD x0, iD x1, iD x2, iD x3] 4 1 c nl] =
  bif ok 77 [DV.sl [DV.sl [iD x2, iD x0, iD 0] 3 1 false false, DV.sl [iD x3, iD x1, iD 0] 3 1 false false, DV.sl [iD 0, iD x2, iD x0] 3 1 false false] 3 1 false false, iD 0, iD 1] then
    bif ok 77 [DV.sl [DV.sl [iD x2, iD x0, iD 0] 3 1 false false, DV.sl [iD x3, iD x1, iD 0] 3 1 false false, DV.sl [iD 0, iD x2, iD x0] 3 1 false false] 3 1 false false, iD 0, iD 3] then
      bif ok 77 [DV.sl [DV.sl [iD x2, iD x0, iD 0] 3 1 false false, DV.sl [iD x3, iD x1, iD 0] 3 1 false false, DV.sl [iD 0, iD x2, iD x0] 3 1 false false] 3 1 false false, iD 0, iD 7] then
        some (DV.sl [iD (t [DV.sl [DV.sl [iD x2, iD x0, iD 0] 3 1 false false, DV.sl [iD x3, iD x1, iD 0] 3 1 false false, DV.sl [iD 0, iD x2, iD x0] 3 1 false false] 3 1 false false, iD 0, iD 1]), iD (t [DV.sl [DV.sl [iD x2, iD x0, iD 0] 3 1 false false, DV.sl [iD x3, iD x1, iD 0] 3 1 false false, DV.sl [iD 0, iD x2, iD x0] 3 1 false false] 3 1 false false, iD 0, iD 3]), iD (t [DV.sl [DV.sl [iD x2, iD x0, iD 0] 3 1 false false, DV.sl [iD x3, iD x1, iD 0] 3 1 false false, DV.sl [iD 0, iD x2, iD x0] 3 1 false false] 3 1 false false, iD 0, iD 7])] 3 1 false false)
      else
        none
    else
      none
  else
    none := by kernel_rfl

theorem u63_5 (ok : Nat → List DV → Bool) (t : List DV → Int) (c nl : Bool) (x0 x1 x2 x3 x4 : Int) : pureE aeC (ev63 ok t) 30 63 Tryd.f63 [.sl [iD x0, iD x1, iD x2, iD x3, iD x4] 5 1 c nl] =
  bif ok 82 [DV.sl [DV.sl [iD x3] 1 1 false false] 1 1 false false] then
    bif ok 82 [DV.sl [DV.sl [iD x3, iD x1] 2 1 false false, DV.sl [iD x4, iD x2] 2 1 false false] 2 1 false false] then
      bif ok 82 [DV.sl [DV.sl [iD x3, iD x1, iD 0] 3 1 false false, DV.sl [iD x4, iD x2, iD x0] 3 1 false false, DV.sl [iD 0, iD x3, iD x1] 3 1 false false] 3 1 false false] then
        bif ok 82 [DV.sl [DV.sl [iD x3, iD x1, iD 0, iD 0] 4 1 false false, DV.sl [iD x4, iD x2, iD x0, iD 0] 4 1 false false, DV.sl [iD 0, iD x3, iD x1, iD 0] 4 1 false false, DV.sl [iD 0, iD x4, iD x2, iD x0] 4 1 false false] 4 1 false false] then
          some (DV.sl [iD (t [DV.sl [DV.sl [iD x3] 1 1 false false] 1 1 false false]), iD (t [DV.sl [DV.sl [iD x3, iD x1] 2 1 false false, DV.sl [iD x4, iD x2] 2 1 false false] 2 1 false false]), iD (t [DV.sl [DV.sl [iD x3, iD x1, iD 0] 3 1 false false, DV.sl [iD x4, iD x2, iD x0] 3 1 false false, DV.sl [iD 0, iD x3, iD x1] 3 1 false false] 3 1 false false]), iD (t [DV.sl [DV.sl [iD x3, iD x1, iD 0, iD 0] 4 1 false false, DV.sl [iD x4, iD x2, iD x0, iD 0] 4 1 false false, DV.sl [iD 0, iD x3, iD x1, iD 0] 4 1 false false, DV.sl [iD 0, iD x4, iD x2, iD x0] 4 1 false false] 4 1 false false])] 4 1 false false)
        else
          none
      else
        none
    else
      none
  else
    none := by kernel_rfl

theorem u49_5 (ok : Nat → List DV → Bool) (t : List DV → Int) (c nl : Bool) (x0 x1 x2 x3 x4 : Int) : pureE aeC (ev77 ok t) 30 49 Tryd.f49 [.sl [iD x0, iD x1, iD x2, iD x3, iD x4] 5 1 c nl] =
  bif ok 77 [DV.sl [DV.sl [iD x3, iD x1, iD 0, iD 0] 4 1 false false, DV.sl [iD x4, iD x2, iD x0, iD 0] 4 1 false false, DV.sl [iD 0, iD x3, iD x1, iD 0] 4 1 false false, DV.sl [iD 0, iD x4, iD x2, iD x0] 4 1 false false] 4 1 false false, iD 0, iD 1] then
    bif ok 77 [DV.sl [DV.sl [iD x3, iD x1, iD 0, iD 0] 4 1 false false, DV.sl [iD x4, iD x2, iD x0, iD 0] 4 1 false false, DV.sl [iD 0, iD x3, iD x1, iD 0] 4 1 false false, DV.sl [iD 0, iD x4, iD x2, iD x0] 4 1 false false] 4 1 false false, iD 0, iD 3] then
      bif ok 77 [DV.sl [DV.sl [iD x3, iD x1, iD 0, iD 0] 4 1 false false, DV.sl [iD x4, iD x2, iD x0, iD 0] 4 1 false false, DV.sl [iD 0, iD x3, iD x1, iD 0] 4 1 false false, DV.sl [iD 0, iD x4, iD x2, iD x0] 4 1 false false] 4 1 false false, iD 0, iD 7] then
        bif ok 77 [DV.sl [DV.sl [iD x3, iD x1, iD 0, iD 0] 4 1 false false, DV.sl [iD x4, iD x2, iD x0, iD 0] 4 1 false false, DV.sl [iD 0, iD x3, iD x1, iD 0] 4 1 false false, DV.sl [iD 0, iD x4, iD x2, iD x0] 4 1 false false] 4 1 false false, iD 0, iD 15] then
          some (DV.sl [iD (t [DV.sl [DV.sl [iD x3, iD x1, iD 0, iD 0] 4 1 false false, DV.sl [iD x4, iD x2, iD x0, iD 0] 4 1 false false, DV.sl [iD 0, iD x3, iD x1, iD 0] 4 1 false false, DV.sl [iD 0, iD x4, iD x2, iD x0] 4 1 false false] 4 1 false false, iD 0, iD 1]), iD (t [DV.sl [DV.sl [iD x3, iD x1, iD 0, iD 0] 4 1 false false, DV.sl [iD x4, iD x2, iD x0, iD 0] 4 1 false false, DV.sl [iD 0, iD x3, iD x1, iD 0] 4 1 false false, DV.sl [iD 0, iD x4, iD x2, iD x0] 4 1 false false] 4 1 false false, iD 0, iD 3]), iD (t [DV.sl [DV.sl [iD x3, iD x1, iD 0, iD 0] 4 1 false false, DV.sl [iD x4, iD x2, iD x0, iD 0] 4 1 false false, DV.sl [iD 0, iD x3, iD x1, iD 0] 4 1 false false, DV.sl [iD 0, iD x4, iD x2, iD x0] 4 1 false false] 4 1 false false, iD 0, iD 7]), iD (t [DV.sl [DV.sl [iD x3, iD x1, iD 0, iD 0] 4 1 false false, DV.sl [iD x4, iD x2, iD x0, iD 0] 4 1 false false, DV.sl [iD 0, iD x3, iD x1, iD 0] 4 1 false false, DV.sl [iD 0, iD x4, iD x2, iD x0] 4 1 false false] 4 1 false false, iD 0, iD 15])] 4 1 false false)
        else
          none
      else
        none
    else
      none
  else
    none := by kernel_rfl

theorem u63_6 (ok : Nat → List DV → Bool) (t : List DV → Int) (c nl : Bool) (x0 x1 x2 x3 x4 x5 : Int) : pureE aeC (ev63 ok t) 30 63 Tryd.f63 [.sl [iD x0, iD x1, iD x2, iD x3, iD x4, iD x5] 6 1 c nl] =
  bif ok 82 [DV.sl [DV.sl [iD x4] 1 1 false false] 1 1 false false] then
    bif ok 82 [DV.sl [DV.sl [iD x4, iD x2] 2 1 false false, DV.sl [iD x5, iD x3] 2 1 false false] 2 1 false false] then
      bif ok 82 [DV.sl [DV.sl [iD x4, iD x2, iD x0] 3 1 false false, DV.sl [iD x5, iD x3, iD x1] 3 1 false false, DV.sl [iD 0, iD x4, iD x2] 3 1 false false] 3 1 false false] then
        bif ok 82 [DV.sl [DV.sl [iD x4, iD x2, iD x0, iD 0] 4 1 false false, DV.sl [iD x5, iD x3, iD x1, iD 0] 4 1 false false, DV.sl [iD 0, iD x4, iD x2, iD x0] 4 1 false false, DV.sl [iD 0, iD x5, iD x3, iD x1] 4 1 false false] 4 1 false false] then
          bif ok 82 [DV.sl [DV.sl [iD x4, iD x2, iD x0, iD 0, iD 0] 5 1 false false, DV.sl [iD x5, iD x3, iD x1, iD 0, iD 0] 5 1 false false, DV.sl [iD 0, iD x4, iD x2, iD x0, iD 0] 5 1 false false, DV.sl [iD 0, iD x5, iD x3, iD x1, iD 0] 5 1 false false, DV.sl [iD 0, iD 0, iD x4, iD x2, iD x0] 5 1 false false] 5 1 false false] then
            some (DV.sl [iD (t [DV.sl [DV.sl [iD x4] 1 1 false false] 1 1 false false]), iD (t [DV.sl [DV.sl [iD x4, iD x2] 2 1 false false, DV.sl [iD x5, iD x3] 2 1 false false] 2 1 false false]), iD (t [DV.sl [DV.sl [iD x4, iD x2, iD x0] 3 1 false false, DV.sl [iD x5, iD x3, iD x1] 3 1 false false, DV.sl [iD 0, iD x4, iD x2] 3 1 false false] 3 1 false false]), iD (t [DV.sl [DV.sl [iD x4, iD x2, iD x0, iD 0] 4 1 false false, DV.sl [iD x5, iD x3, iD x1, iD 0] 4 1 false false, DV.sl [iD 0, iD x4, iD x2, iD x0] 4 1 false false, DV.sl [iD 0, iD x5, iD x3, iD x1] 4 1 false false] 4 1 false false]), iD (t [DV.sl [DV.sl [iD x4, iD x2, iD x0, iD 0, iD 0] 5 1 false false, DV.sl [iD x5, iD x3, iD x1, iD 0, iD 0] 5 1 false false, DV.sl [iD 0, iD x4, iD x2, iD x0, iD 0] 5 1 false false, DV.sl [iD 0, iD x5, iD x3, iD x1, iD 0] 5 1 false false, DV.sl [iD 0, iD 0, iD x4, iD x2, iD x0] 5 1 false false] 5 1 false false])] 5 1 false false)
          else
            none
        else
          none
      else
        none
    else
      none
  else
    none := by kernel_rfl

theorem u49_6 (ok : Nat → List DV → Bool) (t : List DV → Int) (c nl : Bool) (x0 x1 x2 x3 x4 x5 : Int) : pureE aeC (ev77 ok t) 30 49 Tryd.f49 [.sl [iD x0, iD x1, iD x2, iD x3, iD x4, iD x5] 6 1 c nl] =
  bif ok 77 [DV.sl [DV.sl [iD x4, iD x2, iD x0, iD 0, iD 0] 5 1 false false, DV.sl [iD x5, iD x3, iD x1, iD 0, iD 0] 5 1 false false, DV.sl [iD 0, iD x4, iD x2, iD x0, iD 0] 5 1 false false, DV.sl [iD 0, iD x5, iD x3, iD x1, iD 0] 5 1 false false, DV.sl [iD 0, iD 0, iD x4, iD x2, iD x0] 5 1 false false] 5 1 false false, iD 0, iD 1] then
    bif ok 77 [DV.sl [DV.sl [iD x4, iD x2, iD x0, iD 0, iD 0] 5 1 false false, DV.sl [iD x5, iD x3, iD x1, iD 0, iD 0] 5 1 false false, DV.sl [iD 0, iD x4, iD x2, iD x0, iD 0] 5 1 false false, DV.sl [iD 0, iD x5, iD x3, iD x1, iD 0] 5 1 false false, DV.sl [iD 0, iD 0, iD x4, iD x2, iD x0] 5 1 false false] 5 1 false false, iD 0, iD 3] then
      bif ok 77 [DV.sl [DV.sl [iD x4, iD x2, iD x0, iD 0, iD 0] 5 1 false false, DV.sl [iD x5, iD x3, iD x1, iD 0, iD 0] 5 1 false false, DV.sl [iD 0, iD x4, iD x2, iD x0, iD 0] 5 1 false false, DV.sl [iD 0, iD x5, iD x3, iD x1, iD 0] 5 1 false false, DV.sl [iD 0, iD 0, iD x4, iD x2, iD x0] 5 1 false false] 5 1 false false, iD 0, iD 7] then
        bif ok 77 [DV.sl [DV.sl [iD x4, iD x2, iD x0, iD 0, iD 0] 5 1 false false, DV.sl [iD x5, iD x3, iD x1, iD 0, iD 0] 5 1 false false, DV.sl [iD 0, iD x4, iD x2, iD x0, iD 0] 5 1 false false, DV.sl [iD 0, iD x5, iD x3, iD x1, iD 0] 5 1 false false, DV.sl [iD 0, iD 0, iD x4, iD x2, iD x0] 5 1 false false] 5 1 false false, iD 0, iD 15] then
          bif ok 77 [DV.sl [DV.sl [iD x4, iD x2, iD x0, iD 0, iD 0] 5 1 false false, DV.sl [iD x5, iD x3, iD x1, iD 0, iD 0] 5 1 false false, DV.sl [iD 0, iD x4, iD x2, iD x0, iD 0] 5 1 false false, DV.sl [iD 0, iD x5, iD x3, iD x1, iD 0] 5 1 false false, DV.sl [iD 0, iD 0, iD x4, iD x2, iD x0] 5 1 false false] 5 1 false false, iD 0, iD 31] then
            some (DV.sl [iD (t [DV.sl [DV.sl [iD x4, iD x2, iD x0, iD 0, iD 0] 5 1 false false, DV.sl [iD x5, iD x3, iD x1, iD 0, iD 0] 5 1 false false, DV.sl [iD 0, iD x4, iD x2, iD x0, iD 0] 5 1 false false, DV.sl [iD 0, iD x5, iD x3, iD x1, iD 0] 5 1 false false, DV.sl [iD 0, iD 0, iD x4, iD x2, iD x0] 5 1 false false] 5 1 false false, iD 0, iD 1]), iD (t [DV.sl [DV.sl [iD x4, iD x2, iD x0, iD 0, iD 0] 5 1 false false, DV.sl [iD x5, iD x3, iD x1, iD 0, iD 0] 5 1 false false, DV.sl [iD 0, iD x4, iD x2, iD x0, iD 0] 5 1 false false, DV.sl [iD 0, iD x5, iD x3, iD x1, iD 0] 5 1 false false, DV.sl [iD 0, iD 0, iD x4, iD x2, iD x0] 5 1 false false] 5 1 false false, iD 0, iD 3]), iD (t [DV.sl [DV.sl [iD x4, iD x2, iD x0, iD 0, iD 0] 5 1 false false, DV.sl [iD x5, iD x3, iD x1, iD 0, iD 0] 5 1 false false, DV.sl [iD 0, iD x4, iD x2, iD x0, iD 0] 5 1 false false, DV.sl [iD 0, iD x5, iD x3, iD x1, iD 0] 5 1 false false, DV.sl [iD 0, iD 0, iD x4, iD x2, iD x0] 5 1 false false] 5 1 false false, iD 0, iD 7]), iD (t [DV.sl [DV.sl [iD x4, iD x2, iD x0, iD 0, iD 0] 5 1 false false, DV.sl [iD x5, iD x3, iD x1, iD 0, iD 0] 5 1 false false, DV.sl [iD 0, iD x4, iD x2, iD x0, iD 0] 5 1 false false, DV.sl [iD 0, iD x5, iD x3, iD x1, iD 0] 5 1 false false, DV.sl [iD 0, iD 0, iD x4, iD x2, iD x0] 5 1 false false] 5 1 false false, iD 0, iD 15]), iD (t [DV.sl [DV.sl [iD x4, iD x2, iD x0, iD 0, iD 0] 5 1 false false, DV.sl [iD x5, iD x3, iD x1, iD 0, iD 0] 5 1 false false, DV.sl [iD 0, iD x4, iD x2, iD x0, iD 0] 5 1 false false, DV.sl [iD 0, iD x5, iD x3, iD x1, iD 0] 5 1 false false, DV.sl [iD 0, iD 0, iD x4, iD x2, iD x0] 5 1 false false] 5 1 false false, iD 0, iD 31])] 5 1 false false)
          else
            none
        else
          none
      else
        none
    else
      none
  else
    none := by kernel_rfl

theorem c63_1 (x0 : Int) (c nl : Bool) : PureOK Tryd.prog 63 [ls [x0] c nl] (lsN (minL [x0]) false) := by
  refine walk (fs := [82]) (shape := sh77 tM) (by kernel_rfl : tget aeF 63 = some Tryd.f63) ((u63_1 (okS (sh77 tM)) tM c nl x0).trans ?_)
  rfl

theorem c49_1 (x0 : Int) (c nl : Bool) : PureOK Tryd.prog 49 [ls [x0] c nl] (lsN (minL [x0]) false) := by
  refine walk (fs := [77]) (shape := sh77 tD) (by kernel_rfl : tget aeF 49 = some Tryd.f49) ((u49_1 (okS (sh77 tD)) tD c nl x0).trans ?_)
  rfl

theorem c63_2 (x0 x1 : Int) (c nl : Bool) : PureOK Tryd.prog 63 [ls [x0, x1] c nl] (lsN (minL [x0, x1]) false) := by
  refine walk (fs := [82]) (shape := sh77 tM) (by kernel_rfl : tget aeF 63 = some Tryd.f63) ((u63_2 (okS (sh77 tM)) tM c nl x0 x1).trans ?_)
  refine (cond_is (g82 (det82_1 [x0] rfl) (by kernel_rfl))).trans ?_
  kernel_rfl

theorem c49_2 (x0 x1 : Int) (c nl : Bool) : PureOK Tryd.prog 49 [ls [x0, x1] c nl] (lsN (minL [x0, x1]) false) := by
  refine walk (fs := [77]) (shape := sh77 tD) (by kernel_rfl : tget aeF 49 = some Tryd.f49) ((u49_2 (okS (sh77 tD)) tD c nl x0 x1).trans ?_)
  refine (cond_is (g77 (M := [[x0]]) (r := 0) (cs := [0]) rfl (e77_1 [[x0]] 0 false (by simp) (by simp) (by simp)))).trans ?_
  kernel_rfl

theorem c63_3 (x0 x1 x2 : Int) (c nl : Bool) : PureOK Tryd.prog 63 [ls [x0, x1, x2] c nl] (lsN (minL [x0, x1, x2]) false) := by
  refine walk (fs := [82]) (shape := sh77 tM) (by kernel_rfl : tget aeF 63 = some Tryd.f63) ((u63_3 (okS (sh77 tM)) tM c nl x0 x1 x2).trans ?_)
  refine (cond_is (g82 (det82_1 [x1] rfl) (by kernel_rfl))).trans ?_
  refine (cond_is (g82 (det82_2 [x1, 0] [x2, x0] ⟨rfl, rfl⟩) (by kernel_rfl))).trans ?_
  kernel_rfl

theorem c49_3 (x0 x1 x2 : Int) (c nl : Bool) : PureOK Tryd.prog 49 [ls [x0, x1, x2] c nl] (lsN (minL [x0, x1, x2]) false) := by
  refine walk (fs := [77]) (shape := sh77 tD) (by kernel_rfl : tget aeF 49 = some Tryd.f49) ((u49_3 (okS (sh77 tD)) tD c nl x0 x1 x2).trans ?_)
  refine (cond_is (g77 (M := [[x1, 0], [x2, x0]]) (r := 0) (cs := [0]) rfl (e77_1 [[x1, 0], [x2, x0]] 0 false (by simp) (by simp) (by simp)))).trans ?_
  refine (cond_is (g77 (M := [[x1, 0], [x2, x0]]) (r := 0) (cs := [0, 1]) rfl (e77_3 [[x1, 0], [x2, x0]] 0 false (by simp) (by simp) (by simp)))).trans ?_
  kernel_rfl

theorem c63_4 (x0 x1 x2 x3 : Int) (c nl : Bool) : PureOK Tryd.prog 63 [ls [x0, x1, x2, x3] c nl] (lsN (minL [x0, x1, x2, x3]) false) := by
  refine walk (fs := [82]) (shape := sh77 tM) (by kernel_rfl : tget aeF 63 = some Tryd.f63) ((u63_4 (okS (sh77 tM)) tM c nl x0 x1 x2 x3).trans ?_)
  refine (cond_is (g82 (det82_1 [x2] rfl) (by kernel_rfl))).trans ?_
  refine (cond_is (g82 (det82_2 [x2, x0] [x3, x1] ⟨rfl, rfl⟩) (by kernel_rfl))).trans ?_
  refine (cond_is (g82 (det82_3 [x2, x0, 0] [x3, x1, 0] [0, x2, x0] ⟨rfl, rfl, rfl⟩) (by kernel_rfl))).trans ?_
  kernel_rfl

theorem c49_4 (x0 x1 x2 x3 : Int) (c nl : Bool) : PureOK Tryd.prog 49 [ls [x0, x1, x2, x3] c nl] (lsN (minL [x0, x1, x2, x3]) false) := by
  refine walk (fs := [77]) (shape := sh77 tD) (by kernel_rfl : tget aeF 49 = some Tryd.f49) ((u49_4 (okS (sh77 tD)) tD c nl x0 x1 x2 x3).trans ?_)
  refine (cond_is (g77 (M := [[x2, x0, 0], [x3, x1, 0], [0, x2, x0]]) (r := 0) (cs := [0]) rfl (e77_1 [[x2, x0, 0], [x3, x1, 0], [0, x2, x0]] 0 false (by simp) (by simp) (by simp)))).trans ?_
  refine (cond_is (g77 (M := [[x2, x0, 0], [x3, x1, 0], [0, x2, x0]]) (r := 0) (cs := [0, 1]) rfl (e77_3 [[x2, x0, 0], [x3, x1, 0], [0, x2, x0]] 0 false (by simp) (by simp) (by simp)))).trans ?_
  refine (cond_is (g77 (M := [[x2, x0, 0], [x3, x1, 0], [0, x2, x0]]) (r := 0) (cs := [0, 1, 2]) rfl (e77_7 [[x2, x0, 0], [x3, x1, 0], [0, x2, x0]] 0 false (by simp) (by simp) (by simp)))).trans ?_
  kernel_rfl

theorem c63_5 (x0 x1 x2 x3 x4 : Int) (c nl : Bool) : PureOK Tryd.prog 63 [ls [x0, x1, x2, x3, x4] c nl] (lsN (minL [x0, x1, x2, x3, x4]) false) := by
  refine walk (fs := [82]) (shape := sh77 tM) (by kernel_rfl : tget aeF 63 = some Tryd.f63) ((u63_5 (okS (sh77 tM)) tM c nl x0 x1 x2 x3 x4).trans ?_)
  refine (cond_is (g82 (det82_1 [x3] rfl) (by kernel_rfl))).trans ?_
  refine (cond_is (g82 (det82_2 [x3, x1] [x4, x2] ⟨rfl, rfl⟩) (by kernel_rfl))).trans ?_
  refine (cond_is (g82 (det82_3 [x3, x1, 0] [x4, x2, x0] [0, x3, x1] ⟨rfl, rfl, rfl⟩) (by kernel_rfl))).trans ?_
  refine (cond_is (g82 (det82_4 [x3, x1, 0, 0] [x4, x2, x0, 0] [0, x3, x1, 0] [0, x4, x2, x0] ⟨rfl, rfl, rfl, rfl⟩) (by kernel_rfl))).trans ?_
  kernel_rfl

theorem c49_5 (x0 x1 x2 x3 x4 : Int) (c nl : Bool) : PureOK Tryd.prog 49 [ls [x0, x1, x2, x3, x4] c nl] (lsN (minL [x0, x1, x2, x3, x4]) false) := by
  refine walk (fs := [77]) (shape := sh77 tD) (by kernel_rfl : tget aeF 49 = some Tryd.f49) ((u49_5 (okS (sh77 tD)) tD c nl x0 x1 x2 x3 x4).trans ?_)
  refine (cond_is (g77 (M := [[x3, x1, 0, 0], [x4, x2, x0, 0], [0, x3, x1, 0], [0, x4, x2, x0]]) (r := 0) (cs := [0]) rfl (e77_1 [[x3, x1, 0, 0], [x4, x2, x0, 0], [0, x3, x1, 0], [0, x4, x2, x0]] 0 false (by simp) (by simp) (by simp)))).trans ?_
  refine (cond_is (g77 (M := [[x3, x1, 0, 0], [x4, x2, x0, 0], [0, x3, x1, 0], [0, x4, x2, x0]]) (r := 0) (cs := [0, 1]) rfl (e77_3 [[x3, x1, 0, 0], [x4, x2, x0, 0], [0, x3, x1, 0], [0, x4, x2, x0]] 0 false (by simp) (by simp) (by simp)))).trans ?_
  refine (cond_is (g77 (M := [[x3, x1, 0, 0], [x4, x2, x0, 0], [0, x3, x1, 0], [0, x4, x2, x0]]) (r := 0) (cs := [0, 1, 2]) rfl (e77_7 [[x3, x1, 0, 0], [x4, x2, x0, 0], [0, x3, x1, 0], [0, x4, x2, x0]] 0 false (by simp) (by simp) (by simp)))).trans ?_
  refine (cond_is (g77 (M := [[x3, x1, 0, 0], [x4, x2, x0, 0], [0, x3, x1, 0], [0, x4, x2, x0]]) (r := 0) (cs := [0, 1, 2, 3]) rfl (e77_15 [[x3, x1, 0, 0], [x4, x2, x0, 0], [0, x3, x1, 0], [0, x4, x2, x0]] 0 false (by simp) (by simp) (by simp)))).trans ?_
  kernel_rfl

theorem c63_6 (x0 x1 x2 x3 x4 x5 : Int) (c nl : Bool) : PureOK Tryd.prog 63 [ls [x0, x1, x2, x3, x4, x5] c nl] (lsN (minL [x0, x1, x2, x3, x4, x5]) false) := by
  refine walk (fs := [82]) (shape := sh77 tM) (by kernel_rfl : tget aeF 63 = some Tryd.f63) ((u63_6 (okS (sh77 tM)) tM c nl x0 x1 x2 x3 x4 x5).trans ?_)
  refine (cond_is (g82 (det82_1 [x4] rfl) (by kernel_rfl))).trans ?_
  refine (cond_is (g82 (det82_2 [x4, x2] [x5, x3] ⟨rfl, rfl⟩) (by kernel_rfl))).trans ?_
  refine (cond_is (g82 (det82_3 [x4, x2, x0] [x5, x3, x1] [0, x4, x2] ⟨rfl, rfl, rfl⟩) (by kernel_rfl))).trans ?_
  refine (cond_is (g82 (det82_4 [x4, x2, x0, 0] [x5, x3, x1, 0] [0, x4, x2, x0] [0, x5, x3, x1] ⟨rfl, rfl, rfl, rfl⟩) (by kernel_rfl))).trans ?_
  refine (cond_is (g82 (det82_5 [x4, x2, x0, 0, 0] [x5, x3, x1, 0, 0] [0, x4, x2, x0, 0] [0, x5, x3, x1, 0] [0, 0, x4, x2, x0] ⟨rfl, rfl, rfl, rfl, rfl⟩) (by kernel_rfl))).trans ?_
  kernel_rfl

theorem c49_6 (x0 x1 x2 x3 x4 x5 : Int) (c nl : Bool) : PureOK Tryd.prog 49 [ls [x0, x1, x2, x3, x4, x5] c nl] (lsN (minL [x0, x1, x2, x3, x4, x5]) false) := by
  refine walk (fs := [77]) (shape := sh77 tD) (by kernel_rfl : tget aeF 49 = some Tryd.f49) ((u49_6 (okS (sh77 tD)) tD c nl x0 x1 x2 x3 x4 x5).trans ?_)
  refine (cond_is (g77 (M := [[x4, x2, x0, 0, 0], [x5, x3, x1, 0, 0], [0, x4, x2, x0, 0], [0, x5, x3, x1, 0], [0, 0, x4, x2, x0]]) (r := 0) (cs := [0]) rfl (e77_1 [[x4, x2, x0, 0, 0], [x5, x3, x1, 0, 0], [0, x4, x2, x0, 0], [0, x5, x3, x1, 0], [0, 0, x4, x2, x0]] 0 false (by simp) (by simp) (by simp)))).trans ?_
  refine (cond_is (g77 (M := [[x4, x2, x0, 0, 0], [x5, x3, x1, 0, 0], [0, x4, x2, x0, 0], [0, x5, x3, x1, 0], [0, 0, x4, x2, x0]]) (r := 0) (cs := [0, 1]) rfl (e77_3 [[x4, x2, x0, 0, 0], [x5, x3, x1, 0, 0], [0, x4, x2, x0, 0], [0, x5, x3, x1, 0], [0, 0, x4, x2, x0]] 0 false (by simp) (by simp) (by simp)))).trans ?_
  refine (cond_is (g77 (M := [[x4, x2, x0, 0, 0], [x5, x3, x1, 0, 0], [0, x4, x2, x0, 0], [0, x5, x3, x1, 0], [0, 0, x4, x2, x0]]) (r := 0) (cs := [0, 1, 2]) rfl (e77_7 [[x4, x2, x0, 0, 0], [x5, x3, x1, 0, 0], [0, x4, x2, x0, 0], [0, x5, x3, x1, 0], [0, 0, x4, x2, x0]] 0 false (by simp) (by simp) (by simp)))).trans ?_
  refine (cond_is (g77 (M := [[x4, x2, x0, 0, 0], [x5, x3, x1, 0, 0], [0, x4, x2, x0, 0], [0, x5, x3, x1, 0], [0, 0, x4, x2, x0]]) (r := 0) (cs := [0, 1, 2, 3]) rfl (e77_15 [[x4, x2, x0, 0, 0], [x5, x3, x1, 0, 0], [0, x4, x2, x0, 0], [0, x5, x3, x1, 0], [0, 0, x4, x2, x0]] 0 false (by simp) (by simp) (by simp)))).trans ?_
  refine (cond_is (g77 (M := [[x4, x2, x0, 0, 0], [x5, x3, x1, 0, 0], [0, x4, x2, x0, 0], [0, x5, x3, x1, 0], [0, 0, x4, x2, x0]]) (r := 0) (cs := [0, 1, 2, 3, 4]) rfl (e77_31 [[x4, x2, x0, 0, 0], [x5, x3, x1, 0, 0], [0, x4, x2, x0, 0], [0, x5, x3, x1, 0], [0, 0, x4, x2, x0]] 0 false (by simp) (by simp) (by simp)))).trans ?_
  kernel_rfl

theorem c49 : ∀ (a : List Int) (c nl : Bool), 1 ≤ a.length → a.length ≤ 6 → PureOK Tryd.prog 49 [ls a c nl] (lsN (minL a) false)
  | [x0], c, nl, _, _ => c49_1 x0 c nl
  | [x0, x1], c, nl, _, _ => c49_2 x0 x1 c nl
  | [x0, x1, x2], c, nl, _, _ => c49_3 x0 x1 x2 c nl
  | [x0, x1, x2, x3], c, nl, _, _ => c49_4 x0 x1 x2 x3 c nl
  | [x0, x1, x2, x3, x4], c, nl, _, _ => c49_5 x0 x1 x2 x3 x4 c nl
  | [x0, x1, x2, x3, x4, x5], c, nl, _, _ => c49_6 x0 x1 x2 x3 x4 x5 c nl
  | [], _, _, h, _ => absurd h (by simp)
  | _ :: _ :: _ :: _ :: _ :: _ :: _ :: _, _, _, _, h => absurd h (by simp)

end Go.Proofs.YtiicbenhhdbnoaaDoor

/- Chapter 09: whether a polynomial is steady, by the program and by the document. Written by wip/tools/genC2.py. -/
namespace Go.Proofs.YtiicbenhhdbnoaaDoor
open Go Go.AE
set_option maxRecDepth 100000

def sh63 (t : List DV → Nat → Int) : Nat → List DV → DV := fun _ ds => match ds with
  | [.sl _ n _ _ _] => .sl ((List.range (n - 1)).map fun (i : Nat) => iD (t ds i)) (n - 1) 1 false (Nat.beq n 1)
  | _ => .nilp
noncomputable def ev61 (ok : Nat → List DV → Bool) (t : List DV → Nat → Int) : Ev := evW [63, 49] ok (sh63 t)

theorem u61_1 (ok : Nat → List DV → Bool) (t : List DV → Nat → Int) (c nl : Bool) (x0 : Int) : pureE aeC (ev61 ok t) 30 61 Tryd.f61 [.sl [iD x0] 1 1 c nl] =
  bif decide (x0 < 0) then
    bif ok 63 [DV.sl [iD (IntKind.wrap IntKind.i64 (0 - x0))] 1 1 false false] then
      some (bD true)
    else
      none
  else
    bif ok 63 [DV.sl [iD x0] 1 1 c nl] then
      some (bD true)
    else
      none := by kernel_rfl

theorem u61_2 (ok : Nat → List DV → Bool) (t : List DV → Nat → Int) (c nl : Bool) (x0 x1 : Int) : pureE aeC (ev61 ok t) 30 61 Tryd.f61 [.sl [iD x0, iD x1] 2 1 c nl] =
  bif decide (x1 < 0) then
    bif ok 63 [DV.sl [iD (IntKind.wrap IntKind.i64 (0 - x0)), iD (IntKind.wrap IntKind.i64 (0 - x1))] 2 1 false false] then
      bif decide (t [DV.sl [iD (IntKind.wrap IntKind.i64 (0 - x0)), iD (IntKind.wrap IntKind.i64 (0 - x1))] 2 1 false false] 0 ≤ 0) then
        some (bD false)
      else
        some (bD true)
    else
      none
  else
    bif ok 63 [DV.sl [iD x0, iD x1] 2 1 c nl] then
      bif decide (t [DV.sl [iD x0, iD x1] 2 1 c nl] 0 ≤ 0) then
        some (bD false)
      else
        some (bD true)
    else
      none := by kernel_rfl

theorem u61_3 (ok : Nat → List DV → Bool) (t : List DV → Nat → Int) (c nl : Bool) (x0 x1 x2 : Int) : pureE aeC (ev61 ok t) 30 61 Tryd.f61 [.sl [iD x0, iD x1, iD x2] 3 1 c nl] =
  bif decide (x2 < 0) then
    bif ok 63 [DV.sl [iD (IntKind.wrap IntKind.i64 (0 - x0)), iD (IntKind.wrap IntKind.i64 (0 - x1)), iD (IntKind.wrap IntKind.i64 (0 - x2))] 3 1 false false] then
      bif decide (t [DV.sl [iD (IntKind.wrap IntKind.i64 (0 - x0)), iD (IntKind.wrap IntKind.i64 (0 - x1)), iD (IntKind.wrap IntKind.i64 (0 - x2))] 3 1 false false] 0 ≤ 0) then
        some (bD false)
      else
        bif decide (t [DV.sl [iD (IntKind.wrap IntKind.i64 (0 - x0)), iD (IntKind.wrap IntKind.i64 (0 - x1)), iD (IntKind.wrap IntKind.i64 (0 - x2))] 3 1 false false] 1 ≤ 0) then
          some (bD false)
        else
          some (bD true)
    else
      none
  else
    bif ok 63 [DV.sl [iD x0, iD x1, iD x2] 3 1 c nl] then
      bif decide (t [DV.sl [iD x0, iD x1, iD x2] 3 1 c nl] 0 ≤ 0) then
        some (bD false)
      else
        bif decide (t [DV.sl [iD x0, iD x1, iD x2] 3 1 c nl] 1 ≤ 0) then
          some (bD false)
        else
          some (bD true)
    else
      none := by kernel_rfl

theorem u61_4 (ok : Nat → List DV → Bool) (t : List DV → Nat → Int) (c nl : Bool) (x0 x1 x2 x3 : Int) : pureE aeC (ev61 ok t) 30 61 Tryd.f61 [.sl [iD x0, iD x1, iD x2, iD x3] 4 1 c nl] =
  bif decide (x3 < 0) then
    bif ok 63 [DV.sl [iD (IntKind.wrap IntKind.i64 (0 - x0)), iD (IntKind.wrap IntKind.i64 (0 - x1)), iD (IntKind.wrap IntKind.i64 (0 - x2)), iD (IntKind.wrap IntKind.i64 (0 - x3))] 4 1 false false] then
      bif decide (t [DV.sl [iD (IntKind.wrap IntKind.i64 (0 - x0)), iD (IntKind.wrap IntKind.i64 (0 - x1)), iD (IntKind.wrap IntKind.i64 (0 - x2)), iD (IntKind.wrap IntKind.i64 (0 - x3))] 4 1 false false] 0 ≤ 0) then
        some (bD false)
      else
        bif decide (t [DV.sl [iD (IntKind.wrap IntKind.i64 (0 - x0)), iD (IntKind.wrap IntKind.i64 (0 - x1)), iD (IntKind.wrap IntKind.i64 (0 - x2)), iD (IntKind.wrap IntKind.i64 (0 - x3))] 4 1 false false] 1 ≤ 0) then
          some (bD false)
        else
          bif decide (t [DV.sl [iD (IntKind.wrap IntKind.i64 (0 - x0)), iD (IntKind.wrap IntKind.i64 (0 - x1)), iD (IntKind.wrap IntKind.i64 (0 - x2)), iD (IntKind.wrap IntKind.i64 (0 - x3))] 4 1 false false] 2 ≤ 0) then
            some (bD false)
          else
            some (bD true)
    else
      none
  else
    bif ok 63 [DV.sl [iD x0, iD x1, iD x2, iD x3] 4 1 c nl] then
      bif decide (t [DV.sl [iD x0, iD x1, iD x2, iD x3] 4 1 c nl] 0 ≤ 0) then
        some (bD false)
      else
        bif decide (t [DV.sl [iD x0, iD x1, iD x2, iD x3] 4 1 c nl] 1 ≤ 0) then
          some (bD false)
        else
          bif decide (t [DV.sl [iD x0, iD x1, iD x2, iD x3] 4 1 c nl] 2 ≤ 0) then
            some (bD false)
          else
            some (bD true)
    else
      none := by kernel_rfl

theorem u61_5 (ok : Nat → List DV → Bool) (t : List DV → Nat → Int) (c nl : Bool) (x0 x1 x2 x3 x4 : Int) : pureE aeC (ev61 ok t) 30 61 Tryd.f61 [.sl [iD x0, iD x1, iD x2, iD x3, iD x4] 5 1 c nl] =
  bif decide (x4 < 0) then
    bif ok 63 [DV.sl [iD (IntKind.wrap IntKind.i64 (0 - x0)), iD (IntKind.wrap IntKind.i64 (0 - x1)), iD (IntKind.wrap IntKind.i64 (0 - x2)), iD (IntKind.wrap IntKind.i64 (0 - x3)), iD (IntKind.wrap IntKind.i64 (0 - x4))] 5 1 false false] then
      bif decide (t [DV.sl [iD (IntKind.wrap IntKind.i64 (0 - x0)), iD (IntKind.wrap IntKind.i64 (0 - x1)), iD (IntKind.wrap IntKind.i64 (0 - x2)), iD (IntKind.wrap IntKind.i64 (0 - x3)), iD (IntKind.wrap IntKind.i64 (0 - x4))] 5 1 false false] 0 ≤ 0) then
        some (bD false)
      else
        bif decide (t [DV.sl [iD (IntKind.wrap IntKind.i64 (0 - x0)), iD (IntKind.wrap IntKind.i64 (0 - x1)), iD (IntKind.wrap IntKind.i64 (0 - x2)), iD (IntKind.wrap IntKind.i64 (0 - x3)), iD (IntKind.wrap IntKind.i64 (0 - x4))] 5 1 false false] 1 ≤ 0) then
          some (bD false)
        else
          bif decide (t [DV.sl [iD (IntKind.wrap IntKind.i64 (0 - x0)), iD (IntKind.wrap IntKind.i64 (0 - x1)), iD (IntKind.wrap IntKind.i64 (0 - x2)), iD (IntKind.wrap IntKind.i64 (0 - x3)), iD (IntKind.wrap IntKind.i64 (0 - x4))] 5 1 false false] 2 ≤ 0) then
            some (bD false)
          else
            bif decide (t [DV.sl [iD (IntKind.wrap IntKind.i64 (0 - x0)), iD (IntKind.wrap IntKind.i64 (0 - x1)), iD (IntKind.wrap IntKind.i64 (0 - x2)), iD (IntKind.wrap IntKind.i64 (0 - x3)), iD (IntKind.wrap IntKind.i64 (0 - x4))] 5 1 false false] 3 ≤ 0) then
              some (bD false)
            else
              some (bD true)
    else
      none
  else
    bif ok 63 [DV.sl [iD x0, iD x1, iD x2, iD x3, iD x4] 5 1 c nl] then
      bif decide (t [DV.sl [iD x0, iD x1, iD x2, iD x3, iD x4] 5 1 c nl] 0 ≤ 0) then
        some (bD false)
      else
        bif decide (t [DV.sl [iD x0, iD x1, iD x2, iD x3, iD x4] 5 1 c nl] 1 ≤ 0) then
          some (bD false)
        else
          bif decide (t [DV.sl [iD x0, iD x1, iD x2, iD x3, iD x4] 5 1 c nl] 2 ≤ 0) then
            some (bD false)
          else
            bif decide (t [DV.sl [iD x0, iD x1, iD x2, iD x3, iD x4] 5 1 c nl] 3 ≤ 0) then
              some (bD false)
            else
              some (bD true)
    else
      none := by kernel_rfl

theorem u61_6 (ok : Nat → List DV → Bool) (t : List DV → Nat → Int) (c nl : Bool) (x0 x1 x2 x3 x4 x5 : Int) : pureE aeC (ev61 ok t) 30 61 Tryd.f61 [.sl [iD x0, iD x1, iD x2, iD x3, iD x4, iD x5] 6 1 c nl] =
  bif decide (x5 < 0) then
    bif ok 63 [DV.sl [iD (IntKind.wrap IntKind.i64 (0 - x0)), iD (IntKind.wrap IntKind.i64 (0 - x1)), iD (IntKind.wrap IntKind.i64 (0 - x2)), iD (IntKind.wrap IntKind.i64 (0 - x3)), iD (IntKind.wrap IntKind.i64 (0 - x4)), iD (IntKind.wrap IntKind.i64 (0 - x5))] 6 1 false false] then
      bif decide (t [DV.sl [iD (IntKind.wrap IntKind.i64 (0 - x0)), iD (IntKind.wrap IntKind.i64 (0 - x1)), iD (IntKind.wrap IntKind.i64 (0 - x2)), iD (IntKind.wrap IntKind.i64 (0 - x3)), iD (IntKind.wrap IntKind.i64 (0 - x4)), iD (IntKind.wrap IntKind.i64 (0 - x5))] 6 1 false false] 0 ≤ 0) then
        some (bD false)
      else
        bif decide (t [DV.sl [iD (IntKind.wrap IntKind.i64 (0 - x0)), iD (IntKind.wrap IntKind.i64 (0 - x1)), iD (IntKind.wrap IntKind.i64 (0 - x2)), iD (IntKind.wrap IntKind.i64 (0 - x3)), iD (IntKind.wrap IntKind.i64 (0 - x4)), iD (IntKind.wrap IntKind.i64 (0 - x5))] 6 1 false false] 1 ≤ 0) then
          some (bD false)
        else
          bif decide (t [DV.sl [iD (IntKind.wrap IntKind.i64 (0 - x0)), iD (IntKind.wrap IntKind.i64 (0 - x1)), iD (IntKind.wrap IntKind.i64 (0 - x2)), iD (IntKind.wrap IntKind.i64 (0 - x3)), iD (IntKind.wrap IntKind.i64 (0 - x4)), iD (IntKind.wrap IntKind.i64 (0 - x5))] 6 1 false false] 2 ≤ 0) then
            some (bD false)
          else
            bif decide (t [DV.sl [iD (IntKind.wrap IntKind.i64 (0 - x0)), iD (IntKind.wrap IntKind.i64 (0 - x1)), iD (IntKind.wrap IntKind.i64 (0 - x2)), iD (IntKind.wrap IntKind.i64 (0 - x3)), iD (IntKind.wrap IntKind.i64 (0 - x4)), iD (IntKind.wrap IntKind.i64 (0 - x5))] 6 1 false false] 3 ≤ 0) then
              some (bD false)
            else
              bif decide (t [DV.sl [iD (IntKind.wrap IntKind.i64 (0 - x0)), iD (IntKind.wrap IntKind.i64 (0 - x1)), iD (IntKind.wrap IntKind.i64 (0 - x2)), iD (IntKind.wrap IntKind.i64 (0 - x3)), iD (IntKind.wrap IntKind.i64 (0 - x4)), iD (IntKind.wrap IntKind.i64 (0 - x5))] 6 1 false false] 4 ≤ 0) then
                some (bD false)
              else
                some (bD true)
    else
      none
  else
    bif ok 63 [DV.sl [iD x0, iD x1, iD x2, iD x3, iD x4, iD x5] 6 1 c nl] then
      bif decide (t [DV.sl [iD x0, iD x1, iD x2, iD x3, iD x4, iD x5] 6 1 c nl] 0 ≤ 0) then
        some (bD false)
      else
        bif decide (t [DV.sl [iD x0, iD x1, iD x2, iD x3, iD x4, iD x5] 6 1 c nl] 1 ≤ 0) then
          some (bD false)
        else
          bif decide (t [DV.sl [iD x0, iD x1, iD x2, iD x3, iD x4, iD x5] 6 1 c nl] 2 ≤ 0) then
            some (bD false)
          else
            bif decide (t [DV.sl [iD x0, iD x1, iD x2, iD x3, iD x4, iD x5] 6 1 c nl] 3 ≤ 0) then
              some (bD false)
            else
              bif decide (t [DV.sl [iD x0, iD x1, iD x2, iD x3, iD x4, iD x5] 6 1 c nl] 4 ≤ 0) then
                some (bD false)
              else
                some (bD true)
    else
      none := by kernel_rfl

noncomputable def evL (ok : Nat → List DV → Bool) (t : List DV → List DV) : Ev := evT ok fun _ ds => match ds with
  | [.sl _ n _ _ _] => .sl (t ds) (n - 1) 1 false (Nat.beq n 1)
  | _ => .nilp
noncomputable def s29 (a : List Int) (c nl : Bool) (out : List DV) (i : Int) : St := ⟨[(0, .d (.sl (ints a) a.length 1 c nl)), (3, AV.grow 0 1 false), (4, .d (iD i))], [.dc out], []⟩
noncomputable def t29 (m : List DV) (k : Nat) (nl : Bool) (i : Int) : St := ⟨[(5, .d (.sl m k 1 false nl)), (6, .d (iD i))], [], []⟩

theorem r29h (ok : Nat → List DV → Bool) (t : List DV → List DV) (a : List Int) (c nl : Bool) : startS aeC (evL ok t) 29 0 Tryd.f29 none ⟨envOf 0 [.d (.sl (ints a) a.length 1 c nl)], [], []⟩ (heldD aeC 29 0) =
  some (0, ⟨[(0, .d (DV.sl (ints a) (List.length a) 1 c nl)), (3, AV.grow 0 1 false), (4, .d (iD 0))], [.dc []], []⟩) := by kernel_rfl

theorem r29_0 (ok : Nat → List DV → Bool) (t : List DV → List DV) (a : List Int) (c nl : Bool) (out : List DV) (i : Int) : startS aeC (evL ok t) 29 0 Tryd.f29 (some 0) (s29 a c nl out i) (roundD aeC 29 0 0) =
  bif decide (i < (↑(List.length a) : Int)) then
    bif inRange (IntKind.wrap IntKind.i64 ((↑(List.length a) : Int) - 1)) (List.length a) then
      getI (nth (ints a) (Int.toNat (IntKind.wrap IntKind.i64 ((↑(List.length a) : Int) - 1)) * 1)) fun x0 =>
      bif decide (x0 < 0) then
        bif inRange i (List.length a) then
          getI (nth (ints a) (Int.toNat i * 1)) fun x1 =>
          bif Nat.ble (lenOf 1 (List.length out) + 1) 1048576 then
            some (Ex.norm, ⟨[(0, .d (DV.sl (ints a) (List.length a) 1 c nl)), (3, AV.grow 0 1 false), (4, .d (iD (IntKind.wrap IntKind.i64 (i + 1))))], [.dc (out ++ [iD (IntKind.wrap IntKind.i64 (0 - x1))])], []⟩)
          else
            none
        else
          none
      else
        bif inRange i (List.length a) then
          getI (nth (ints a) (Int.toNat i * 1)) fun x2 =>
          bif Nat.ble (lenOf 1 (List.length out) + 1) 1048576 then
            some (Ex.norm, ⟨[(0, .d (DV.sl (ints a) (List.length a) 1 c nl)), (3, AV.grow 0 1 false), (4, .d (iD (IntKind.wrap IntKind.i64 (i + 1))))], [.dc (out ++ [iD x2])], []⟩)
          else
            none
        else
          none
    else
      none
  else
    some (Ex.exit 0, ⟨[(3, AV.grow 0 1 false)], [.dc out], []⟩) := by kernel_rfl

theorem r29_x (ok : Nat → List DV → Bool) (t : List DV → List DV) (out : List DV) : nextS aeC (evL ok t) 29 0 Tryd.f29 none 0 (.exit 0) ⟨[(3, AV.grow 0 1 false)], [.dc out], []⟩ (heldD aeC 29 0) =
  bif ok 49 [DV.sl out (lenOf 1 (List.length out)) 1 false (true && Nat.beq (List.length out) 0)] then
    bif Nat.beq (lenOf 1 (List.length out)) 1 || true then
      bif false || Nat.beq (lenOf 1 (List.length out)) 1 then
        some (2, ⟨[(5, .d (DV.sl (t [DV.sl out (lenOf 1 (List.length out)) 1 false (true && Nat.beq (List.length out) 0)]) (lenOf 1 (List.length out) - 1) 1 false (Nat.beq (lenOf 1 (List.length out)) 1))), (6, .d (iD 0))], [], []⟩)
      else
        some (2, ⟨[(5, .d (DV.sl (t [DV.sl out (lenOf 1 (List.length out)) 1 false (true && Nat.beq (List.length out) 0)]) (lenOf 1 (List.length out) - 1) 1 false (Nat.beq (lenOf 1 (List.length out)) 1))), (6, .d (iD 0))], [], []⟩)
    else
      none
  else
    none := by kernel_rfl

theorem r29_2 (ok : Nat → List DV → Bool) (t : List DV → List DV) (m : List DV) (k : Nat) (nl : Bool) (i : Int) : startS aeC (evL ok t) 29 0 Tryd.f29 (some 2) (t29 m k nl i) (roundD aeC 29 0 2) =
  bif decide (i < (↑k : Int)) then
    bif inRange i k then
      getI (nth m (Int.toNat i * 1)) fun x0 =>
      bif decide (x0 ≤ 0) then
        some (Ex.ret, ⟨[(2, .d (bD false))], [], []⟩)
      else
        some (Ex.norm, ⟨[(5, .d (DV.sl m k 1 false nl)), (6, .d (iD (IntKind.wrap IntKind.i64 (i + 1))))], [], []⟩)
    else
      none
  else
    some (Ex.exit 2, ⟨[], [], []⟩) := by kernel_rfl

theorem r29_y (ok : Nat → List DV → Bool) (t : List DV → List DV) : nextS aeC (evL ok t) 29 0 Tryd.f29 none 2 (.exit 2) ⟨[], [], []⟩ (doneE aeC Tryd.f29 0 fun v h => freezeV h 4 v) =
  some (bD true) := by kernel_rfl

theorem r29_z (ok : Nat → List DV → Bool) (t : List DV → List DV) (b : Bool) : nextS aeC (evL ok t) 29 0 Tryd.f29 none 2 .ret ⟨[(2, .d (bD b))], [], []⟩ (doneE aeC Tryd.f29 0 fun v h => freezeV h 4 v) =
  some (bD b) := by kernel_rfl

def lastI (a : List Int) : Int := a.getD (a.length - 1) 0
/-- With a last coefficient that is not less than 0. -/
def sgnW (a : List Int) : List Int := if lastI a < 0 then a.map (fun x => IntKind.wrap .i64 (0 - x)) else a
def sg (a : List Int) (x : Int) : Int := if lastI a < 0 then IntKind.wrap .i64 (0 - x) else x
theorem sg_neg {a : List Int} (h : lastI a < 0) (x : Int) : sg a x = IntKind.wrap .i64 (0 - x) := if_pos h
theorem sg_pos {a : List Int} (h : ¬ lastI a < 0) (x : Int) : sg a x = x := if_neg h
def steadyW (a : List Int) : Bool := (minL (sgnW a)).all fun m => decide (0 < m)
def chain : List Int → Option DV
  | [] => some (bD true)
  | m :: r => bif decide (m ≤ 0) then some (bD false) else chain r
theorem chain_all : ∀ l : List Int, chain l = some (bD (l.all fun m => decide (0 < m)))
  | [] => rfl
  | m :: r => by
    simp only [chain]
    by_cases h : m ≤ 0
    · rw [cnd_pos h, List.all_cons, decide_eq_false (by omega)]; rfl
    · rw [cnd_neg h, chain_all r, List.all_cons, decide_eq_true (by omega), Bool.true_and]
theorem minL_len (a : List Int) : (minL a).length = a.length - 1 := by simp [minL]
def t63 (ds : List DV) (i : Nat) : Int := match ds with
  | [.sl cs _ _ _ _] => (minL (unI cs)).getD i 0
  | _ => 0
theorem g63 {f : Nat} {ds : List DV} {d : DV} (h : PureOK Tryd.prog f ds d) (e : sh63 t63 f ds = d) : okS (sh63 t63) f ds = true := okS_is (by rw [e]; exact h)
theorem sgn_pos {a : List Int} (h : lastI a < 0) : steadyW a = (minL (a.map fun x => IntKind.wrap .i64 (0 - x))).all fun m => decide (0 < m) := by unfold steadyW sgnW; rw [if_pos h]
theorem sgn_neg {a : List Int} (h : ¬ lastI a < 0) : steadyW a = (minL a).all fun m => decide (0 < m) := by unfold steadyW sgnW; rw [if_neg h]

theorem c61_1 (x0 : Int) (c nl : Bool) : PureOK Tryd.prog 61 [ls [x0] c nl] (bD (steadyW [x0])) := by
  refine walk (fs := [63, 49]) (shape := sh63 t63) (by kernel_rfl : tget aeF 61 = some Tryd.f61) ((u61_1 (okS (sh63 t63)) t63 c nl x0).trans ?_)
  by_cases h : x0 < 0
  · refine (cnd_pos h).trans ?_
    refine (cond_is (g63 (c63_1 (IntKind.wrap .i64 (0 - x0)) false false) (by kernel_rfl))).trans ?_
    rw [sgn_pos (a := [x0]) h]
    exact Eq.trans (b := chain (minL [IntKind.wrap .i64 (0 - x0)])) (by kernel_rfl) (chain_all _)
  · refine (cnd_neg h).trans ?_
    refine (cond_is (g63 (c63_1 x0 c nl) (by kernel_rfl))).trans ?_
    rw [sgn_neg (a := [x0]) h]
    exact Eq.trans (b := chain (minL [x0])) (by kernel_rfl) (chain_all _)

theorem c61_2 (x0 x1 : Int) (c nl : Bool) : PureOK Tryd.prog 61 [ls [x0, x1] c nl] (bD (steadyW [x0, x1])) := by
  refine walk (fs := [63, 49]) (shape := sh63 t63) (by kernel_rfl : tget aeF 61 = some Tryd.f61) ((u61_2 (okS (sh63 t63)) t63 c nl x0 x1).trans ?_)
  by_cases h : x1 < 0
  · refine (cnd_pos h).trans ?_
    refine (cond_is (g63 (c63_2 (IntKind.wrap .i64 (0 - x0)) (IntKind.wrap .i64 (0 - x1)) false false) (by kernel_rfl))).trans ?_
    rw [sgn_pos (a := [x0, x1]) h]
    exact Eq.trans (b := chain (minL [IntKind.wrap .i64 (0 - x0), IntKind.wrap .i64 (0 - x1)])) (by kernel_rfl) (chain_all _)
  · refine (cnd_neg h).trans ?_
    refine (cond_is (g63 (c63_2 x0 x1 c nl) (by kernel_rfl))).trans ?_
    rw [sgn_neg (a := [x0, x1]) h]
    exact Eq.trans (b := chain (minL [x0, x1])) (by kernel_rfl) (chain_all _)

theorem c61_3 (x0 x1 x2 : Int) (c nl : Bool) : PureOK Tryd.prog 61 [ls [x0, x1, x2] c nl] (bD (steadyW [x0, x1, x2])) := by
  refine walk (fs := [63, 49]) (shape := sh63 t63) (by kernel_rfl : tget aeF 61 = some Tryd.f61) ((u61_3 (okS (sh63 t63)) t63 c nl x0 x1 x2).trans ?_)
  by_cases h : x2 < 0
  · refine (cnd_pos h).trans ?_
    refine (cond_is (g63 (c63_3 (IntKind.wrap .i64 (0 - x0)) (IntKind.wrap .i64 (0 - x1)) (IntKind.wrap .i64 (0 - x2)) false false) (by kernel_rfl))).trans ?_
    rw [sgn_pos (a := [x0, x1, x2]) h]
    exact Eq.trans (b := chain (minL [IntKind.wrap .i64 (0 - x0), IntKind.wrap .i64 (0 - x1), IntKind.wrap .i64 (0 - x2)])) (by kernel_rfl) (chain_all _)
  · refine (cnd_neg h).trans ?_
    refine (cond_is (g63 (c63_3 x0 x1 x2 c nl) (by kernel_rfl))).trans ?_
    rw [sgn_neg (a := [x0, x1, x2]) h]
    exact Eq.trans (b := chain (minL [x0, x1, x2])) (by kernel_rfl) (chain_all _)

theorem c61_4 (x0 x1 x2 x3 : Int) (c nl : Bool) : PureOK Tryd.prog 61 [ls [x0, x1, x2, x3] c nl] (bD (steadyW [x0, x1, x2, x3])) := by
  refine walk (fs := [63, 49]) (shape := sh63 t63) (by kernel_rfl : tget aeF 61 = some Tryd.f61) ((u61_4 (okS (sh63 t63)) t63 c nl x0 x1 x2 x3).trans ?_)
  by_cases h : x3 < 0
  · refine (cnd_pos h).trans ?_
    refine (cond_is (g63 (c63_4 (IntKind.wrap .i64 (0 - x0)) (IntKind.wrap .i64 (0 - x1)) (IntKind.wrap .i64 (0 - x2)) (IntKind.wrap .i64 (0 - x3)) false false) (by kernel_rfl))).trans ?_
    rw [sgn_pos (a := [x0, x1, x2, x3]) h]
    exact Eq.trans (b := chain (minL [IntKind.wrap .i64 (0 - x0), IntKind.wrap .i64 (0 - x1), IntKind.wrap .i64 (0 - x2), IntKind.wrap .i64 (0 - x3)])) (by kernel_rfl) (chain_all _)
  · refine (cnd_neg h).trans ?_
    refine (cond_is (g63 (c63_4 x0 x1 x2 x3 c nl) (by kernel_rfl))).trans ?_
    rw [sgn_neg (a := [x0, x1, x2, x3]) h]
    exact Eq.trans (b := chain (minL [x0, x1, x2, x3])) (by kernel_rfl) (chain_all _)

theorem c61_5 (x0 x1 x2 x3 x4 : Int) (c nl : Bool) : PureOK Tryd.prog 61 [ls [x0, x1, x2, x3, x4] c nl] (bD (steadyW [x0, x1, x2, x3, x4])) := by
  refine walk (fs := [63, 49]) (shape := sh63 t63) (by kernel_rfl : tget aeF 61 = some Tryd.f61) ((u61_5 (okS (sh63 t63)) t63 c nl x0 x1 x2 x3 x4).trans ?_)
  by_cases h : x4 < 0
  · refine (cnd_pos h).trans ?_
    refine (cond_is (g63 (c63_5 (IntKind.wrap .i64 (0 - x0)) (IntKind.wrap .i64 (0 - x1)) (IntKind.wrap .i64 (0 - x2)) (IntKind.wrap .i64 (0 - x3)) (IntKind.wrap .i64 (0 - x4)) false false) (by kernel_rfl))).trans ?_
    rw [sgn_pos (a := [x0, x1, x2, x3, x4]) h]
    exact Eq.trans (b := chain (minL [IntKind.wrap .i64 (0 - x0), IntKind.wrap .i64 (0 - x1), IntKind.wrap .i64 (0 - x2), IntKind.wrap .i64 (0 - x3), IntKind.wrap .i64 (0 - x4)])) (by kernel_rfl) (chain_all _)
  · refine (cnd_neg h).trans ?_
    refine (cond_is (g63 (c63_5 x0 x1 x2 x3 x4 c nl) (by kernel_rfl))).trans ?_
    rw [sgn_neg (a := [x0, x1, x2, x3, x4]) h]
    exact Eq.trans (b := chain (minL [x0, x1, x2, x3, x4])) (by kernel_rfl) (chain_all _)

theorem c61_6 (x0 x1 x2 x3 x4 x5 : Int) (c nl : Bool) : PureOK Tryd.prog 61 [ls [x0, x1, x2, x3, x4, x5] c nl] (bD (steadyW [x0, x1, x2, x3, x4, x5])) := by
  refine walk (fs := [63, 49]) (shape := sh63 t63) (by kernel_rfl : tget aeF 61 = some Tryd.f61) ((u61_6 (okS (sh63 t63)) t63 c nl x0 x1 x2 x3 x4 x5).trans ?_)
  by_cases h : x5 < 0
  · refine (cnd_pos h).trans ?_
    refine (cond_is (g63 (c63_6 (IntKind.wrap .i64 (0 - x0)) (IntKind.wrap .i64 (0 - x1)) (IntKind.wrap .i64 (0 - x2)) (IntKind.wrap .i64 (0 - x3)) (IntKind.wrap .i64 (0 - x4)) (IntKind.wrap .i64 (0 - x5)) false false) (by kernel_rfl))).trans ?_
    rw [sgn_pos (a := [x0, x1, x2, x3, x4, x5]) h]
    exact Eq.trans (b := chain (minL [IntKind.wrap .i64 (0 - x0), IntKind.wrap .i64 (0 - x1), IntKind.wrap .i64 (0 - x2), IntKind.wrap .i64 (0 - x3), IntKind.wrap .i64 (0 - x4), IntKind.wrap .i64 (0 - x5)])) (by kernel_rfl) (chain_all _)
  · refine (cnd_neg h).trans ?_
    refine (cond_is (g63 (c63_6 x0 x1 x2 x3 x4 x5 c nl) (by kernel_rfl))).trans ?_
    rw [sgn_neg (a := [x0, x1, x2, x3, x4, x5]) h]
    exact Eq.trans (b := chain (minL [x0, x1, x2, x3, x4, x5])) (by kernel_rfl) (chain_all _)

theorem c61 : ∀ (a : List Int) (c nl : Bool), 1 ≤ a.length → a.length ≤ 6 → PureOK Tryd.prog 61 [ls a c nl] (bD (steadyW a))
  | [x0], c, nl, _, _ => c61_1 x0 c nl
  | [x0, x1], c, nl, _, _ => c61_2 x0 x1 c nl
  | [x0, x1, x2], c, nl, _, _ => c61_3 x0 x1 x2 c nl
  | [x0, x1, x2, x3], c, nl, _, _ => c61_4 x0 x1 x2 x3 c nl
  | [x0, x1, x2, x3, x4], c, nl, _, _ => c61_5 x0 x1 x2 x3 x4 c nl
  | [x0, x1, x2, x3, x4, x5], c, nl, _, _ => c61_6 x0 x1 x2 x3 x4 x5 c nl
  | [], _, _, h, _ => absurd h (by simp)
  | _ :: _ :: _ :: _ :: _ :: _ :: _ :: _, _, _, _, h => absurd h (by simp)

theorem k29 : OkSeg Tryd.f29 none [0, 2] := ⟨by kernel_rfl, by kernel_rfl, by decide⟩
theorem k29_0 : OkSeg Tryd.f29 (some 0) [] := ⟨by kernel_rfl, by kernel_rfl, by decide⟩
theorem k29_2 : OkSeg Tryd.f29 (some 2) [] := ⟨by kernel_rfl, by kernel_rfl, by decide⟩
def tL (ds : List DV) : List DV := match ds with
  | [.sl cs _ _ _ _] => ints (minL (unI cs))
  | _ => []
def shL (t : List DV → List DV) : Nat → List DV → DV := fun _ ds => match ds with
  | [.sl _ n _ _ _] => .sl (t ds) (n - 1) 1 false (Nat.beq n 1)
  | _ => .nilp

theorem l29_0 (ok : Nat → List DV → Bool) (t : List DV → List DV) (a : List Int) (c nl : Bool) (h6 : a.length ≤ 6) (h1 : 1 ≤ a.length) : ∀ (r : List Int) (i : Nat) (out : List Int), out.length = i → i ≤ a.length → a.drop i = r →
    LoopAt aeC (evL ok t) 29 0 Tryd.f29 0 (s29 a c nl (ints out) i) (.exit 0) ⟨[(3, AV.grow 0 1 false)], [.dc (ints (out ++ r.map (sg a)))], []⟩
  | [], i, out, ho, hi, hr => by
    have q1 := drop_nil_o hr
    refine .out k29_0 (by simp) ((r29_0 ..).trans ?_)
    rw [cnd_neg (by omega)]
    simp
  | x :: r, i, out, ho, hi, hr => by
    obtain ⟨q1, q2, q3⟩ := drop_cons_o (d := 0) hr
    have res := r29_0 ok t a c nl (ints out) i
    have hw : IntKind.wrap .i64 ((a.length : Int) - 1) = ((a.length - 1 : Nat) : Int) := by rw [wrap64_o (by omega) (by omega)]; omega
    rw [hw] at res
    have ih := fun y => l29_0 ok t a c nl h6 h1 r (i + 1) (out ++ [y]) (by simp [ho]) q1 q3
    by_cases hl : lastI a < 0
    · have hl' : a.getD (a.length - 1) 0 < 0 := hl
      revert res
      simp (disch := omega) only [cnd_pos, cnd_neg, inR_pos, ble_pos, blt_pos, beq_pos, cond_and, cond_or, Bool.cond_not, cond_true, cond_false, Bool.and_true, Bool.true_and, getI_some, getB_some, nth_ints_o, nth_bools_o, wrap64_o, len_ints, len_bools, lenOf_1, Int.toNat_natCast, Nat.mul_one, Nat.zero_add, setNth_bools_o, setNth_ints_o, len_set_i, len_set_b, Option.bind_some, List.length_append, List.length_cons, List.length_nil, unI_ints, unB_bools, ints_app1, bools_app1, nth_pr1, nth_pr2, len_prs, abs_if, Nat.add_zero, cond_same, q2]
      intro res
      have := ih (IntKind.wrap .i64 (0 - x))
      rw [List.append_assoc, List.singleton_append] at this
      rw [List.map_cons, sg_neg hl]
      exact .next k29_0 res this
    · have hl' : ¬ a.getD (a.length - 1) 0 < 0 := hl
      revert res
      simp (disch := omega) only [cnd_pos, cnd_neg, inR_pos, ble_pos, blt_pos, beq_pos, cond_and, cond_or, Bool.cond_not, cond_true, cond_false, Bool.and_true, Bool.true_and, getI_some, getB_some, nth_ints_o, nth_bools_o, wrap64_o, len_ints, len_bools, lenOf_1, Int.toNat_natCast, Nat.mul_one, Nat.zero_add, setNth_bools_o, setNth_ints_o, len_set_i, len_set_b, Option.bind_some, List.length_append, List.length_cons, List.length_nil, unI_ints, unB_bools, ints_app1, bools_app1, nth_pr1, nth_pr2, len_prs, abs_if, Nat.add_zero, cond_same, q2]
      intro res
      have := ih x
      rw [List.append_assoc, List.singleton_append] at this
      rw [List.map_cons, sg_pos hl]
      exact .next k29_0 res this

theorem l29_2 (ok : Nat → List DV → Bool) (t : List DV → List DV) (m : List Int) (nl : Bool) (h6 : m.length ≤ 6) : ∀ (r : List Int) (i : Nat), i ≤ m.length → m.drop i = r →
    LoopAt aeC (evL ok t) 29 0 Tryd.f29 2 (t29 (ints m) m.length nl i) (if r.all (fun x => decide (0 < x)) then .exit 2 else .ret) (if r.all (fun x => decide (0 < x)) then ⟨[], [], []⟩ else ⟨[(2, .d (bD false))], [], []⟩)
  | [], i, hi, hr => by
    have q1 := drop_nil_o hr
    refine .out k29_2 (by simp) ((r29_2 ..).trans ?_)
    rw [cnd_neg (by omega)]
    simp
  | x :: r, i, hi, hr => by
    obtain ⟨q1, q2, q3⟩ := drop_cons_o (d := 0) hr
    have res := r29_2 ok t (ints m) m.length nl i
    by_cases hx : x ≤ 0
    · revert res
      simp (disch := omega) only [cnd_pos, cnd_neg, inR_pos, ble_pos, blt_pos, beq_pos, cond_and, cond_or, Bool.cond_not, cond_true, cond_false, Bool.and_true, Bool.true_and, getI_some, getB_some, nth_ints_o, nth_bools_o, wrap64_o, len_ints, len_bools, lenOf_1, Int.toNat_natCast, Nat.mul_one, Nat.zero_add, setNth_bools_o, setNth_ints_o, len_set_i, len_set_b, Option.bind_some, List.length_append, List.length_cons, List.length_nil, unI_ints, unB_bools, ints_app1, bools_app1, nth_pr1, nth_pr2, len_prs, abs_if, Nat.add_zero, cond_same, q2]
      intro res
      rw [List.all_cons, decide_eq_false (by omega), Bool.false_and, if_neg (by simp), if_neg (by simp)]
      exact .out k29_2 (by simp) res
    · revert res
      simp (disch := omega) only [cnd_pos, cnd_neg, inR_pos, ble_pos, blt_pos, beq_pos, cond_and, cond_or, Bool.cond_not, cond_true, cond_false, Bool.and_true, Bool.true_and, getI_some, getB_some, nth_ints_o, nth_bools_o, wrap64_o, len_ints, len_bools, lenOf_1, Int.toNat_natCast, Nat.mul_one, Nat.zero_add, setNth_bools_o, setNth_ints_o, len_set_i, len_set_b, Option.bind_some, List.length_append, List.length_cons, List.length_nil, unI_ints, unB_bools, ints_app1, bools_app1, nth_pr1, nth_pr2, len_prs, abs_if, Nat.add_zero, cond_same, q2]
      intro res
      rw [List.all_cons, decide_eq_true (by omega), Bool.true_and]
      exact .next k29_2 res (l29_2 ok t m nl h6 r (i + 1) q1 q3)

theorem evL_ok : EvOK Tryd.prog (evL (okS (shL tL)) tL) := evT_ok (shL tL)

theorem sgn_map (a : List Int) : a.map (sg a) = sgnW a := by
  unfold sgnW
  split
  · rename_i h; exact List.map_congr_left fun x _ => sg_neg h x
  · rename_i h; rw [List.map_congr_left fun x _ => sg_pos h x]; simp

theorem c29 (a : List Int) (c nl : Bool) (h1 : 1 ≤ a.length) (h6 : a.length ≤ 6) : PureOK Tryd.prog 29 [ls a c nl] (bD (steadyW a)) := by
  refine ae_pure evL_ok (fn := Tryd.f29) k29 (by kernel_rfl) (by kernel_rfl) ?_
  have loop := l29_0 (okS (shL tL)) tL a c nl h6 h1 a 0 [] rfl (by omega) rfl
  rw [List.nil_append, sgn_map] at loop
  have hs : (sgnW a).length = a.length := by unfold sgnW; split <;> simp
  have hx := r29_x (okS (shL tL)) tL (ints (sgnW a))
  have hb : (true && Nat.beq (ints (sgnW a)).length 0) = false := by
    rw [len_ints, hs, Bool.true_and]
    cases q : Nat.beq a.length 0 with
    | false => rfl
    | true => have := Nat.eq_of_beq_eq_true q; omega
  have hg : okS (shL tL) 49 [.sl (ints (sgnW a)) (lenOf 1 (ints (sgnW a)).length) 1 false false] = true := by
    refine okS_is ?_
    have := c49 (sgnW a) false false (by omega) (by omega)
    rw [Go.AE.lenOf_1, len_ints]
    have e : shL tL 49 [.sl (ints (sgnW a)) (sgnW a).length 1 false false] = lsN (minL (sgnW a)) false := by
      show DV.sl (ints (minL (unI (ints (sgnW a))))) ((sgnW a).length - 1) 1 false (Nat.beq (sgnW a).length 1) = _
      rw [unI_ints, ← minL_len]
      have : Nat.beq (sgnW a).length 1 = (minL (sgnW a)).isEmpty := by
        have h := minL_len (sgnW a)
        cases q : minL (sgnW a) with
        | nil => rw [q] at h; simp at h; rw [show (sgnW a).length = 1 by omega]; rfl
        | cons u v =>
          rw [q] at h
          simp only [List.isEmpty_cons]
          cases q2 : Nat.beq (sgnW a).length 1 with
          | false => rfl
          | true => have := Nat.eq_of_beq_eq_true q2; simp at h; omega
      rw [this]
    rw [e]; exact this
  rw [hb, hg, Bool.or_true, cond_true, cond_true, Bool.false_or, cond_same] at hx
  have hd : (DV.sl (tL [.sl (ints (sgnW a)) (lenOf 1 (ints (sgnW a)).length) 1 false false]) (lenOf 1 (ints (sgnW a)).length - 1) 1 false (Nat.beq (lenOf 1 (ints (sgnW a)).length) 1)) = .sl (ints (minL (sgnW a))) (minL (sgnW a)).length 1 false (Nat.beq (sgnW a).length 1) := by
    show DV.sl (ints (minL (unI (ints (sgnW a))))) _ 1 false _ = _
    rw [unI_ints, Go.AE.lenOf_1, len_ints, minL_len]
  rw [hd] at hx
  have loop2 := l29_2 (okS (shL tL)) tL (minL (sgnW a)) (Nat.beq (sgnW a).length 1) (by rw [minL_len]; omega) (minL (sgnW a)) 0 (by omega) rfl
  refine Eq.trans (startF_seg k29 (r29h ..) loop) ?_
  refine Eq.trans (nextF_seg k29 (by simp) (exit_small (by omega)) hx loop2) ?_
  unfold steadyW
  cases hall : (minL (sgnW a)).all fun m => decide (0 < m) with
  | true => rw [if_pos rfl, if_pos rfl]; exact nextF_done k29 done_plain (r29_y ..)
  | false => rw [if_neg (by simp), if_neg (by simp)]; exact nextF_done k29 done_plain (r29_z ..)
end Go.Proofs.YtiicbenhhdbnoaaDoor
