/- Part 6 of what the law stands on: the abstract machine over the model, and what the functions answer. No condition. -/
import Derived.Test.YtiicbenhhdbnoaaDoorM5
set_option linter.unusedSimpArgs false
set_option linter.unusedVariables false

/- Chapter 09: checks, discs, halves, turned ones. Written by wip/tools/genC3.py. -/
namespace Go.Proofs.YtiicbenhhdbnoaaDoor
open Go Go.AE
set_option maxRecDepth 100000

/-- All calls are walked. -/
noncomputable def evA : Ev := evW [] (okS noS) noS
theorem walkA {f : FuncId} {fn : Func} {ds : List DV} {d : DV} (h : tget aeF f = some fn) (e : pureE aeC evA 30 f fn ds = some d) : PureOK Tryd.prog f ds d := walk h e

/-! ### Checks -/
def wch (good bad : Option DV) : List Int → Option DV
  | [] => good
  | x :: r => bif decide (x < -30) then bad else bif decide (30 < x) then bad else wch good bad r
def withinB (l : List Int) : Bool := l.all fun x => decide (-30 ≤ x) && decide (x ≤ 30)
theorem wch_eq (g b : Option DV) : ∀ l : List Int, wch g b l = bif withinB l then g else b
  | [] => rfl
  | x :: r => by
    simp only [wch, withinB, List.all_cons]
    by_cases h1 : x < -30
    · rw [cnd_pos h1, decide_eq_false (p := -30 ≤ x) (by omega)]; rfl
    · rw [cnd_neg h1]
      by_cases h2 : 30 < x
      · rw [cnd_pos h2, decide_eq_false (p := x ≤ 30) (by omega), Bool.and_false]; rfl
      · rw [cnd_neg h2, decide_eq_true (p := -30 ≤ x) (by omega), decide_eq_true (p := x ≤ 30) (by omega), wch_eq g b r]; rfl
/-- Whether this is a polynomial. -/
def polyB (a : List Int) : Bool := decide (1 ≤ a.length) && (decide (a.length ≤ 6) && (withinB a && !decide (lastI a = 0)))
theorem cond_tr {R : Type} (b c : Bool) (x y z : R) : (bif (bif b then c else false) then x else y) = bif b then (bif c then x else y) else y := by cases b <;> rfl
theorem some_cond {b : Bool} {x y : DV} : (bif b then some x else some y) = some (bif b then x else y) := by cases b <;> rfl
theorem iD_cond {b : Bool} {x y : Int} : (bif b then iD x else iD y) = iD (bif b then x else y) := by cases b <;> rfl
theorem bD_cond {b : Bool} {x y : Bool} : (bif b then bD x else bD y) = bD (bif b then x else y) := by cases b <;> rfl
def checkI (a : List Int) : Int := bif polyB a then 0 else 90

theorem c53_0 (c nl : Bool) : PureOK Tryd.prog 53 [ls [] c nl] (iD (checkI [])) := by
  exact walkA (by kernel_rfl : tget aeF 53 = some Tryd.f53) (by kernel_rfl)

theorem c53_1 (x0 : Int) (c nl : Bool) : PureOK Tryd.prog 53 [ls [x0] c nl] (iD (checkI [x0])) := by
  have h : pureE aeC evA 30 53 Tryd.f53 [.sl [iD x0] 1 1 c nl] = wch (bif decide (x0 = 0) then some (iD 90) else some (iD 0)) (some (iD 90)) [x0] := by kernel_rfl
  refine walkA (by kernel_rfl : tget aeF 53 = some Tryd.f53) (h.trans ((wch_eq _ _ _).trans ?_))
  show _ = some (iD (bif withinB [x0] && !decide (x0 = 0) then 0 else 90))
  cases withinB [x0] <;> cases decide (x0 = 0) <;> rfl

theorem c53_2 (x0 x1 : Int) (c nl : Bool) : PureOK Tryd.prog 53 [ls [x0, x1] c nl] (iD (checkI [x0, x1])) := by
  have h : pureE aeC evA 30 53 Tryd.f53 [.sl [iD x0, iD x1] 2 1 c nl] = wch (bif decide (x1 = 0) then some (iD 90) else some (iD 0)) (some (iD 90)) [x0, x1] := by kernel_rfl
  refine walkA (by kernel_rfl : tget aeF 53 = some Tryd.f53) (h.trans ((wch_eq _ _ _).trans ?_))
  show _ = some (iD (bif withinB [x0, x1] && !decide (x1 = 0) then 0 else 90))
  cases withinB [x0, x1] <;> cases decide (x1 = 0) <;> rfl

theorem c53_3 (x0 x1 x2 : Int) (c nl : Bool) : PureOK Tryd.prog 53 [ls [x0, x1, x2] c nl] (iD (checkI [x0, x1, x2])) := by
  have h : pureE aeC evA 30 53 Tryd.f53 [.sl [iD x0, iD x1, iD x2] 3 1 c nl] = wch (bif decide (x2 = 0) then some (iD 90) else some (iD 0)) (some (iD 90)) [x0, x1, x2] := by kernel_rfl
  refine walkA (by kernel_rfl : tget aeF 53 = some Tryd.f53) (h.trans ((wch_eq _ _ _).trans ?_))
  show _ = some (iD (bif withinB [x0, x1, x2] && !decide (x2 = 0) then 0 else 90))
  cases withinB [x0, x1, x2] <;> cases decide (x2 = 0) <;> rfl

theorem c53_4 (x0 x1 x2 x3 : Int) (c nl : Bool) : PureOK Tryd.prog 53 [ls [x0, x1, x2, x3] c nl] (iD (checkI [x0, x1, x2, x3])) := by
  have h : pureE aeC evA 30 53 Tryd.f53 [.sl [iD x0, iD x1, iD x2, iD x3] 4 1 c nl] = wch (bif decide (x3 = 0) then some (iD 90) else some (iD 0)) (some (iD 90)) [x0, x1, x2, x3] := by kernel_rfl
  refine walkA (by kernel_rfl : tget aeF 53 = some Tryd.f53) (h.trans ((wch_eq _ _ _).trans ?_))
  show _ = some (iD (bif withinB [x0, x1, x2, x3] && !decide (x3 = 0) then 0 else 90))
  cases withinB [x0, x1, x2, x3] <;> cases decide (x3 = 0) <;> rfl

theorem c53_5 (x0 x1 x2 x3 x4 : Int) (c nl : Bool) : PureOK Tryd.prog 53 [ls [x0, x1, x2, x3, x4] c nl] (iD (checkI [x0, x1, x2, x3, x4])) := by
  have h : pureE aeC evA 30 53 Tryd.f53 [.sl [iD x0, iD x1, iD x2, iD x3, iD x4] 5 1 c nl] = wch (bif decide (x4 = 0) then some (iD 90) else some (iD 0)) (some (iD 90)) [x0, x1, x2, x3, x4] := by kernel_rfl
  refine walkA (by kernel_rfl : tget aeF 53 = some Tryd.f53) (h.trans ((wch_eq _ _ _).trans ?_))
  show _ = some (iD (bif withinB [x0, x1, x2, x3, x4] && !decide (x4 = 0) then 0 else 90))
  cases withinB [x0, x1, x2, x3, x4] <;> cases decide (x4 = 0) <;> rfl

theorem c53_6 (x0 x1 x2 x3 x4 x5 : Int) (c nl : Bool) : PureOK Tryd.prog 53 [ls [x0, x1, x2, x3, x4, x5] c nl] (iD (checkI [x0, x1, x2, x3, x4, x5])) := by
  have h : pureE aeC evA 30 53 Tryd.f53 [.sl [iD x0, iD x1, iD x2, iD x3, iD x4, iD x5] 6 1 c nl] = wch (bif decide (x5 = 0) then some (iD 90) else some (iD 0)) (some (iD 90)) [x0, x1, x2, x3, x4, x5] := by kernel_rfl
  refine walkA (by kernel_rfl : tget aeF 53 = some Tryd.f53) (h.trans ((wch_eq _ _ _).trans ?_))
  show _ = some (iD (bif withinB [x0, x1, x2, x3, x4, x5] && !decide (x5 = 0) then 0 else 90))
  cases withinB [x0, x1, x2, x3, x4, x5] <;> cases decide (x5 = 0) <;> rfl

theorem c53_7 (x0 x1 x2 x3 x4 x5 x6 : Int) (c nl : Bool) : PureOK Tryd.prog 53 [ls [x0, x1, x2, x3, x4, x5, x6] c nl] (iD (checkI [x0, x1, x2, x3, x4, x5, x6])) := by
  exact walkA (by kernel_rfl : tget aeF 53 = some Tryd.f53) (by kernel_rfl)

theorem c53_8 (x0 x1 x2 x3 x4 x5 x6 x7 : Int) (c nl : Bool) : PureOK Tryd.prog 53 [ls [x0, x1, x2, x3, x4, x5, x6, x7] c nl] (iD (checkI [x0, x1, x2, x3, x4, x5, x6, x7])) := by
  exact walkA (by kernel_rfl : tget aeF 53 = some Tryd.f53) (by kernel_rfl)

theorem c53 : ∀ (a : List Int) (c nl : Bool), a.length ≤ 8 → PureOK Tryd.prog 53 [ls a c nl] (iD (checkI a))
  | [], c, nl, _ => c53_0  c nl
  | [x0], c, nl, _ => c53_1 x0 c nl
  | [x0, x1], c, nl, _ => c53_2 x0 x1 c nl
  | [x0, x1, x2], c, nl, _ => c53_3 x0 x1 x2 c nl
  | [x0, x1, x2, x3], c, nl, _ => c53_4 x0 x1 x2 x3 c nl
  | [x0, x1, x2, x3, x4], c, nl, _ => c53_5 x0 x1 x2 x3 x4 c nl
  | [x0, x1, x2, x3, x4, x5], c, nl, _ => c53_6 x0 x1 x2 x3 x4 x5 c nl
  | [x0, x1, x2, x3, x4, x5, x6], c, nl, _ => c53_7 x0 x1 x2 x3 x4 x5 x6 c nl
  | [x0, x1, x2, x3, x4, x5, x6, x7], c, nl, _ => c53_8 x0 x1 x2 x3 x4 x5 x6 x7 c nl
  | _ :: _ :: _ :: _ :: _ :: _ :: _ :: _ :: _ :: _, _, _, h => absurd h (by simp)

theorem c51_0 (c nl : Bool) : PureOK Tryd.prog 51 [ls [] c nl] (bD (polyB [])) := by
  exact walkA (by kernel_rfl : tget aeF 51 = some Tryd.f51) (by kernel_rfl)

theorem c51_1 (x0 : Int) (c nl : Bool) : PureOK Tryd.prog 51 [ls [x0] c nl] (bD (polyB [x0])) := by
  have h : pureE aeC evA 30 51 Tryd.f51 [.sl [iD x0] 1 1 c nl] = wch (some (bD (!decide (x0 = 0)))) (some (bD false)) [x0] := by kernel_rfl
  refine walkA (by kernel_rfl : tget aeF 51 = some Tryd.f51) (h.trans ((wch_eq _ _ _).trans ?_))
  show _ = some (bD (withinB [x0] && !decide (x0 = 0)))
  cases withinB [x0] <;> cases decide (x0 = 0) <;> rfl

theorem c51_2 (x0 x1 : Int) (c nl : Bool) : PureOK Tryd.prog 51 [ls [x0, x1] c nl] (bD (polyB [x0, x1])) := by
  have h : pureE aeC evA 30 51 Tryd.f51 [.sl [iD x0, iD x1] 2 1 c nl] = wch (some (bD (!decide (x1 = 0)))) (some (bD false)) [x0, x1] := by kernel_rfl
  refine walkA (by kernel_rfl : tget aeF 51 = some Tryd.f51) (h.trans ((wch_eq _ _ _).trans ?_))
  show _ = some (bD (withinB [x0, x1] && !decide (x1 = 0)))
  cases withinB [x0, x1] <;> cases decide (x1 = 0) <;> rfl

theorem c51_3 (x0 x1 x2 : Int) (c nl : Bool) : PureOK Tryd.prog 51 [ls [x0, x1, x2] c nl] (bD (polyB [x0, x1, x2])) := by
  have h : pureE aeC evA 30 51 Tryd.f51 [.sl [iD x0, iD x1, iD x2] 3 1 c nl] = wch (some (bD (!decide (x2 = 0)))) (some (bD false)) [x0, x1, x2] := by kernel_rfl
  refine walkA (by kernel_rfl : tget aeF 51 = some Tryd.f51) (h.trans ((wch_eq _ _ _).trans ?_))
  show _ = some (bD (withinB [x0, x1, x2] && !decide (x2 = 0)))
  cases withinB [x0, x1, x2] <;> cases decide (x2 = 0) <;> rfl

theorem c51_4 (x0 x1 x2 x3 : Int) (c nl : Bool) : PureOK Tryd.prog 51 [ls [x0, x1, x2, x3] c nl] (bD (polyB [x0, x1, x2, x3])) := by
  have h : pureE aeC evA 30 51 Tryd.f51 [.sl [iD x0, iD x1, iD x2, iD x3] 4 1 c nl] = wch (some (bD (!decide (x3 = 0)))) (some (bD false)) [x0, x1, x2, x3] := by kernel_rfl
  refine walkA (by kernel_rfl : tget aeF 51 = some Tryd.f51) (h.trans ((wch_eq _ _ _).trans ?_))
  show _ = some (bD (withinB [x0, x1, x2, x3] && !decide (x3 = 0)))
  cases withinB [x0, x1, x2, x3] <;> cases decide (x3 = 0) <;> rfl

theorem c51_5 (x0 x1 x2 x3 x4 : Int) (c nl : Bool) : PureOK Tryd.prog 51 [ls [x0, x1, x2, x3, x4] c nl] (bD (polyB [x0, x1, x2, x3, x4])) := by
  have h : pureE aeC evA 30 51 Tryd.f51 [.sl [iD x0, iD x1, iD x2, iD x3, iD x4] 5 1 c nl] = wch (some (bD (!decide (x4 = 0)))) (some (bD false)) [x0, x1, x2, x3, x4] := by kernel_rfl
  refine walkA (by kernel_rfl : tget aeF 51 = some Tryd.f51) (h.trans ((wch_eq _ _ _).trans ?_))
  show _ = some (bD (withinB [x0, x1, x2, x3, x4] && !decide (x4 = 0)))
  cases withinB [x0, x1, x2, x3, x4] <;> cases decide (x4 = 0) <;> rfl

theorem c51_6 (x0 x1 x2 x3 x4 x5 : Int) (c nl : Bool) : PureOK Tryd.prog 51 [ls [x0, x1, x2, x3, x4, x5] c nl] (bD (polyB [x0, x1, x2, x3, x4, x5])) := by
  have h : pureE aeC evA 30 51 Tryd.f51 [.sl [iD x0, iD x1, iD x2, iD x3, iD x4, iD x5] 6 1 c nl] = wch (some (bD (!decide (x5 = 0)))) (some (bD false)) [x0, x1, x2, x3, x4, x5] := by kernel_rfl
  refine walkA (by kernel_rfl : tget aeF 51 = some Tryd.f51) (h.trans ((wch_eq _ _ _).trans ?_))
  show _ = some (bD (withinB [x0, x1, x2, x3, x4, x5] && !decide (x5 = 0)))
  cases withinB [x0, x1, x2, x3, x4, x5] <;> cases decide (x5 = 0) <;> rfl

theorem c51_7 (x0 x1 x2 x3 x4 x5 x6 : Int) (c nl : Bool) : PureOK Tryd.prog 51 [ls [x0, x1, x2, x3, x4, x5, x6] c nl] (bD (polyB [x0, x1, x2, x3, x4, x5, x6])) := by
  exact walkA (by kernel_rfl : tget aeF 51 = some Tryd.f51) (by kernel_rfl)

theorem c51_8 (x0 x1 x2 x3 x4 x5 x6 x7 : Int) (c nl : Bool) : PureOK Tryd.prog 51 [ls [x0, x1, x2, x3, x4, x5, x6, x7] c nl] (bD (polyB [x0, x1, x2, x3, x4, x5, x6, x7])) := by
  exact walkA (by kernel_rfl : tget aeF 51 = some Tryd.f51) (by kernel_rfl)

theorem c51 : ∀ (a : List Int) (c nl : Bool), a.length ≤ 8 → PureOK Tryd.prog 51 [ls a c nl] (bD (polyB a))
  | [], c, nl, _ => c51_0  c nl
  | [x0], c, nl, _ => c51_1 x0 c nl
  | [x0, x1], c, nl, _ => c51_2 x0 x1 c nl
  | [x0, x1, x2], c, nl, _ => c51_3 x0 x1 x2 c nl
  | [x0, x1, x2, x3], c, nl, _ => c51_4 x0 x1 x2 x3 c nl
  | [x0, x1, x2, x3, x4], c, nl, _ => c51_5 x0 x1 x2 x3 x4 c nl
  | [x0, x1, x2, x3, x4, x5], c, nl, _ => c51_6 x0 x1 x2 x3 x4 x5 c nl
  | [x0, x1, x2, x3, x4, x5, x6], c, nl, _ => c51_7 x0 x1 x2 x3 x4 x5 x6 c nl
  | [x0, x1, x2, x3, x4, x5, x6, x7], c, nl, _ => c51_8 x0 x1 x2 x3 x4 x5 x6 x7 c nl
  | _ :: _ :: _ :: _ :: _ :: _ :: _ :: _ :: _ :: _, _, _, h => absurd h (by simp)

theorem c62_0 (c nl : Bool) : PureOK Tryd.prog 62 [ls [] c nl] (bD (withinB [])) := by
  have h : pureE aeC evA 30 62 Tryd.f62 [.sl [] 0 1 c nl] = wch (some (bD true)) (some (bD false)) [] := by kernel_rfl
  refine walkA (by kernel_rfl : tget aeF 62 = some Tryd.f62) (h.trans ((wch_eq _ _ _).trans ?_))
  cases withinB [] <;> rfl
theorem c62_1 (x0 : Int) (c nl : Bool) : PureOK Tryd.prog 62 [ls [x0] c nl] (bD (withinB [x0])) := by
  have h : pureE aeC evA 30 62 Tryd.f62 [.sl [iD x0] 1 1 c nl] = wch (some (bD true)) (some (bD false)) [x0] := by kernel_rfl
  refine walkA (by kernel_rfl : tget aeF 62 = some Tryd.f62) (h.trans ((wch_eq _ _ _).trans ?_))
  cases withinB [x0] <;> rfl
theorem c62_2 (x0 x1 : Int) (c nl : Bool) : PureOK Tryd.prog 62 [ls [x0, x1] c nl] (bD (withinB [x0, x1])) := by
  have h : pureE aeC evA 30 62 Tryd.f62 [.sl [iD x0, iD x1] 2 1 c nl] = wch (some (bD true)) (some (bD false)) [x0, x1] := by kernel_rfl
  refine walkA (by kernel_rfl : tget aeF 62 = some Tryd.f62) (h.trans ((wch_eq _ _ _).trans ?_))
  cases withinB [x0, x1] <;> rfl
theorem c62_3 (x0 x1 x2 : Int) (c nl : Bool) : PureOK Tryd.prog 62 [ls [x0, x1, x2] c nl] (bD (withinB [x0, x1, x2])) := by
  have h : pureE aeC evA 30 62 Tryd.f62 [.sl [iD x0, iD x1, iD x2] 3 1 c nl] = wch (some (bD true)) (some (bD false)) [x0, x1, x2] := by kernel_rfl
  refine walkA (by kernel_rfl : tget aeF 62 = some Tryd.f62) (h.trans ((wch_eq _ _ _).trans ?_))
  cases withinB [x0, x1, x2] <;> rfl
theorem c62_4 (x0 x1 x2 x3 : Int) (c nl : Bool) : PureOK Tryd.prog 62 [ls [x0, x1, x2, x3] c nl] (bD (withinB [x0, x1, x2, x3])) := by
  have h : pureE aeC evA 30 62 Tryd.f62 [.sl [iD x0, iD x1, iD x2, iD x3] 4 1 c nl] = wch (some (bD true)) (some (bD false)) [x0, x1, x2, x3] := by kernel_rfl
  refine walkA (by kernel_rfl : tget aeF 62 = some Tryd.f62) (h.trans ((wch_eq _ _ _).trans ?_))
  cases withinB [x0, x1, x2, x3] <;> rfl
theorem c62_5 (x0 x1 x2 x3 x4 : Int) (c nl : Bool) : PureOK Tryd.prog 62 [ls [x0, x1, x2, x3, x4] c nl] (bD (withinB [x0, x1, x2, x3, x4])) := by
  have h : pureE aeC evA 30 62 Tryd.f62 [.sl [iD x0, iD x1, iD x2, iD x3, iD x4] 5 1 c nl] = wch (some (bD true)) (some (bD false)) [x0, x1, x2, x3, x4] := by kernel_rfl
  refine walkA (by kernel_rfl : tget aeF 62 = some Tryd.f62) (h.trans ((wch_eq _ _ _).trans ?_))
  cases withinB [x0, x1, x2, x3, x4] <;> rfl
theorem c62_6 (x0 x1 x2 x3 x4 x5 : Int) (c nl : Bool) : PureOK Tryd.prog 62 [ls [x0, x1, x2, x3, x4, x5] c nl] (bD (withinB [x0, x1, x2, x3, x4, x5])) := by
  have h : pureE aeC evA 30 62 Tryd.f62 [.sl [iD x0, iD x1, iD x2, iD x3, iD x4, iD x5] 6 1 c nl] = wch (some (bD true)) (some (bD false)) [x0, x1, x2, x3, x4, x5] := by kernel_rfl
  refine walkA (by kernel_rfl : tget aeF 62 = some Tryd.f62) (h.trans ((wch_eq _ _ _).trans ?_))
  cases withinB [x0, x1, x2, x3, x4, x5] <;> rfl
theorem c62_7 (x0 x1 x2 x3 x4 x5 x6 : Int) (c nl : Bool) : PureOK Tryd.prog 62 [ls [x0, x1, x2, x3, x4, x5, x6] c nl] (bD (withinB [x0, x1, x2, x3, x4, x5, x6])) := by
  have h : pureE aeC evA 30 62 Tryd.f62 [.sl [iD x0, iD x1, iD x2, iD x3, iD x4, iD x5, iD x6] 7 1 c nl] = wch (some (bD true)) (some (bD false)) [x0, x1, x2, x3, x4, x5, x6] := by kernel_rfl
  refine walkA (by kernel_rfl : tget aeF 62 = some Tryd.f62) (h.trans ((wch_eq _ _ _).trans ?_))
  cases withinB [x0, x1, x2, x3, x4, x5, x6] <;> rfl
theorem c62_8 (x0 x1 x2 x3 x4 x5 x6 x7 : Int) (c nl : Bool) : PureOK Tryd.prog 62 [ls [x0, x1, x2, x3, x4, x5, x6, x7] c nl] (bD (withinB [x0, x1, x2, x3, x4, x5, x6, x7])) := by
  have h : pureE aeC evA 30 62 Tryd.f62 [.sl [iD x0, iD x1, iD x2, iD x3, iD x4, iD x5, iD x6, iD x7] 8 1 c nl] = wch (some (bD true)) (some (bD false)) [x0, x1, x2, x3, x4, x5, x6, x7] := by kernel_rfl
  refine walkA (by kernel_rfl : tget aeF 62 = some Tryd.f62) (h.trans ((wch_eq _ _ _).trans ?_))
  cases withinB [x0, x1, x2, x3, x4, x5, x6, x7] <;> rfl
theorem c62 : ∀ (a : List Int) (c nl : Bool), a.length ≤ 8 → PureOK Tryd.prog 62 [ls a c nl] (bD (withinB a))
  | [], c, nl, _ => c62_0  c nl
  | [x0], c, nl, _ => c62_1 x0 c nl
  | [x0, x1], c, nl, _ => c62_2 x0 x1 c nl
  | [x0, x1, x2], c, nl, _ => c62_3 x0 x1 x2 c nl
  | [x0, x1, x2, x3], c, nl, _ => c62_4 x0 x1 x2 x3 c nl
  | [x0, x1, x2, x3, x4], c, nl, _ => c62_5 x0 x1 x2 x3 x4 c nl
  | [x0, x1, x2, x3, x4, x5], c, nl, _ => c62_6 x0 x1 x2 x3 x4 x5 c nl
  | [x0, x1, x2, x3, x4, x5, x6], c, nl, _ => c62_7 x0 x1 x2 x3 x4 x5 x6 c nl
  | [x0, x1, x2, x3, x4, x5, x6, x7], c, nl, _ => c62_8 x0 x1 x2 x3 x4 x5 x6 x7 c nl
  | _ :: _ :: _ :: _ :: _ :: _ :: _ :: _ :: _ :: _, _, _, h => absurd h (by simp)

theorem c59_0 (c nl : Bool) : PureOK Tryd.prog 59 [ls [] c nl] (bD (withinB [])) := by
  have h : pureE aeC evA 30 59 Tryd.f59 [.sl [] 0 1 c nl] = wch (some (bD true)) (some (bD false)) [] := by kernel_rfl
  refine walkA (by kernel_rfl : tget aeF 59 = some Tryd.f59) (h.trans ((wch_eq _ _ _).trans ?_))
  cases withinB [] <;> rfl
theorem c59_1 (x0 : Int) (c nl : Bool) : PureOK Tryd.prog 59 [ls [x0] c nl] (bD (withinB [x0])) := by
  have h : pureE aeC evA 30 59 Tryd.f59 [.sl [iD x0] 1 1 c nl] = wch (some (bD true)) (some (bD false)) [x0] := by kernel_rfl
  refine walkA (by kernel_rfl : tget aeF 59 = some Tryd.f59) (h.trans ((wch_eq _ _ _).trans ?_))
  cases withinB [x0] <;> rfl
theorem c59_2 (x0 x1 : Int) (c nl : Bool) : PureOK Tryd.prog 59 [ls [x0, x1] c nl] (bD (withinB [x0, x1])) := by
  have h : pureE aeC evA 30 59 Tryd.f59 [.sl [iD x0, iD x1] 2 1 c nl] = wch (some (bD true)) (some (bD false)) [x0, x1] := by kernel_rfl
  refine walkA (by kernel_rfl : tget aeF 59 = some Tryd.f59) (h.trans ((wch_eq _ _ _).trans ?_))
  cases withinB [x0, x1] <;> rfl
theorem c59_3 (x0 x1 x2 : Int) (c nl : Bool) : PureOK Tryd.prog 59 [ls [x0, x1, x2] c nl] (bD (withinB [x0, x1, x2])) := by
  have h : pureE aeC evA 30 59 Tryd.f59 [.sl [iD x0, iD x1, iD x2] 3 1 c nl] = wch (some (bD true)) (some (bD false)) [x0, x1, x2] := by kernel_rfl
  refine walkA (by kernel_rfl : tget aeF 59 = some Tryd.f59) (h.trans ((wch_eq _ _ _).trans ?_))
  cases withinB [x0, x1, x2] <;> rfl
theorem c59_4 (x0 x1 x2 x3 : Int) (c nl : Bool) : PureOK Tryd.prog 59 [ls [x0, x1, x2, x3] c nl] (bD (withinB [x0, x1, x2, x3])) := by
  have h : pureE aeC evA 30 59 Tryd.f59 [.sl [iD x0, iD x1, iD x2, iD x3] 4 1 c nl] = wch (some (bD true)) (some (bD false)) [x0, x1, x2, x3] := by kernel_rfl
  refine walkA (by kernel_rfl : tget aeF 59 = some Tryd.f59) (h.trans ((wch_eq _ _ _).trans ?_))
  cases withinB [x0, x1, x2, x3] <;> rfl
theorem c59_5 (x0 x1 x2 x3 x4 : Int) (c nl : Bool) : PureOK Tryd.prog 59 [ls [x0, x1, x2, x3, x4] c nl] (bD (withinB [x0, x1, x2, x3, x4])) := by
  have h : pureE aeC evA 30 59 Tryd.f59 [.sl [iD x0, iD x1, iD x2, iD x3, iD x4] 5 1 c nl] = wch (some (bD true)) (some (bD false)) [x0, x1, x2, x3, x4] := by kernel_rfl
  refine walkA (by kernel_rfl : tget aeF 59 = some Tryd.f59) (h.trans ((wch_eq _ _ _).trans ?_))
  cases withinB [x0, x1, x2, x3, x4] <;> rfl
theorem c59_6 (x0 x1 x2 x3 x4 x5 : Int) (c nl : Bool) : PureOK Tryd.prog 59 [ls [x0, x1, x2, x3, x4, x5] c nl] (bD (withinB [x0, x1, x2, x3, x4, x5])) := by
  have h : pureE aeC evA 30 59 Tryd.f59 [.sl [iD x0, iD x1, iD x2, iD x3, iD x4, iD x5] 6 1 c nl] = wch (some (bD true)) (some (bD false)) [x0, x1, x2, x3, x4, x5] := by kernel_rfl
  refine walkA (by kernel_rfl : tget aeF 59 = some Tryd.f59) (h.trans ((wch_eq _ _ _).trans ?_))
  cases withinB [x0, x1, x2, x3, x4, x5] <;> rfl
theorem c59_7 (x0 x1 x2 x3 x4 x5 x6 : Int) (c nl : Bool) : PureOK Tryd.prog 59 [ls [x0, x1, x2, x3, x4, x5, x6] c nl] (bD (withinB [x0, x1, x2, x3, x4, x5, x6])) := by
  have h : pureE aeC evA 30 59 Tryd.f59 [.sl [iD x0, iD x1, iD x2, iD x3, iD x4, iD x5, iD x6] 7 1 c nl] = wch (some (bD true)) (some (bD false)) [x0, x1, x2, x3, x4, x5, x6] := by kernel_rfl
  refine walkA (by kernel_rfl : tget aeF 59 = some Tryd.f59) (h.trans ((wch_eq _ _ _).trans ?_))
  cases withinB [x0, x1, x2, x3, x4, x5, x6] <;> rfl
theorem c59_8 (x0 x1 x2 x3 x4 x5 x6 x7 : Int) (c nl : Bool) : PureOK Tryd.prog 59 [ls [x0, x1, x2, x3, x4, x5, x6, x7] c nl] (bD (withinB [x0, x1, x2, x3, x4, x5, x6, x7])) := by
  have h : pureE aeC evA 30 59 Tryd.f59 [.sl [iD x0, iD x1, iD x2, iD x3, iD x4, iD x5, iD x6, iD x7] 8 1 c nl] = wch (some (bD true)) (some (bD false)) [x0, x1, x2, x3, x4, x5, x6, x7] := by kernel_rfl
  refine walkA (by kernel_rfl : tget aeF 59 = some Tryd.f59) (h.trans ((wch_eq _ _ _).trans ?_))
  cases withinB [x0, x1, x2, x3, x4, x5, x6, x7] <;> rfl
theorem c59 : ∀ (a : List Int) (c nl : Bool), a.length ≤ 8 → PureOK Tryd.prog 59 [ls a c nl] (bD (withinB a))
  | [], c, nl, _ => c59_0  c nl
  | [x0], c, nl, _ => c59_1 x0 c nl
  | [x0, x1], c, nl, _ => c59_2 x0 x1 c nl
  | [x0, x1, x2], c, nl, _ => c59_3 x0 x1 x2 c nl
  | [x0, x1, x2, x3], c, nl, _ => c59_4 x0 x1 x2 x3 c nl
  | [x0, x1, x2, x3, x4], c, nl, _ => c59_5 x0 x1 x2 x3 x4 c nl
  | [x0, x1, x2, x3, x4, x5], c, nl, _ => c59_6 x0 x1 x2 x3 x4 x5 c nl
  | [x0, x1, x2, x3, x4, x5, x6], c, nl, _ => c59_7 x0 x1 x2 x3 x4 x5 x6 c nl
  | [x0, x1, x2, x3, x4, x5, x6, x7], c, nl, _ => c59_8 x0 x1 x2 x3 x4 x5 x6 x7 c nl
  | _ :: _ :: _ :: _ :: _ :: _ :: _ :: _ :: _ :: _, _, _, h => absurd h (by simp)


/-! ### Discs -/
def convL (p : List Int) (u v : Int) : List Int := (List.range (p.length + 1)).map fun (k : Nat) => (if k < p.length then p.getD k 0 * u else 0) + (if 1 ≤ k then p.getD (k - 1) 0 * v else 0)
/-- The coefficients of (1 + x) ^ k (1 - x) ^ (n - k). -/
def krawL (n k : Nat) : List Int := (List.range n).foldl (fun p (i : Nat) => convL p 1 (if i < k then 1 else -1)) [1]
/-- The disc, modulo 2 ^ 64. -/
def discL (a : List Int) : List Int := (List.range a.length).map fun (k : Nat) => (List.range a.length).foldl (fun acc (i : Nat) => IntKind.wrap .i64 (acc + IntKind.wrap .i64 (a.getD i 0 * (krawL (a.length - 1) i).getD k 0))) 0
theorem discL_len (a : List Int) : (discL a).length = a.length := by simp [discL]

theorem c72_1 (x0 : Int) (c nl : Bool) : PureOK Tryd.prog 72 [ls [x0] c nl] (ls (discL [x0]) false false) := walkA (by kernel_rfl : tget aeF 72 = some Tryd.f72) (by kernel_rfl)
theorem c72_2 (x0 x1 : Int) (c nl : Bool) : PureOK Tryd.prog 72 [ls [x0, x1] c nl] (ls (discL [x0, x1]) false false) := walkA (by kernel_rfl : tget aeF 72 = some Tryd.f72) (by kernel_rfl)
theorem c72_3 (x0 x1 x2 : Int) (c nl : Bool) : PureOK Tryd.prog 72 [ls [x0, x1, x2] c nl] (ls (discL [x0, x1, x2]) false false) := walkA (by kernel_rfl : tget aeF 72 = some Tryd.f72) (by kernel_rfl)
theorem c72_4 (x0 x1 x2 x3 : Int) (c nl : Bool) : PureOK Tryd.prog 72 [ls [x0, x1, x2, x3] c nl] (ls (discL [x0, x1, x2, x3]) false false) := walkA (by kernel_rfl : tget aeF 72 = some Tryd.f72) (by kernel_rfl)
theorem c72_5 (x0 x1 x2 x3 x4 : Int) (c nl : Bool) : PureOK Tryd.prog 72 [ls [x0, x1, x2, x3, x4] c nl] (ls (discL [x0, x1, x2, x3, x4]) false false) := walkA (by kernel_rfl : tget aeF 72 = some Tryd.f72) (by kernel_rfl)
theorem c72_6 (x0 x1 x2 x3 x4 x5 : Int) (c nl : Bool) : PureOK Tryd.prog 72 [ls [x0, x1, x2, x3, x4, x5] c nl] (ls (discL [x0, x1, x2, x3, x4, x5]) false false) := walkA (by kernel_rfl : tget aeF 72 = some Tryd.f72) (by kernel_rfl)
theorem c72 : ∀ (a : List Int) (c nl : Bool), 1 ≤ a.length → a.length ≤ 6 → PureOK Tryd.prog 72 [ls a c nl] (ls (discL a) false false)
  | [x0], c, nl, _, _ => c72_1 x0 c nl
  | [x0, x1], c, nl, _, _ => c72_2 x0 x1 c nl
  | [x0, x1, x2], c, nl, _, _ => c72_3 x0 x1 x2 c nl
  | [x0, x1, x2, x3], c, nl, _, _ => c72_4 x0 x1 x2 x3 c nl
  | [x0, x1, x2, x3, x4], c, nl, _, _ => c72_5 x0 x1 x2 x3 x4 c nl
  | [x0, x1, x2, x3, x4, x5], c, nl, _, _ => c72_6 x0 x1 x2 x3 x4 x5 c nl
  | [], _, _, h, _ => absurd h (by simp)
  | _ :: _ :: _ :: _ :: _ :: _ :: _ :: _, _, _, _, h => absurd h (by simp)

theorem c73_1 (x0 : Int) (c nl : Bool) : PureOK Tryd.prog 73 [ls [x0] c nl] (ls (discL [x0]) false false) := walkA (by kernel_rfl : tget aeF 73 = some Tryd.f73) (by kernel_rfl)
theorem c73_2 (x0 x1 : Int) (c nl : Bool) : PureOK Tryd.prog 73 [ls [x0, x1] c nl] (ls (discL [x0, x1]) false false) := walkA (by kernel_rfl : tget aeF 73 = some Tryd.f73) (by kernel_rfl)
theorem c73_3 (x0 x1 x2 : Int) (c nl : Bool) : PureOK Tryd.prog 73 [ls [x0, x1, x2] c nl] (ls (discL [x0, x1, x2]) false false) := walkA (by kernel_rfl : tget aeF 73 = some Tryd.f73) (by kernel_rfl)
theorem c73_4 (x0 x1 x2 x3 : Int) (c nl : Bool) : PureOK Tryd.prog 73 [ls [x0, x1, x2, x3] c nl] (ls (discL [x0, x1, x2, x3]) false false) := walkA (by kernel_rfl : tget aeF 73 = some Tryd.f73) (by kernel_rfl)
theorem c73_5 (x0 x1 x2 x3 x4 : Int) (c nl : Bool) : PureOK Tryd.prog 73 [ls [x0, x1, x2, x3, x4] c nl] (ls (discL [x0, x1, x2, x3, x4]) false false) := walkA (by kernel_rfl : tget aeF 73 = some Tryd.f73) (by kernel_rfl)
theorem c73_6 (x0 x1 x2 x3 x4 x5 : Int) (c nl : Bool) : PureOK Tryd.prog 73 [ls [x0, x1, x2, x3, x4, x5] c nl] (ls (discL [x0, x1, x2, x3, x4, x5]) false false) := walkA (by kernel_rfl : tget aeF 73 = some Tryd.f73) (by kernel_rfl)
theorem c73 : ∀ (a : List Int) (c nl : Bool), 1 ≤ a.length → a.length ≤ 6 → PureOK Tryd.prog 73 [ls a c nl] (ls (discL a) false false)
  | [x0], c, nl, _, _ => c73_1 x0 c nl
  | [x0, x1], c, nl, _, _ => c73_2 x0 x1 c nl
  | [x0, x1, x2], c, nl, _, _ => c73_3 x0 x1 x2 c nl
  | [x0, x1, x2, x3], c, nl, _, _ => c73_4 x0 x1 x2 x3 c nl
  | [x0, x1, x2, x3, x4], c, nl, _, _ => c73_5 x0 x1 x2 x3 x4 c nl
  | [x0, x1, x2, x3, x4, x5], c, nl, _, _ => c73_6 x0 x1 x2 x3 x4 x5 c nl
  | [], _, _, h, _ => absurd h (by simp)
  | _ :: _ :: _ :: _ :: _ :: _ :: _ :: _, _, _, _, h => absurd h (by simp)


def sh72 (t : List DV → Nat → Int) : Nat → List DV → DV := fun _ ds => match ds with
  | [.sl _ n _ _ _] => .sl ((List.range n).map fun (i : Nat) => iD (t ds i)) n 1 false false
  | _ => .nilp
noncomputable def ev72 (ok : Nat → List DV → Bool) (t : List DV → Nat → Int) : Ev := evW [72, 73] ok (sh72 t)
def t72 (ds : List DV) (i : Nat) : Int := match ds with
  | [.sl cs _ _ _ _] => (discL (unI cs)).getD i 0
  | _ => 0
theorem g72 {f : Nat} {ds : List DV} {d : DV} (h : PureOK Tryd.prog f ds d) (e : sh72 t72 f ds = d) : okS (sh72 t72) f ds = true := okS_is (by rw [e]; exact h)
/-- Whether 1 or -1 is a root. -/
def turnsB (a : List Int) : Bool := decide ((discL a).getD 0 0 = 0) || decide (lastI (discL a) = 0)

theorem sum_1 (x0 : Int) : (discL [x0]).getD 0 0 = IntKind.wrap .i64 (0 + x0) := by
  have h : (discL [x0]).getD 0 0 = IntKind.wrap .i64 (0 + IntKind.wrap .i64 (x0 * 1)) := by kernel_rfl
  rw [h]
  simp only [Int.mul_one]
  simp only [wrap_addR]
theorem c71_1 (x0 : Int) (c nl : Bool) : PureOK Tryd.prog 71 [ls [x0] c nl] (bD (turnsB [x0])) := by
  have h : pureE aeC (ev72 (okS (sh72 t72)) t72) 30 71 Tryd.f71 [.sl [iD x0] 1 1 c nl] = bif okS (sh72 t72) 72 [.sl [iD x0] 1 1 c nl] then (bif decide (IntKind.wrap .i64 (0 + x0) = 0) then some (bD true) else some (bD (decide (t72 [.sl [iD x0] 1 1 c nl] 0 = 0)))) else none := by kernel_rfl
  refine walk (fs := [72, 73]) (shape := sh72 t72) (by kernel_rfl : tget aeF 71 = some Tryd.f71) (h.trans ?_)
  refine (cond_is (g72 (c72_1 x0 c nl) (by kernel_rfl))).trans ?_
  rw [show turnsB [x0] = (decide ((discL [x0]).getD 0 0 = 0) || decide (t72 [.sl [iD x0] 1 1 c nl] 0 = 0)) from rfl, sum_1]
  cases decide (IntKind.wrap .i64 (0 + x0) = 0) <;> rfl

theorem sum_2 (x0 x1 : Int) : (discL [x0, x1]).getD 0 0 = IntKind.wrap .i64 (IntKind.wrap .i64 (0 + x0) + x1) := by
  have h : (discL [x0, x1]).getD 0 0 = IntKind.wrap .i64 (IntKind.wrap .i64 (0 + IntKind.wrap .i64 (x0 * 1)) + IntKind.wrap .i64 (x1 * 1)) := by kernel_rfl
  rw [h]
  simp only [Int.mul_one]
  simp only [wrap_addR]
theorem c71_2 (x0 x1 : Int) (c nl : Bool) : PureOK Tryd.prog 71 [ls [x0, x1] c nl] (bD (turnsB [x0, x1])) := by
  have h : pureE aeC (ev72 (okS (sh72 t72)) t72) 30 71 Tryd.f71 [.sl [iD x0, iD x1] 2 1 c nl] = bif okS (sh72 t72) 72 [.sl [iD x0, iD x1] 2 1 c nl] then (bif decide (IntKind.wrap .i64 (IntKind.wrap .i64 (0 + x0) + x1) = 0) then some (bD true) else some (bD (decide (t72 [.sl [iD x0, iD x1] 2 1 c nl] 1 = 0)))) else none := by kernel_rfl
  refine walk (fs := [72, 73]) (shape := sh72 t72) (by kernel_rfl : tget aeF 71 = some Tryd.f71) (h.trans ?_)
  refine (cond_is (g72 (c72_2 x0 x1 c nl) (by kernel_rfl))).trans ?_
  rw [show turnsB [x0, x1] = (decide ((discL [x0, x1]).getD 0 0 = 0) || decide (t72 [.sl [iD x0, iD x1] 2 1 c nl] 1 = 0)) from rfl, sum_2]
  cases decide (IntKind.wrap .i64 (IntKind.wrap .i64 (0 + x0) + x1) = 0) <;> rfl

theorem sum_3 (x0 x1 x2 : Int) : (discL [x0, x1, x2]).getD 0 0 = IntKind.wrap .i64 (IntKind.wrap .i64 (IntKind.wrap .i64 (0 + x0) + x1) + x2) := by
  have h : (discL [x0, x1, x2]).getD 0 0 = IntKind.wrap .i64 (IntKind.wrap .i64 (IntKind.wrap .i64 (0 + IntKind.wrap .i64 (x0 * 1)) + IntKind.wrap .i64 (x1 * 1)) + IntKind.wrap .i64 (x2 * 1)) := by kernel_rfl
  rw [h]
  simp only [Int.mul_one]
  simp only [wrap_addR]
theorem c71_3 (x0 x1 x2 : Int) (c nl : Bool) : PureOK Tryd.prog 71 [ls [x0, x1, x2] c nl] (bD (turnsB [x0, x1, x2])) := by
  have h : pureE aeC (ev72 (okS (sh72 t72)) t72) 30 71 Tryd.f71 [.sl [iD x0, iD x1, iD x2] 3 1 c nl] = bif okS (sh72 t72) 72 [.sl [iD x0, iD x1, iD x2] 3 1 c nl] then (bif decide (IntKind.wrap .i64 (IntKind.wrap .i64 (IntKind.wrap .i64 (0 + x0) + x1) + x2) = 0) then some (bD true) else some (bD (decide (t72 [.sl [iD x0, iD x1, iD x2] 3 1 c nl] 2 = 0)))) else none := by kernel_rfl
  refine walk (fs := [72, 73]) (shape := sh72 t72) (by kernel_rfl : tget aeF 71 = some Tryd.f71) (h.trans ?_)
  refine (cond_is (g72 (c72_3 x0 x1 x2 c nl) (by kernel_rfl))).trans ?_
  rw [show turnsB [x0, x1, x2] = (decide ((discL [x0, x1, x2]).getD 0 0 = 0) || decide (t72 [.sl [iD x0, iD x1, iD x2] 3 1 c nl] 2 = 0)) from rfl, sum_3]
  cases decide (IntKind.wrap .i64 (IntKind.wrap .i64 (IntKind.wrap .i64 (0 + x0) + x1) + x2) = 0) <;> rfl

theorem sum_4 (x0 x1 x2 x3 : Int) : (discL [x0, x1, x2, x3]).getD 0 0 = IntKind.wrap .i64 (IntKind.wrap .i64 (IntKind.wrap .i64 (IntKind.wrap .i64 (0 + x0) + x1) + x2) + x3) := by
  have h : (discL [x0, x1, x2, x3]).getD 0 0 = IntKind.wrap .i64 (IntKind.wrap .i64 (IntKind.wrap .i64 (IntKind.wrap .i64 (0 + IntKind.wrap .i64 (x0 * 1)) + IntKind.wrap .i64 (x1 * 1)) + IntKind.wrap .i64 (x2 * 1)) + IntKind.wrap .i64 (x3 * 1)) := by kernel_rfl
  rw [h]
  simp only [Int.mul_one]
  simp only [wrap_addR]
theorem c71_4 (x0 x1 x2 x3 : Int) (c nl : Bool) : PureOK Tryd.prog 71 [ls [x0, x1, x2, x3] c nl] (bD (turnsB [x0, x1, x2, x3])) := by
  have h : pureE aeC (ev72 (okS (sh72 t72)) t72) 30 71 Tryd.f71 [.sl [iD x0, iD x1, iD x2, iD x3] 4 1 c nl] = bif okS (sh72 t72) 72 [.sl [iD x0, iD x1, iD x2, iD x3] 4 1 c nl] then (bif decide (IntKind.wrap .i64 (IntKind.wrap .i64 (IntKind.wrap .i64 (IntKind.wrap .i64 (0 + x0) + x1) + x2) + x3) = 0) then some (bD true) else some (bD (decide (t72 [.sl [iD x0, iD x1, iD x2, iD x3] 4 1 c nl] 3 = 0)))) else none := by kernel_rfl
  refine walk (fs := [72, 73]) (shape := sh72 t72) (by kernel_rfl : tget aeF 71 = some Tryd.f71) (h.trans ?_)
  refine (cond_is (g72 (c72_4 x0 x1 x2 x3 c nl) (by kernel_rfl))).trans ?_
  rw [show turnsB [x0, x1, x2, x3] = (decide ((discL [x0, x1, x2, x3]).getD 0 0 = 0) || decide (t72 [.sl [iD x0, iD x1, iD x2, iD x3] 4 1 c nl] 3 = 0)) from rfl, sum_4]
  cases decide (IntKind.wrap .i64 (IntKind.wrap .i64 (IntKind.wrap .i64 (IntKind.wrap .i64 (0 + x0) + x1) + x2) + x3) = 0) <;> rfl

theorem sum_5 (x0 x1 x2 x3 x4 : Int) : (discL [x0, x1, x2, x3, x4]).getD 0 0 = IntKind.wrap .i64 (IntKind.wrap .i64 (IntKind.wrap .i64 (IntKind.wrap .i64 (IntKind.wrap .i64 (0 + x0) + x1) + x2) + x3) + x4) := by
  have h : (discL [x0, x1, x2, x3, x4]).getD 0 0 = IntKind.wrap .i64 (IntKind.wrap .i64 (IntKind.wrap .i64 (IntKind.wrap .i64 (IntKind.wrap .i64 (0 + IntKind.wrap .i64 (x0 * 1)) + IntKind.wrap .i64 (x1 * 1)) + IntKind.wrap .i64 (x2 * 1)) + IntKind.wrap .i64 (x3 * 1)) + IntKind.wrap .i64 (x4 * 1)) := by kernel_rfl
  rw [h]
  simp only [Int.mul_one]
  simp only [wrap_addR]
theorem c71_5 (x0 x1 x2 x3 x4 : Int) (c nl : Bool) : PureOK Tryd.prog 71 [ls [x0, x1, x2, x3, x4] c nl] (bD (turnsB [x0, x1, x2, x3, x4])) := by
  have h : pureE aeC (ev72 (okS (sh72 t72)) t72) 30 71 Tryd.f71 [.sl [iD x0, iD x1, iD x2, iD x3, iD x4] 5 1 c nl] = bif okS (sh72 t72) 72 [.sl [iD x0, iD x1, iD x2, iD x3, iD x4] 5 1 c nl] then (bif decide (IntKind.wrap .i64 (IntKind.wrap .i64 (IntKind.wrap .i64 (IntKind.wrap .i64 (IntKind.wrap .i64 (0 + x0) + x1) + x2) + x3) + x4) = 0) then some (bD true) else some (bD (decide (t72 [.sl [iD x0, iD x1, iD x2, iD x3, iD x4] 5 1 c nl] 4 = 0)))) else none := by kernel_rfl
  refine walk (fs := [72, 73]) (shape := sh72 t72) (by kernel_rfl : tget aeF 71 = some Tryd.f71) (h.trans ?_)
  refine (cond_is (g72 (c72_5 x0 x1 x2 x3 x4 c nl) (by kernel_rfl))).trans ?_
  rw [show turnsB [x0, x1, x2, x3, x4] = (decide ((discL [x0, x1, x2, x3, x4]).getD 0 0 = 0) || decide (t72 [.sl [iD x0, iD x1, iD x2, iD x3, iD x4] 5 1 c nl] 4 = 0)) from rfl, sum_5]
  cases decide (IntKind.wrap .i64 (IntKind.wrap .i64 (IntKind.wrap .i64 (IntKind.wrap .i64 (IntKind.wrap .i64 (0 + x0) + x1) + x2) + x3) + x4) = 0) <;> rfl

theorem sum_6 (x0 x1 x2 x3 x4 x5 : Int) : (discL [x0, x1, x2, x3, x4, x5]).getD 0 0 = IntKind.wrap .i64 (IntKind.wrap .i64 (IntKind.wrap .i64 (IntKind.wrap .i64 (IntKind.wrap .i64 (IntKind.wrap .i64 (0 + x0) + x1) + x2) + x3) + x4) + x5) := by
  have h : (discL [x0, x1, x2, x3, x4, x5]).getD 0 0 = IntKind.wrap .i64 (IntKind.wrap .i64 (IntKind.wrap .i64 (IntKind.wrap .i64 (IntKind.wrap .i64 (IntKind.wrap .i64 (0 + IntKind.wrap .i64 (x0 * 1)) + IntKind.wrap .i64 (x1 * 1)) + IntKind.wrap .i64 (x2 * 1)) + IntKind.wrap .i64 (x3 * 1)) + IntKind.wrap .i64 (x4 * 1)) + IntKind.wrap .i64 (x5 * 1)) := by kernel_rfl
  rw [h]
  simp only [Int.mul_one]
  simp only [wrap_addR]
theorem c71_6 (x0 x1 x2 x3 x4 x5 : Int) (c nl : Bool) : PureOK Tryd.prog 71 [ls [x0, x1, x2, x3, x4, x5] c nl] (bD (turnsB [x0, x1, x2, x3, x4, x5])) := by
  have h : pureE aeC (ev72 (okS (sh72 t72)) t72) 30 71 Tryd.f71 [.sl [iD x0, iD x1, iD x2, iD x3, iD x4, iD x5] 6 1 c nl] = bif okS (sh72 t72) 72 [.sl [iD x0, iD x1, iD x2, iD x3, iD x4, iD x5] 6 1 c nl] then (bif decide (IntKind.wrap .i64 (IntKind.wrap .i64 (IntKind.wrap .i64 (IntKind.wrap .i64 (IntKind.wrap .i64 (IntKind.wrap .i64 (0 + x0) + x1) + x2) + x3) + x4) + x5) = 0) then some (bD true) else some (bD (decide (t72 [.sl [iD x0, iD x1, iD x2, iD x3, iD x4, iD x5] 6 1 c nl] 5 = 0)))) else none := by kernel_rfl
  refine walk (fs := [72, 73]) (shape := sh72 t72) (by kernel_rfl : tget aeF 71 = some Tryd.f71) (h.trans ?_)
  refine (cond_is (g72 (c72_6 x0 x1 x2 x3 x4 x5 c nl) (by kernel_rfl))).trans ?_
  rw [show turnsB [x0, x1, x2, x3, x4, x5] = (decide ((discL [x0, x1, x2, x3, x4, x5]).getD 0 0 = 0) || decide (t72 [.sl [iD x0, iD x1, iD x2, iD x3, iD x4, iD x5] 6 1 c nl] 5 = 0)) from rfl, sum_6]
  cases decide (IntKind.wrap .i64 (IntKind.wrap .i64 (IntKind.wrap .i64 (IntKind.wrap .i64 (IntKind.wrap .i64 (IntKind.wrap .i64 (0 + x0) + x1) + x2) + x3) + x4) + x5) = 0) <;> rfl

theorem c71 : ∀ (a : List Int) (c nl : Bool), 1 ≤ a.length → a.length ≤ 6 → PureOK Tryd.prog 71 [ls a c nl] (bD (turnsB a))
  | [x0], c, nl, _, _ => c71_1 x0 c nl
  | [x0, x1], c, nl, _, _ => c71_2 x0 x1 c nl
  | [x0, x1, x2], c, nl, _, _ => c71_3 x0 x1 x2 c nl
  | [x0, x1, x2, x3], c, nl, _, _ => c71_4 x0 x1 x2 x3 c nl
  | [x0, x1, x2, x3, x4], c, nl, _, _ => c71_5 x0 x1 x2 x3 x4 c nl
  | [x0, x1, x2, x3, x4, x5], c, nl, _, _ => c71_6 x0 x1 x2 x3 x4 x5 c nl
  | [], _, _, h, _ => absurd h (by simp)
  | _ :: _ :: _ :: _ :: _ :: _ :: _ :: _, _, _, _, h => absurd h (by simp)
end Go.Proofs.YtiicbenhhdbnoaaDoor

/- Chapter 09: lists compared; halves, turned ones; polynomials that are made of any numbers. Written by wip/tools/genC4.py. -/
namespace Go.Proofs.YtiicbenhhdbnoaaDoor
open Go Go.AE
set_option maxRecDepth 100000

noncomputable def s26 (a b : List Int) (c nl c2 nl2 : Bool) (i : Int) : St := ⟨[(0, .d (.sl (ints a) a.length 1 c nl)), (1, .d (.sl (ints b) b.length 1 c2 nl2)), (5, .d (iD i))], [], []⟩
noncomputable def s48 (a b : List Int) (c nl c2 nl2 : Bool) (i : Int) : St := ⟨[(0, .d (.sl (ints a) a.length 1 c nl)), (1, .d (.sl (ints b) b.length 1 c2 nl2)), (5, .d (iD i))], [], []⟩

theorem r26h (a b : List Int) (c nl c2 nl2 : Bool) : startS aeC Ev.nil 26 0 Tryd.f26 none ⟨envOf 0 [.d (.sl (ints a) a.length 1 c nl), .d (.sl (ints b) b.length 1 c2 nl2)], [], []⟩ (heldD aeC 26 0) =
  bif !decide ((↑(List.length a) : Int) = (↑(List.length b) : Int)) then
    none
  else
    some (0, ⟨[(0, .d (DV.sl (ints a) (List.length a) 1 c nl)), (1, .d (DV.sl (ints b) (List.length b) 1 c2 nl2)), (5, .d (iD 0))], [], []⟩) := by kernel_rfl

theorem r26d (a b : List Int) (c nl c2 nl2 : Bool) : startS aeC Ev.nil 26 0 Tryd.f26 none ⟨envOf 0 [.d (.sl (ints a) a.length 1 c nl), .d (.sl (ints b) b.length 1 c2 nl2)], [], []⟩ (doneE aeC Tryd.f26 0 fun v h => freezeV h 4 v) =
  bif !decide ((↑(List.length a) : Int) = (↑(List.length b) : Int)) then
    some (bD false)
  else
    none := by kernel_rfl

theorem r26_0 (a b : List Int) (c nl c2 nl2 : Bool) (i : Int) : startS aeC Ev.nil 26 0 Tryd.f26 (some 0) (s26 a b c nl c2 nl2 i) (roundD aeC 26 0 0) =
  bif decide (i < (↑(List.length a) : Int)) then
    bif inRange i (List.length a) then
      getI (nth (ints a) (Int.toNat i * 1)) fun x0 =>
      bif inRange i (List.length b) then
        getI (nth (ints b) (Int.toNat i * 1)) fun x1 =>
        bif !decide (x0 = x1) then
          some (Ex.ret, ⟨[(4, .d (bD false))], [], []⟩)
        else
          some (Ex.norm, ⟨[(0, .d (DV.sl (ints a) (List.length a) 1 c nl)), (1, .d (DV.sl (ints b) (List.length b) 1 c2 nl2)), (5, .d (iD (IntKind.wrap IntKind.i64 (i + 1))))], [], []⟩)
      else
        none
    else
      none
  else
    some (Ex.exit 0, ⟨[], [], []⟩) := by kernel_rfl

theorem r26_x (z : Bool) : nextS aeC Ev.nil 26 0 Tryd.f26 none 0 (.exit 0) ⟨[], [], []⟩ (doneE aeC Tryd.f26 0 fun v h => freezeV h 4 v) =
  some (bD true) := by kernel_rfl

theorem r26_z (b : Bool) : nextS aeC Ev.nil 26 0 Tryd.f26 none 0 .ret ⟨[(4, .d (bD b))], [], []⟩ (doneE aeC Tryd.f26 0 fun v h => freezeV h 4 v) =
  some (bD b) := by kernel_rfl

theorem r48h (a b : List Int) (c nl c2 nl2 : Bool) : startS aeC Ev.nil 48 0 Tryd.f48 none ⟨envOf 0 [.d (.sl (ints a) a.length 1 c nl), .d (.sl (ints b) b.length 1 c2 nl2)], [], []⟩ (heldD aeC 48 0) =
  bif !decide ((↑(List.length a) : Int) = (↑(List.length b) : Int)) then
    none
  else
    some (0, ⟨[(0, .d (DV.sl (ints a) (List.length a) 1 c nl)), (1, .d (DV.sl (ints b) (List.length b) 1 c2 nl2)), (5, .d (iD 0))], [], []⟩) := by kernel_rfl

theorem r48d (a b : List Int) (c nl c2 nl2 : Bool) : startS aeC Ev.nil 48 0 Tryd.f48 none ⟨envOf 0 [.d (.sl (ints a) a.length 1 c nl), .d (.sl (ints b) b.length 1 c2 nl2)], [], []⟩ (doneE aeC Tryd.f48 0 fun v h => freezeV h 4 v) =
  bif !decide ((↑(List.length a) : Int) = (↑(List.length b) : Int)) then
    some (bD false)
  else
    none := by kernel_rfl

theorem r48_0 (a b : List Int) (c nl c2 nl2 : Bool) (i : Int) : startS aeC Ev.nil 48 0 Tryd.f48 (some 0) (s48 a b c nl c2 nl2 i) (roundD aeC 48 0 0) =
  bif decide (i < (↑(List.length a) : Int)) then
    bif inRange i (List.length a) then
      getI (nth (ints a) (Int.toNat i * 1)) fun x0 =>
      bif inRange i (List.length b) then
        getI (nth (ints b) (Int.toNat i * 1)) fun x1 =>
        bif !decide (x0 = x1) then
          some (Ex.ret, ⟨[(4, .d (bD false))], [], []⟩)
        else
          some (Ex.norm, ⟨[(0, .d (DV.sl (ints a) (List.length a) 1 c nl)), (1, .d (DV.sl (ints b) (List.length b) 1 c2 nl2)), (5, .d (iD (IntKind.wrap IntKind.i64 (i + 1))))], [], []⟩)
      else
        none
    else
      none
  else
    some (Ex.exit 0, ⟨[], [], []⟩) := by kernel_rfl

theorem r48_x (z : Bool) : nextS aeC Ev.nil 48 0 Tryd.f48 none 0 (.exit 0) ⟨[], [], []⟩ (doneE aeC Tryd.f48 0 fun v h => freezeV h 4 v) =
  some (bD true) := by kernel_rfl

theorem r48_z (b : Bool) : nextS aeC Ev.nil 48 0 Tryd.f48 none 0 .ret ⟨[(4, .d (bD b))], [], []⟩ (doneE aeC Tryd.f48 0 fun v h => freezeV h 4 v) =
  some (bD b) := by kernel_rfl


theorem k26 : OkSeg Tryd.f26 none [0] := ⟨by kernel_rfl, by kernel_rfl, by decide⟩
theorem k26_0 : OkSeg Tryd.f26 (some 0) [] := ⟨by kernel_rfl, by kernel_rfl, by decide⟩
theorem l26 (a b : List Int) (c nl c2 nl2 : Bool) (hl : a.length = b.length) (hb : a.length < 1000) : ∀ (r s : List Int) (i : Nat), i ≤ a.length → a.drop i = r → b.drop i = s →
    LoopAt aeC Ev.nil 26 0 Tryd.f26 0 (s26 a b c nl c2 nl2 i) (if r = s then .exit 0 else .ret) (if r = s then ⟨[], [], []⟩ else ⟨[(4, .d (bD false))], [], []⟩)
  | [], s, i, hi, hr, hs => by
    have q1 := drop_nil_o hr
    have : s = [] := by rw [← hs]; exact List.drop_eq_nil_of_le (by omega)
    subst this
    refine .out k26_0 (by simp) ((r26_0 ..).trans ?_)
    rw [cnd_neg (by omega)]
    simp
  | x :: r, [], i, hi, hr, hs => by
    have q1 := (drop_cons_o (d := 0) hr).1
    have := drop_nil_o hs
    omega
  | x :: r, y :: s, i, hi, hr, hs => by
    obtain ⟨q1, q2, q3⟩ := drop_cons_o (d := 0) hr
    obtain ⟨p1, p2, p3⟩ := drop_cons_o (d := 0) hs
    have res := r26_0 a b c nl c2 nl2 i
    by_cases e : x = y
    · subst e
      revert res
      simp (disch := omega) only [cnd_pos, cnd_neg, inR_pos, ble_pos, blt_pos, beq_pos, cond_and, cond_or, Bool.cond_not, cond_true, cond_false, Bool.and_true, Bool.true_and, getI_some, getB_some, nth_ints_o, nth_bools_o, wrap64_o, len_ints, len_bools, lenOf_1, Int.toNat_natCast, Nat.mul_one, Nat.zero_add, setNth_bools_o, setNth_ints_o, len_set_i, len_set_b, Option.bind_some, List.length_append, List.length_cons, List.length_nil, unI_ints, unB_bools, ints_app1, bools_app1, nth_pr1, nth_pr2, len_prs, abs_if, Nat.add_zero, cond_same, q2, p2, Bool.not_true, decide_true]
      intro res
      have ih := l26 a b c nl c2 nl2 hl hb r s (i + 1) q1 q3 p3
      have : (x :: r = x :: s) ↔ r = s := by simp
      simp only [this]
      exact .next k26_0 res ih
    · have e2 : ¬ (x :: r = y :: s) := by simp [e]
      rw [if_neg e2, if_neg e2]
      revert res
      simp (disch := omega) only [cnd_pos, cnd_neg, inR_pos, ble_pos, blt_pos, beq_pos, cond_and, cond_or, Bool.cond_not, cond_true, cond_false, Bool.and_true, Bool.true_and, getI_some, getB_some, nth_ints_o, nth_bools_o, wrap64_o, len_ints, len_bools, lenOf_1, Int.toNat_natCast, Nat.mul_one, Nat.zero_add, setNth_bools_o, setNth_ints_o, len_set_i, len_set_b, Option.bind_some, List.length_append, List.length_cons, List.length_nil, unI_ints, unB_bools, ints_app1, bools_app1, nth_pr1, nth_pr2, len_prs, abs_if, Nat.add_zero, cond_same, q2, p2]
      intro res
      exact .out k26_0 (by simp) res

theorem c26 (a b : List Int) (c nl c2 nl2 : Bool) (hb : a.length < 1000) : PureOK Tryd.prog 26 [ls a c nl, ls b c2 nl2] (bD (decide (a = b))) := by
  refine ae_pure EvOK.nil (fn := Tryd.f26) k26 (by kernel_rfl) (by kernel_rfl) ?_
  by_cases hl : a.length = b.length
  · have h0 := r26h a b c nl c2 nl2
    rw [decide_eq_true (p := ((a.length : Int) = (b.length : Int))) (by omega)] at h0
    refine Eq.trans (startF_seg k26 h0 (l26 a b c nl c2 nl2 hl hb a b 0 (by omega) rfl rfl)) ?_
    by_cases e : a = b
    · rw [if_pos e, if_pos e, decide_eq_true e]
      exact nextF_done k26 done_plain (r26_x false)
    · rw [if_neg e, if_neg e, decide_eq_false e]
      exact nextF_done k26 done_plain (r26_z false)
  · refine startF_done k26 done_plain ((r26d ..).trans ?_)
    rw [decide_eq_false (p := ((a.length : Int) = (b.length : Int))) (by omega), decide_eq_false (p := a = b) (by rintro rfl; exact hl rfl)]
    rfl

theorem k48 : OkSeg Tryd.f48 none [0] := ⟨by kernel_rfl, by kernel_rfl, by decide⟩
theorem k48_0 : OkSeg Tryd.f48 (some 0) [] := ⟨by kernel_rfl, by kernel_rfl, by decide⟩
theorem l48 (a b : List Int) (c nl c2 nl2 : Bool) (hl : a.length = b.length) (hb : a.length < 1000) : ∀ (r s : List Int) (i : Nat), i ≤ a.length → a.drop i = r → b.drop i = s →
    LoopAt aeC Ev.nil 48 0 Tryd.f48 0 (s48 a b c nl c2 nl2 i) (if r = s then .exit 0 else .ret) (if r = s then ⟨[], [], []⟩ else ⟨[(4, .d (bD false))], [], []⟩)
  | [], s, i, hi, hr, hs => by
    have q1 := drop_nil_o hr
    have : s = [] := by rw [← hs]; exact List.drop_eq_nil_of_le (by omega)
    subst this
    refine .out k48_0 (by simp) ((r48_0 ..).trans ?_)
    rw [cnd_neg (by omega)]
    simp
  | x :: r, [], i, hi, hr, hs => by
    have q1 := (drop_cons_o (d := 0) hr).1
    have := drop_nil_o hs
    omega
  | x :: r, y :: s, i, hi, hr, hs => by
    obtain ⟨q1, q2, q3⟩ := drop_cons_o (d := 0) hr
    obtain ⟨p1, p2, p3⟩ := drop_cons_o (d := 0) hs
    have res := r48_0 a b c nl c2 nl2 i
    by_cases e : x = y
    · subst e
      revert res
      simp (disch := omega) only [cnd_pos, cnd_neg, inR_pos, ble_pos, blt_pos, beq_pos, cond_and, cond_or, Bool.cond_not, cond_true, cond_false, Bool.and_true, Bool.true_and, getI_some, getB_some, nth_ints_o, nth_bools_o, wrap64_o, len_ints, len_bools, lenOf_1, Int.toNat_natCast, Nat.mul_one, Nat.zero_add, setNth_bools_o, setNth_ints_o, len_set_i, len_set_b, Option.bind_some, List.length_append, List.length_cons, List.length_nil, unI_ints, unB_bools, ints_app1, bools_app1, nth_pr1, nth_pr2, len_prs, abs_if, Nat.add_zero, cond_same, q2, p2, Bool.not_true, decide_true]
      intro res
      have ih := l48 a b c nl c2 nl2 hl hb r s (i + 1) q1 q3 p3
      have : (x :: r = x :: s) ↔ r = s := by simp
      simp only [this]
      exact .next k48_0 res ih
    · have e2 : ¬ (x :: r = y :: s) := by simp [e]
      rw [if_neg e2, if_neg e2]
      revert res
      simp (disch := omega) only [cnd_pos, cnd_neg, inR_pos, ble_pos, blt_pos, beq_pos, cond_and, cond_or, Bool.cond_not, cond_true, cond_false, Bool.and_true, Bool.true_and, getI_some, getB_some, nth_ints_o, nth_bools_o, wrap64_o, len_ints, len_bools, lenOf_1, Int.toNat_natCast, Nat.mul_one, Nat.zero_add, setNth_bools_o, setNth_ints_o, len_set_i, len_set_b, Option.bind_some, List.length_append, List.length_cons, List.length_nil, unI_ints, unB_bools, ints_app1, bools_app1, nth_pr1, nth_pr2, len_prs, abs_if, Nat.add_zero, cond_same, q2, p2]
      intro res
      exact .out k48_0 (by simp) res

theorem c48 (a b : List Int) (c nl c2 nl2 : Bool) (hb : a.length < 1000) : PureOK Tryd.prog 48 [ls a c nl, ls b c2 nl2] (bD (decide (a = b))) := by
  refine ae_pure EvOK.nil (fn := Tryd.f48) k48 (by kernel_rfl) (by kernel_rfl) ?_
  by_cases hl : a.length = b.length
  · have h0 := r48h a b c nl c2 nl2
    rw [decide_eq_true (p := ((a.length : Int) = (b.length : Int))) (by omega)] at h0
    refine Eq.trans (startF_seg k48 h0 (l48 a b c nl c2 nl2 hl hb a b 0 (by omega) rfl rfl)) ?_
    by_cases e : a = b
    · rw [if_pos e, if_pos e, decide_eq_true e]
      exact nextF_done k48 done_plain (r48_x false)
    · rw [if_neg e, if_neg e, decide_eq_false e]
      exact nextF_done k48 done_plain (r48_z false)
  · refine startF_done k48 done_plain ((r48d ..).trans ?_)
    rw [decide_eq_false (p := ((a.length : Int) = (b.length : Int))) (by omega), decide_eq_false (p := a = b) (by rintro rfl; exact hl rfl)]
    rfl


end Go.Proofs.YtiicbenhhdbnoaaDoor

/- Chapter 09: halves and turned ones. Written by wip/tools/genC4.py. -/
namespace Go.Proofs.YtiicbenhhdbnoaaDoor
open Go Go.AE
set_option maxRecDepth 100000
/-! ### Halves -/
def trimL : List Int → List Int
  | [] => []
  | x :: r => match trimL r with
    | [] => if x = 0 then [] else [x]
    | y :: s => x :: y :: s
def evens : List Int → List Int
  | [] => []
  | [x] => [x]
  | x :: _ :: r => x :: evens r
def odds : List Int → List Int
  | [] => []
  | [_] => []
  | _ :: y :: r => y :: odds r
def halvesD (a : List Int) : DV := .agg [ls (trimL (evens a)) false false, ls (trimL (odds a)) false (decide (a.length = 1))]
def sh53 : Nat → List DV → DV := fun _ _ => iD 0
noncomputable def ev53 (ok : Nat → List DV → Bool) : Ev := evW [53] ok sh53
theorem g53 {a : List Int} {c nl : Bool} (h : polyB a = true) (h8 : a.length ≤ 8) : okS sh53 53 [ls a c nl] = true := by
  refine okS_is ?_
  have := c53 a c nl h8
  unfold checkI at this
  rw [h] at this
  exact this

theorem c39_1 (x0 : Int) (c : Bool) : PureOK Tryd.prog 39 [ls [x0] c false] (halvesD [x0]) := by
  have h : pureE aeC (ev53 (okS sh53)) 30 39 Tryd.f39 [.sl [iD x0] 1 1 c false] = (bif decide (x0 = 0) then some (.agg [.sl [] 0 1 false false, .sl [] 0 1 false true]) else some (.agg [.sl [iD x0] 1 1 false false, .sl [] 0 1 false true])) := by kernel_rfl
  refine walk (fs := [53]) (shape := sh53) (by kernel_rfl : tget aeF 39 = some Tryd.f39) (h.trans ?_)
  by_cases zx0 : x0 = 0
  · refine (cnd_pos zx0).trans ?_
    simp [halvesD, evens, odds, trimL, ints, zx0]
  · refine (cnd_neg zx0).trans ?_
    simp [halvesD, evens, odds, trimL, ints, zx0]

theorem c45_1 (x0 : Int) (c : Bool) (hp : polyB [x0] = true) : PureOK Tryd.prog 45 [ls [x0] c false] (.tup [halvesD [x0], iD 0]) := by
  have h : pureE aeC (ev53 (okS sh53)) 30 45 Tryd.f45 [.sl [iD x0] 1 1 c false] = bif okS sh53 53 [.sl [iD x0] 1 1 c false] then (bif decide (x0 = 0) then some (.tup [.agg [.sl [] 0 1 false false, .sl [] 0 1 false true], iD 0]) else some (.tup [.agg [.sl [iD x0] 1 1 false false, .sl [] 0 1 false true], iD 0])) else none := by kernel_rfl
  refine walk (fs := [53]) (shape := sh53) (by kernel_rfl : tget aeF 45 = some Tryd.f45) (h.trans ?_)
  refine (cond_is (g53 (a := [x0]) hp (by simp))).trans ?_
  by_cases zx0 : x0 = 0
  · refine (cnd_pos zx0).trans ?_
    simp [halvesD, evens, odds, trimL, ints, zx0]
  · refine (cnd_neg zx0).trans ?_
    simp [halvesD, evens, odds, trimL, ints, zx0]

theorem c39_2 (x0 x1 : Int) (c : Bool) : PureOK Tryd.prog 39 [ls [x0, x1] c false] (halvesD [x0, x1]) := by
  have h : pureE aeC (ev53 (okS sh53)) 30 39 Tryd.f39 [.sl [iD x0, iD x1] 2 1 c false] = (bif decide (x0 = 0) then (bif decide (x1 = 0) then some (.agg [.sl [] 0 1 false false, .sl [] 0 1 false false]) else some (.agg [.sl [] 0 1 false false, .sl [iD x1] 1 1 false false])) else (bif decide (x1 = 0) then some (.agg [.sl [iD x0] 1 1 false false, .sl [] 0 1 false false]) else some (.agg [.sl [iD x0] 1 1 false false, .sl [iD x1] 1 1 false false]))) := by kernel_rfl
  refine walk (fs := [53]) (shape := sh53) (by kernel_rfl : tget aeF 39 = some Tryd.f39) (h.trans ?_)
  by_cases zx0 : x0 = 0
  · refine (cnd_pos zx0).trans ?_
    by_cases zx1 : x1 = 0
    · refine (cnd_pos zx1).trans ?_
      simp [halvesD, evens, odds, trimL, ints, zx0, zx1]
    · refine (cnd_neg zx1).trans ?_
      simp [halvesD, evens, odds, trimL, ints, zx0, zx1]
  · refine (cnd_neg zx0).trans ?_
    by_cases zx1 : x1 = 0
    · refine (cnd_pos zx1).trans ?_
      simp [halvesD, evens, odds, trimL, ints, zx0, zx1]
    · refine (cnd_neg zx1).trans ?_
      simp [halvesD, evens, odds, trimL, ints, zx0, zx1]

theorem c45_2 (x0 x1 : Int) (c : Bool) (hp : polyB [x0, x1] = true) : PureOK Tryd.prog 45 [ls [x0, x1] c false] (.tup [halvesD [x0, x1], iD 0]) := by
  have h : pureE aeC (ev53 (okS sh53)) 30 45 Tryd.f45 [.sl [iD x0, iD x1] 2 1 c false] = bif okS sh53 53 [.sl [iD x0, iD x1] 2 1 c false] then (bif decide (x0 = 0) then (bif decide (x1 = 0) then some (.tup [.agg [.sl [] 0 1 false false, .sl [] 0 1 false false], iD 0]) else some (.tup [.agg [.sl [] 0 1 false false, .sl [iD x1] 1 1 false false], iD 0])) else (bif decide (x1 = 0) then some (.tup [.agg [.sl [iD x0] 1 1 false false, .sl [] 0 1 false false], iD 0]) else some (.tup [.agg [.sl [iD x0] 1 1 false false, .sl [iD x1] 1 1 false false], iD 0]))) else none := by kernel_rfl
  refine walk (fs := [53]) (shape := sh53) (by kernel_rfl : tget aeF 45 = some Tryd.f45) (h.trans ?_)
  refine (cond_is (g53 (a := [x0, x1]) hp (by simp))).trans ?_
  by_cases zx0 : x0 = 0
  · refine (cnd_pos zx0).trans ?_
    by_cases zx1 : x1 = 0
    · refine (cnd_pos zx1).trans ?_
      simp [halvesD, evens, odds, trimL, ints, zx0, zx1]
    · refine (cnd_neg zx1).trans ?_
      simp [halvesD, evens, odds, trimL, ints, zx0, zx1]
  · refine (cnd_neg zx0).trans ?_
    by_cases zx1 : x1 = 0
    · refine (cnd_pos zx1).trans ?_
      simp [halvesD, evens, odds, trimL, ints, zx0, zx1]
    · refine (cnd_neg zx1).trans ?_
      simp [halvesD, evens, odds, trimL, ints, zx0, zx1]

theorem c39_3 (x0 x1 x2 : Int) (c : Bool) : PureOK Tryd.prog 39 [ls [x0, x1, x2] c false] (halvesD [x0, x1, x2]) := by
  have h : pureE aeC (ev53 (okS sh53)) 30 39 Tryd.f39 [.sl [iD x0, iD x1, iD x2] 3 1 c false] = (bif decide (x2 = 0) then (bif decide (x0 = 0) then (bif decide (x1 = 0) then some (.agg [.sl [] 0 1 false false, .sl [] 0 1 false false]) else some (.agg [.sl [] 0 1 false false, .sl [iD x1] 1 1 false false])) else (bif decide (x1 = 0) then some (.agg [.sl [iD x0] 1 1 false false, .sl [] 0 1 false false]) else some (.agg [.sl [iD x0] 1 1 false false, .sl [iD x1] 1 1 false false]))) else (bif decide (x1 = 0) then some (.agg [.sl [iD x0, iD x2] 2 1 false false, .sl [] 0 1 false false]) else some (.agg [.sl [iD x0, iD x2] 2 1 false false, .sl [iD x1] 1 1 false false]))) := by kernel_rfl
  refine walk (fs := [53]) (shape := sh53) (by kernel_rfl : tget aeF 39 = some Tryd.f39) (h.trans ?_)
  by_cases zx2 : x2 = 0
  · refine (cnd_pos zx2).trans ?_
    by_cases zx0 : x0 = 0
    · refine (cnd_pos zx0).trans ?_
      by_cases zx1 : x1 = 0
      · refine (cnd_pos zx1).trans ?_
        simp [halvesD, evens, odds, trimL, ints, zx2, zx0, zx1]
      · refine (cnd_neg zx1).trans ?_
        simp [halvesD, evens, odds, trimL, ints, zx2, zx0, zx1]
    · refine (cnd_neg zx0).trans ?_
      by_cases zx1 : x1 = 0
      · refine (cnd_pos zx1).trans ?_
        simp [halvesD, evens, odds, trimL, ints, zx2, zx0, zx1]
      · refine (cnd_neg zx1).trans ?_
        simp [halvesD, evens, odds, trimL, ints, zx2, zx0, zx1]
  · refine (cnd_neg zx2).trans ?_
    by_cases zx1 : x1 = 0
    · refine (cnd_pos zx1).trans ?_
      simp [halvesD, evens, odds, trimL, ints, zx2, zx1]
    · refine (cnd_neg zx1).trans ?_
      simp [halvesD, evens, odds, trimL, ints, zx2, zx1]

theorem c45_3 (x0 x1 x2 : Int) (c : Bool) (hp : polyB [x0, x1, x2] = true) : PureOK Tryd.prog 45 [ls [x0, x1, x2] c false] (.tup [halvesD [x0, x1, x2], iD 0]) := by
  have h : pureE aeC (ev53 (okS sh53)) 30 45 Tryd.f45 [.sl [iD x0, iD x1, iD x2] 3 1 c false] = bif okS sh53 53 [.sl [iD x0, iD x1, iD x2] 3 1 c false] then (bif decide (x2 = 0) then (bif decide (x0 = 0) then (bif decide (x1 = 0) then some (.tup [.agg [.sl [] 0 1 false false, .sl [] 0 1 false false], iD 0]) else some (.tup [.agg [.sl [] 0 1 false false, .sl [iD x1] 1 1 false false], iD 0])) else (bif decide (x1 = 0) then some (.tup [.agg [.sl [iD x0] 1 1 false false, .sl [] 0 1 false false], iD 0]) else some (.tup [.agg [.sl [iD x0] 1 1 false false, .sl [iD x1] 1 1 false false], iD 0]))) else (bif decide (x1 = 0) then some (.tup [.agg [.sl [iD x0, iD x2] 2 1 false false, .sl [] 0 1 false false], iD 0]) else some (.tup [.agg [.sl [iD x0, iD x2] 2 1 false false, .sl [iD x1] 1 1 false false], iD 0]))) else none := by kernel_rfl
  refine walk (fs := [53]) (shape := sh53) (by kernel_rfl : tget aeF 45 = some Tryd.f45) (h.trans ?_)
  refine (cond_is (g53 (a := [x0, x1, x2]) hp (by simp))).trans ?_
  by_cases zx2 : x2 = 0
  · refine (cnd_pos zx2).trans ?_
    by_cases zx0 : x0 = 0
    · refine (cnd_pos zx0).trans ?_
      by_cases zx1 : x1 = 0
      · refine (cnd_pos zx1).trans ?_
        simp [halvesD, evens, odds, trimL, ints, zx2, zx0, zx1]
      · refine (cnd_neg zx1).trans ?_
        simp [halvesD, evens, odds, trimL, ints, zx2, zx0, zx1]
    · refine (cnd_neg zx0).trans ?_
      by_cases zx1 : x1 = 0
      · refine (cnd_pos zx1).trans ?_
        simp [halvesD, evens, odds, trimL, ints, zx2, zx0, zx1]
      · refine (cnd_neg zx1).trans ?_
        simp [halvesD, evens, odds, trimL, ints, zx2, zx0, zx1]
  · refine (cnd_neg zx2).trans ?_
    by_cases zx1 : x1 = 0
    · refine (cnd_pos zx1).trans ?_
      simp [halvesD, evens, odds, trimL, ints, zx2, zx1]
    · refine (cnd_neg zx1).trans ?_
      simp [halvesD, evens, odds, trimL, ints, zx2, zx1]

theorem c39_4 (x0 x1 x2 x3 : Int) (c : Bool) : PureOK Tryd.prog 39 [ls [x0, x1, x2, x3] c false] (halvesD [x0, x1, x2, x3]) := by
  have h : pureE aeC (ev53 (okS sh53)) 30 39 Tryd.f39 [.sl [iD x0, iD x1, iD x2, iD x3] 4 1 c false] = (bif decide (x2 = 0) then (bif decide (x0 = 0) then (bif decide (x3 = 0) then (bif decide (x1 = 0) then some (.agg [.sl [] 0 1 false false, .sl [] 0 1 false false]) else some (.agg [.sl [] 0 1 false false, .sl [iD x1] 1 1 false false])) else some (.agg [.sl [] 0 1 false false, .sl [iD x1, iD x3] 2 1 false false])) else (bif decide (x3 = 0) then (bif decide (x1 = 0) then some (.agg [.sl [iD x0] 1 1 false false, .sl [] 0 1 false false]) else some (.agg [.sl [iD x0] 1 1 false false, .sl [iD x1] 1 1 false false])) else some (.agg [.sl [iD x0] 1 1 false false, .sl [iD x1, iD x3] 2 1 false false]))) else (bif decide (x3 = 0) then (bif decide (x1 = 0) then some (.agg [.sl [iD x0, iD x2] 2 1 false false, .sl [] 0 1 false false]) else some (.agg [.sl [iD x0, iD x2] 2 1 false false, .sl [iD x1] 1 1 false false])) else some (.agg [.sl [iD x0, iD x2] 2 1 false false, .sl [iD x1, iD x3] 2 1 false false]))) := by kernel_rfl
  refine walk (fs := [53]) (shape := sh53) (by kernel_rfl : tget aeF 39 = some Tryd.f39) (h.trans ?_)
  by_cases zx2 : x2 = 0
  · refine (cnd_pos zx2).trans ?_
    by_cases zx0 : x0 = 0
    · refine (cnd_pos zx0).trans ?_
      by_cases zx3 : x3 = 0
      · refine (cnd_pos zx3).trans ?_
        by_cases zx1 : x1 = 0
        · refine (cnd_pos zx1).trans ?_
          simp [halvesD, evens, odds, trimL, ints, zx2, zx0, zx3, zx1]
        · refine (cnd_neg zx1).trans ?_
          simp [halvesD, evens, odds, trimL, ints, zx2, zx0, zx3, zx1]
      · refine (cnd_neg zx3).trans ?_
        simp [halvesD, evens, odds, trimL, ints, zx2, zx0, zx3]
    · refine (cnd_neg zx0).trans ?_
      by_cases zx3 : x3 = 0
      · refine (cnd_pos zx3).trans ?_
        by_cases zx1 : x1 = 0
        · refine (cnd_pos zx1).trans ?_
          simp [halvesD, evens, odds, trimL, ints, zx2, zx0, zx3, zx1]
        · refine (cnd_neg zx1).trans ?_
          simp [halvesD, evens, odds, trimL, ints, zx2, zx0, zx3, zx1]
      · refine (cnd_neg zx3).trans ?_
        simp [halvesD, evens, odds, trimL, ints, zx2, zx0, zx3]
  · refine (cnd_neg zx2).trans ?_
    by_cases zx3 : x3 = 0
    · refine (cnd_pos zx3).trans ?_
      by_cases zx1 : x1 = 0
      · refine (cnd_pos zx1).trans ?_
        simp [halvesD, evens, odds, trimL, ints, zx2, zx3, zx1]
      · refine (cnd_neg zx1).trans ?_
        simp [halvesD, evens, odds, trimL, ints, zx2, zx3, zx1]
    · refine (cnd_neg zx3).trans ?_
      simp [halvesD, evens, odds, trimL, ints, zx2, zx3]

theorem c45_4 (x0 x1 x2 x3 : Int) (c : Bool) (hp : polyB [x0, x1, x2, x3] = true) : PureOK Tryd.prog 45 [ls [x0, x1, x2, x3] c false] (.tup [halvesD [x0, x1, x2, x3], iD 0]) := by
  have h : pureE aeC (ev53 (okS sh53)) 30 45 Tryd.f45 [.sl [iD x0, iD x1, iD x2, iD x3] 4 1 c false] = bif okS sh53 53 [.sl [iD x0, iD x1, iD x2, iD x3] 4 1 c false] then (bif decide (x2 = 0) then (bif decide (x0 = 0) then (bif decide (x3 = 0) then (bif decide (x1 = 0) then some (.tup [.agg [.sl [] 0 1 false false, .sl [] 0 1 false false], iD 0]) else some (.tup [.agg [.sl [] 0 1 false false, .sl [iD x1] 1 1 false false], iD 0])) else some (.tup [.agg [.sl [] 0 1 false false, .sl [iD x1, iD x3] 2 1 false false], iD 0])) else (bif decide (x3 = 0) then (bif decide (x1 = 0) then some (.tup [.agg [.sl [iD x0] 1 1 false false, .sl [] 0 1 false false], iD 0]) else some (.tup [.agg [.sl [iD x0] 1 1 false false, .sl [iD x1] 1 1 false false], iD 0])) else some (.tup [.agg [.sl [iD x0] 1 1 false false, .sl [iD x1, iD x3] 2 1 false false], iD 0]))) else (bif decide (x3 = 0) then (bif decide (x1 = 0) then some (.tup [.agg [.sl [iD x0, iD x2] 2 1 false false, .sl [] 0 1 false false], iD 0]) else some (.tup [.agg [.sl [iD x0, iD x2] 2 1 false false, .sl [iD x1] 1 1 false false], iD 0])) else some (.tup [.agg [.sl [iD x0, iD x2] 2 1 false false, .sl [iD x1, iD x3] 2 1 false false], iD 0]))) else none := by kernel_rfl
  refine walk (fs := [53]) (shape := sh53) (by kernel_rfl : tget aeF 45 = some Tryd.f45) (h.trans ?_)
  refine (cond_is (g53 (a := [x0, x1, x2, x3]) hp (by simp))).trans ?_
  by_cases zx2 : x2 = 0
  · refine (cnd_pos zx2).trans ?_
    by_cases zx0 : x0 = 0
    · refine (cnd_pos zx0).trans ?_
      by_cases zx3 : x3 = 0
      · refine (cnd_pos zx3).trans ?_
        by_cases zx1 : x1 = 0
        · refine (cnd_pos zx1).trans ?_
          simp [halvesD, evens, odds, trimL, ints, zx2, zx0, zx3, zx1]
        · refine (cnd_neg zx1).trans ?_
          simp [halvesD, evens, odds, trimL, ints, zx2, zx0, zx3, zx1]
      · refine (cnd_neg zx3).trans ?_
        simp [halvesD, evens, odds, trimL, ints, zx2, zx0, zx3]
    · refine (cnd_neg zx0).trans ?_
      by_cases zx3 : x3 = 0
      · refine (cnd_pos zx3).trans ?_
        by_cases zx1 : x1 = 0
        · refine (cnd_pos zx1).trans ?_
          simp [halvesD, evens, odds, trimL, ints, zx2, zx0, zx3, zx1]
        · refine (cnd_neg zx1).trans ?_
          simp [halvesD, evens, odds, trimL, ints, zx2, zx0, zx3, zx1]
      · refine (cnd_neg zx3).trans ?_
        simp [halvesD, evens, odds, trimL, ints, zx2, zx0, zx3]
  · refine (cnd_neg zx2).trans ?_
    by_cases zx3 : x3 = 0
    · refine (cnd_pos zx3).trans ?_
      by_cases zx1 : x1 = 0
      · refine (cnd_pos zx1).trans ?_
        simp [halvesD, evens, odds, trimL, ints, zx2, zx3, zx1]
      · refine (cnd_neg zx1).trans ?_
        simp [halvesD, evens, odds, trimL, ints, zx2, zx3, zx1]
    · refine (cnd_neg zx3).trans ?_
      simp [halvesD, evens, odds, trimL, ints, zx2, zx3]

theorem c39_5 (x0 x1 x2 x3 x4 : Int) (c : Bool) : PureOK Tryd.prog 39 [ls [x0, x1, x2, x3, x4] c false] (halvesD [x0, x1, x2, x3, x4]) := by
  have h : pureE aeC (ev53 (okS sh53)) 30 39 Tryd.f39 [.sl [iD x0, iD x1, iD x2, iD x3, iD x4] 5 1 c false] = (bif decide (x4 = 0) then (bif decide (x2 = 0) then (bif decide (x0 = 0) then (bif decide (x3 = 0) then (bif decide (x1 = 0) then some (.agg [.sl [] 0 1 false false, .sl [] 0 1 false false]) else some (.agg [.sl [] 0 1 false false, .sl [iD x1] 1 1 false false])) else some (.agg [.sl [] 0 1 false false, .sl [iD x1, iD x3] 2 1 false false])) else (bif decide (x3 = 0) then (bif decide (x1 = 0) then some (.agg [.sl [iD x0] 1 1 false false, .sl [] 0 1 false false]) else some (.agg [.sl [iD x0] 1 1 false false, .sl [iD x1] 1 1 false false])) else some (.agg [.sl [iD x0] 1 1 false false, .sl [iD x1, iD x3] 2 1 false false]))) else (bif decide (x3 = 0) then (bif decide (x1 = 0) then some (.agg [.sl [iD x0, iD x2] 2 1 false false, .sl [] 0 1 false false]) else some (.agg [.sl [iD x0, iD x2] 2 1 false false, .sl [iD x1] 1 1 false false])) else some (.agg [.sl [iD x0, iD x2] 2 1 false false, .sl [iD x1, iD x3] 2 1 false false]))) else (bif decide (x3 = 0) then (bif decide (x1 = 0) then some (.agg [.sl [iD x0, iD x2, iD x4] 3 1 false false, .sl [] 0 1 false false]) else some (.agg [.sl [iD x0, iD x2, iD x4] 3 1 false false, .sl [iD x1] 1 1 false false])) else some (.agg [.sl [iD x0, iD x2, iD x4] 3 1 false false, .sl [iD x1, iD x3] 2 1 false false]))) := by kernel_rfl
  refine walk (fs := [53]) (shape := sh53) (by kernel_rfl : tget aeF 39 = some Tryd.f39) (h.trans ?_)
  by_cases zx4 : x4 = 0
  · refine (cnd_pos zx4).trans ?_
    by_cases zx2 : x2 = 0
    · refine (cnd_pos zx2).trans ?_
      by_cases zx0 : x0 = 0
      · refine (cnd_pos zx0).trans ?_
        by_cases zx3 : x3 = 0
        · refine (cnd_pos zx3).trans ?_
          by_cases zx1 : x1 = 0
          · refine (cnd_pos zx1).trans ?_
            simp [halvesD, evens, odds, trimL, ints, zx4, zx2, zx0, zx3, zx1]
          · refine (cnd_neg zx1).trans ?_
            simp [halvesD, evens, odds, trimL, ints, zx4, zx2, zx0, zx3, zx1]
        · refine (cnd_neg zx3).trans ?_
          simp [halvesD, evens, odds, trimL, ints, zx4, zx2, zx0, zx3]
      · refine (cnd_neg zx0).trans ?_
        by_cases zx3 : x3 = 0
        · refine (cnd_pos zx3).trans ?_
          by_cases zx1 : x1 = 0
          · refine (cnd_pos zx1).trans ?_
            simp [halvesD, evens, odds, trimL, ints, zx4, zx2, zx0, zx3, zx1]
          · refine (cnd_neg zx1).trans ?_
            simp [halvesD, evens, odds, trimL, ints, zx4, zx2, zx0, zx3, zx1]
        · refine (cnd_neg zx3).trans ?_
          simp [halvesD, evens, odds, trimL, ints, zx4, zx2, zx0, zx3]
    · refine (cnd_neg zx2).trans ?_
      by_cases zx3 : x3 = 0
      · refine (cnd_pos zx3).trans ?_
        by_cases zx1 : x1 = 0
        · refine (cnd_pos zx1).trans ?_
          simp [halvesD, evens, odds, trimL, ints, zx4, zx2, zx3, zx1]
        · refine (cnd_neg zx1).trans ?_
          simp [halvesD, evens, odds, trimL, ints, zx4, zx2, zx3, zx1]
      · refine (cnd_neg zx3).trans ?_
        simp [halvesD, evens, odds, trimL, ints, zx4, zx2, zx3]
  · refine (cnd_neg zx4).trans ?_
    by_cases zx3 : x3 = 0
    · refine (cnd_pos zx3).trans ?_
      by_cases zx1 : x1 = 0
      · refine (cnd_pos zx1).trans ?_
        simp [halvesD, evens, odds, trimL, ints, zx4, zx3, zx1]
      · refine (cnd_neg zx1).trans ?_
        simp [halvesD, evens, odds, trimL, ints, zx4, zx3, zx1]
    · refine (cnd_neg zx3).trans ?_
      simp [halvesD, evens, odds, trimL, ints, zx4, zx3]

theorem c45_5 (x0 x1 x2 x3 x4 : Int) (c : Bool) (hp : polyB [x0, x1, x2, x3, x4] = true) : PureOK Tryd.prog 45 [ls [x0, x1, x2, x3, x4] c false] (.tup [halvesD [x0, x1, x2, x3, x4], iD 0]) := by
  have h : pureE aeC (ev53 (okS sh53)) 30 45 Tryd.f45 [.sl [iD x0, iD x1, iD x2, iD x3, iD x4] 5 1 c false] = bif okS sh53 53 [.sl [iD x0, iD x1, iD x2, iD x3, iD x4] 5 1 c false] then (bif decide (x4 = 0) then (bif decide (x2 = 0) then (bif decide (x0 = 0) then (bif decide (x3 = 0) then (bif decide (x1 = 0) then some (.tup [.agg [.sl [] 0 1 false false, .sl [] 0 1 false false], iD 0]) else some (.tup [.agg [.sl [] 0 1 false false, .sl [iD x1] 1 1 false false], iD 0])) else some (.tup [.agg [.sl [] 0 1 false false, .sl [iD x1, iD x3] 2 1 false false], iD 0])) else (bif decide (x3 = 0) then (bif decide (x1 = 0) then some (.tup [.agg [.sl [iD x0] 1 1 false false, .sl [] 0 1 false false], iD 0]) else some (.tup [.agg [.sl [iD x0] 1 1 false false, .sl [iD x1] 1 1 false false], iD 0])) else some (.tup [.agg [.sl [iD x0] 1 1 false false, .sl [iD x1, iD x3] 2 1 false false], iD 0]))) else (bif decide (x3 = 0) then (bif decide (x1 = 0) then some (.tup [.agg [.sl [iD x0, iD x2] 2 1 false false, .sl [] 0 1 false false], iD 0]) else some (.tup [.agg [.sl [iD x0, iD x2] 2 1 false false, .sl [iD x1] 1 1 false false], iD 0])) else some (.tup [.agg [.sl [iD x0, iD x2] 2 1 false false, .sl [iD x1, iD x3] 2 1 false false], iD 0]))) else (bif decide (x3 = 0) then (bif decide (x1 = 0) then some (.tup [.agg [.sl [iD x0, iD x2, iD x4] 3 1 false false, .sl [] 0 1 false false], iD 0]) else some (.tup [.agg [.sl [iD x0, iD x2, iD x4] 3 1 false false, .sl [iD x1] 1 1 false false], iD 0])) else some (.tup [.agg [.sl [iD x0, iD x2, iD x4] 3 1 false false, .sl [iD x1, iD x3] 2 1 false false], iD 0]))) else none := by kernel_rfl
  refine walk (fs := [53]) (shape := sh53) (by kernel_rfl : tget aeF 45 = some Tryd.f45) (h.trans ?_)
  refine (cond_is (g53 (a := [x0, x1, x2, x3, x4]) hp (by simp))).trans ?_
  by_cases zx4 : x4 = 0
  · refine (cnd_pos zx4).trans ?_
    by_cases zx2 : x2 = 0
    · refine (cnd_pos zx2).trans ?_
      by_cases zx0 : x0 = 0
      · refine (cnd_pos zx0).trans ?_
        by_cases zx3 : x3 = 0
        · refine (cnd_pos zx3).trans ?_
          by_cases zx1 : x1 = 0
          · refine (cnd_pos zx1).trans ?_
            simp [halvesD, evens, odds, trimL, ints, zx4, zx2, zx0, zx3, zx1]
          · refine (cnd_neg zx1).trans ?_
            simp [halvesD, evens, odds, trimL, ints, zx4, zx2, zx0, zx3, zx1]
        · refine (cnd_neg zx3).trans ?_
          simp [halvesD, evens, odds, trimL, ints, zx4, zx2, zx0, zx3]
      · refine (cnd_neg zx0).trans ?_
        by_cases zx3 : x3 = 0
        · refine (cnd_pos zx3).trans ?_
          by_cases zx1 : x1 = 0
          · refine (cnd_pos zx1).trans ?_
            simp [halvesD, evens, odds, trimL, ints, zx4, zx2, zx0, zx3, zx1]
          · refine (cnd_neg zx1).trans ?_
            simp [halvesD, evens, odds, trimL, ints, zx4, zx2, zx0, zx3, zx1]
        · refine (cnd_neg zx3).trans ?_
          simp [halvesD, evens, odds, trimL, ints, zx4, zx2, zx0, zx3]
    · refine (cnd_neg zx2).trans ?_
      by_cases zx3 : x3 = 0
      · refine (cnd_pos zx3).trans ?_
        by_cases zx1 : x1 = 0
        · refine (cnd_pos zx1).trans ?_
          simp [halvesD, evens, odds, trimL, ints, zx4, zx2, zx3, zx1]
        · refine (cnd_neg zx1).trans ?_
          simp [halvesD, evens, odds, trimL, ints, zx4, zx2, zx3, zx1]
      · refine (cnd_neg zx3).trans ?_
        simp [halvesD, evens, odds, trimL, ints, zx4, zx2, zx3]
  · refine (cnd_neg zx4).trans ?_
    by_cases zx3 : x3 = 0
    · refine (cnd_pos zx3).trans ?_
      by_cases zx1 : x1 = 0
      · refine (cnd_pos zx1).trans ?_
        simp [halvesD, evens, odds, trimL, ints, zx4, zx3, zx1]
      · refine (cnd_neg zx1).trans ?_
        simp [halvesD, evens, odds, trimL, ints, zx4, zx3, zx1]
    · refine (cnd_neg zx3).trans ?_
      simp [halvesD, evens, odds, trimL, ints, zx4, zx3]

theorem c39_6 (x0 x1 x2 x3 x4 x5 : Int) (c : Bool) : PureOK Tryd.prog 39 [ls [x0, x1, x2, x3, x4, x5] c false] (halvesD [x0, x1, x2, x3, x4, x5]) := by
  have h : pureE aeC (ev53 (okS sh53)) 30 39 Tryd.f39 [.sl [iD x0, iD x1, iD x2, iD x3, iD x4, iD x5] 6 1 c false] = (bif decide (x4 = 0) then (bif decide (x2 = 0) then (bif decide (x0 = 0) then (bif decide (x5 = 0) then (bif decide (x3 = 0) then (bif decide (x1 = 0) then some (.agg [.sl [] 0 1 false false, .sl [] 0 1 false false]) else some (.agg [.sl [] 0 1 false false, .sl [iD x1] 1 1 false false])) else some (.agg [.sl [] 0 1 false false, .sl [iD x1, iD x3] 2 1 false false])) else some (.agg [.sl [] 0 1 false false, .sl [iD x1, iD x3, iD x5] 3 1 false false])) else (bif decide (x5 = 0) then (bif decide (x3 = 0) then (bif decide (x1 = 0) then some (.agg [.sl [iD x0] 1 1 false false, .sl [] 0 1 false false]) else some (.agg [.sl [iD x0] 1 1 false false, .sl [iD x1] 1 1 false false])) else some (.agg [.sl [iD x0] 1 1 false false, .sl [iD x1, iD x3] 2 1 false false])) else some (.agg [.sl [iD x0] 1 1 false false, .sl [iD x1, iD x3, iD x5] 3 1 false false]))) else (bif decide (x5 = 0) then (bif decide (x3 = 0) then (bif decide (x1 = 0) then some (.agg [.sl [iD x0, iD x2] 2 1 false false, .sl [] 0 1 false false]) else some (.agg [.sl [iD x0, iD x2] 2 1 false false, .sl [iD x1] 1 1 false false])) else some (.agg [.sl [iD x0, iD x2] 2 1 false false, .sl [iD x1, iD x3] 2 1 false false])) else some (.agg [.sl [iD x0, iD x2] 2 1 false false, .sl [iD x1, iD x3, iD x5] 3 1 false false]))) else (bif decide (x5 = 0) then (bif decide (x3 = 0) then (bif decide (x1 = 0) then some (.agg [.sl [iD x0, iD x2, iD x4] 3 1 false false, .sl [] 0 1 false false]) else some (.agg [.sl [iD x0, iD x2, iD x4] 3 1 false false, .sl [iD x1] 1 1 false false])) else some (.agg [.sl [iD x0, iD x2, iD x4] 3 1 false false, .sl [iD x1, iD x3] 2 1 false false])) else some (.agg [.sl [iD x0, iD x2, iD x4] 3 1 false false, .sl [iD x1, iD x3, iD x5] 3 1 false false]))) := by kernel_rfl
  refine walk (fs := [53]) (shape := sh53) (by kernel_rfl : tget aeF 39 = some Tryd.f39) (h.trans ?_)
  by_cases zx4 : x4 = 0
  · refine (cnd_pos zx4).trans ?_
    by_cases zx2 : x2 = 0
    · refine (cnd_pos zx2).trans ?_
      by_cases zx0 : x0 = 0
      · refine (cnd_pos zx0).trans ?_
        by_cases zx5 : x5 = 0
        · refine (cnd_pos zx5).trans ?_
          by_cases zx3 : x3 = 0
          · refine (cnd_pos zx3).trans ?_
            by_cases zx1 : x1 = 0
            · refine (cnd_pos zx1).trans ?_
              simp [halvesD, evens, odds, trimL, ints, zx4, zx2, zx0, zx5, zx3, zx1]
            · refine (cnd_neg zx1).trans ?_
              simp [halvesD, evens, odds, trimL, ints, zx4, zx2, zx0, zx5, zx3, zx1]
          · refine (cnd_neg zx3).trans ?_
            simp [halvesD, evens, odds, trimL, ints, zx4, zx2, zx0, zx5, zx3]
        · refine (cnd_neg zx5).trans ?_
          simp [halvesD, evens, odds, trimL, ints, zx4, zx2, zx0, zx5]
      · refine (cnd_neg zx0).trans ?_
        by_cases zx5 : x5 = 0
        · refine (cnd_pos zx5).trans ?_
          by_cases zx3 : x3 = 0
          · refine (cnd_pos zx3).trans ?_
            by_cases zx1 : x1 = 0
            · refine (cnd_pos zx1).trans ?_
              simp [halvesD, evens, odds, trimL, ints, zx4, zx2, zx0, zx5, zx3, zx1]
            · refine (cnd_neg zx1).trans ?_
              simp [halvesD, evens, odds, trimL, ints, zx4, zx2, zx0, zx5, zx3, zx1]
          · refine (cnd_neg zx3).trans ?_
            simp [halvesD, evens, odds, trimL, ints, zx4, zx2, zx0, zx5, zx3]
        · refine (cnd_neg zx5).trans ?_
          simp [halvesD, evens, odds, trimL, ints, zx4, zx2, zx0, zx5]
    · refine (cnd_neg zx2).trans ?_
      by_cases zx5 : x5 = 0
      · refine (cnd_pos zx5).trans ?_
        by_cases zx3 : x3 = 0
        · refine (cnd_pos zx3).trans ?_
          by_cases zx1 : x1 = 0
          · refine (cnd_pos zx1).trans ?_
            simp [halvesD, evens, odds, trimL, ints, zx4, zx2, zx5, zx3, zx1]
          · refine (cnd_neg zx1).trans ?_
            simp [halvesD, evens, odds, trimL, ints, zx4, zx2, zx5, zx3, zx1]
        · refine (cnd_neg zx3).trans ?_
          simp [halvesD, evens, odds, trimL, ints, zx4, zx2, zx5, zx3]
      · refine (cnd_neg zx5).trans ?_
        simp [halvesD, evens, odds, trimL, ints, zx4, zx2, zx5]
  · refine (cnd_neg zx4).trans ?_
    by_cases zx5 : x5 = 0
    · refine (cnd_pos zx5).trans ?_
      by_cases zx3 : x3 = 0
      · refine (cnd_pos zx3).trans ?_
        by_cases zx1 : x1 = 0
        · refine (cnd_pos zx1).trans ?_
          simp [halvesD, evens, odds, trimL, ints, zx4, zx5, zx3, zx1]
        · refine (cnd_neg zx1).trans ?_
          simp [halvesD, evens, odds, trimL, ints, zx4, zx5, zx3, zx1]
      · refine (cnd_neg zx3).trans ?_
        simp [halvesD, evens, odds, trimL, ints, zx4, zx5, zx3]
    · refine (cnd_neg zx5).trans ?_
      simp [halvesD, evens, odds, trimL, ints, zx4, zx5]

theorem c45_6 (x0 x1 x2 x3 x4 x5 : Int) (c : Bool) (hp : polyB [x0, x1, x2, x3, x4, x5] = true) : PureOK Tryd.prog 45 [ls [x0, x1, x2, x3, x4, x5] c false] (.tup [halvesD [x0, x1, x2, x3, x4, x5], iD 0]) := by
  have h : pureE aeC (ev53 (okS sh53)) 30 45 Tryd.f45 [.sl [iD x0, iD x1, iD x2, iD x3, iD x4, iD x5] 6 1 c false] = bif okS sh53 53 [.sl [iD x0, iD x1, iD x2, iD x3, iD x4, iD x5] 6 1 c false] then (bif decide (x4 = 0) then (bif decide (x2 = 0) then (bif decide (x0 = 0) then (bif decide (x5 = 0) then (bif decide (x3 = 0) then (bif decide (x1 = 0) then some (.tup [.agg [.sl [] 0 1 false false, .sl [] 0 1 false false], iD 0]) else some (.tup [.agg [.sl [] 0 1 false false, .sl [iD x1] 1 1 false false], iD 0])) else some (.tup [.agg [.sl [] 0 1 false false, .sl [iD x1, iD x3] 2 1 false false], iD 0])) else some (.tup [.agg [.sl [] 0 1 false false, .sl [iD x1, iD x3, iD x5] 3 1 false false], iD 0])) else (bif decide (x5 = 0) then (bif decide (x3 = 0) then (bif decide (x1 = 0) then some (.tup [.agg [.sl [iD x0] 1 1 false false, .sl [] 0 1 false false], iD 0]) else some (.tup [.agg [.sl [iD x0] 1 1 false false, .sl [iD x1] 1 1 false false], iD 0])) else some (.tup [.agg [.sl [iD x0] 1 1 false false, .sl [iD x1, iD x3] 2 1 false false], iD 0])) else some (.tup [.agg [.sl [iD x0] 1 1 false false, .sl [iD x1, iD x3, iD x5] 3 1 false false], iD 0]))) else (bif decide (x5 = 0) then (bif decide (x3 = 0) then (bif decide (x1 = 0) then some (.tup [.agg [.sl [iD x0, iD x2] 2 1 false false, .sl [] 0 1 false false], iD 0]) else some (.tup [.agg [.sl [iD x0, iD x2] 2 1 false false, .sl [iD x1] 1 1 false false], iD 0])) else some (.tup [.agg [.sl [iD x0, iD x2] 2 1 false false, .sl [iD x1, iD x3] 2 1 false false], iD 0])) else some (.tup [.agg [.sl [iD x0, iD x2] 2 1 false false, .sl [iD x1, iD x3, iD x5] 3 1 false false], iD 0]))) else (bif decide (x5 = 0) then (bif decide (x3 = 0) then (bif decide (x1 = 0) then some (.tup [.agg [.sl [iD x0, iD x2, iD x4] 3 1 false false, .sl [] 0 1 false false], iD 0]) else some (.tup [.agg [.sl [iD x0, iD x2, iD x4] 3 1 false false, .sl [iD x1] 1 1 false false], iD 0])) else some (.tup [.agg [.sl [iD x0, iD x2, iD x4] 3 1 false false, .sl [iD x1, iD x3] 2 1 false false], iD 0])) else some (.tup [.agg [.sl [iD x0, iD x2, iD x4] 3 1 false false, .sl [iD x1, iD x3, iD x5] 3 1 false false], iD 0]))) else none := by kernel_rfl
  refine walk (fs := [53]) (shape := sh53) (by kernel_rfl : tget aeF 45 = some Tryd.f45) (h.trans ?_)
  refine (cond_is (g53 (a := [x0, x1, x2, x3, x4, x5]) hp (by simp))).trans ?_
  by_cases zx4 : x4 = 0
  · refine (cnd_pos zx4).trans ?_
    by_cases zx2 : x2 = 0
    · refine (cnd_pos zx2).trans ?_
      by_cases zx0 : x0 = 0
      · refine (cnd_pos zx0).trans ?_
        by_cases zx5 : x5 = 0
        · refine (cnd_pos zx5).trans ?_
          by_cases zx3 : x3 = 0
          · refine (cnd_pos zx3).trans ?_
            by_cases zx1 : x1 = 0
            · refine (cnd_pos zx1).trans ?_
              simp [halvesD, evens, odds, trimL, ints, zx4, zx2, zx0, zx5, zx3, zx1]
            · refine (cnd_neg zx1).trans ?_
              simp [halvesD, evens, odds, trimL, ints, zx4, zx2, zx0, zx5, zx3, zx1]
          · refine (cnd_neg zx3).trans ?_
            simp [halvesD, evens, odds, trimL, ints, zx4, zx2, zx0, zx5, zx3]
        · refine (cnd_neg zx5).trans ?_
          simp [halvesD, evens, odds, trimL, ints, zx4, zx2, zx0, zx5]
      · refine (cnd_neg zx0).trans ?_
        by_cases zx5 : x5 = 0
        · refine (cnd_pos zx5).trans ?_
          by_cases zx3 : x3 = 0
          · refine (cnd_pos zx3).trans ?_
            by_cases zx1 : x1 = 0
            · refine (cnd_pos zx1).trans ?_
              simp [halvesD, evens, odds, trimL, ints, zx4, zx2, zx0, zx5, zx3, zx1]
            · refine (cnd_neg zx1).trans ?_
              simp [halvesD, evens, odds, trimL, ints, zx4, zx2, zx0, zx5, zx3, zx1]
          · refine (cnd_neg zx3).trans ?_
            simp [halvesD, evens, odds, trimL, ints, zx4, zx2, zx0, zx5, zx3]
        · refine (cnd_neg zx5).trans ?_
          simp [halvesD, evens, odds, trimL, ints, zx4, zx2, zx0, zx5]
    · refine (cnd_neg zx2).trans ?_
      by_cases zx5 : x5 = 0
      · refine (cnd_pos zx5).trans ?_
        by_cases zx3 : x3 = 0
        · refine (cnd_pos zx3).trans ?_
          by_cases zx1 : x1 = 0
          · refine (cnd_pos zx1).trans ?_
            simp [halvesD, evens, odds, trimL, ints, zx4, zx2, zx5, zx3, zx1]
          · refine (cnd_neg zx1).trans ?_
            simp [halvesD, evens, odds, trimL, ints, zx4, zx2, zx5, zx3, zx1]
        · refine (cnd_neg zx3).trans ?_
          simp [halvesD, evens, odds, trimL, ints, zx4, zx2, zx5, zx3]
      · refine (cnd_neg zx5).trans ?_
        simp [halvesD, evens, odds, trimL, ints, zx4, zx2, zx5]
  · refine (cnd_neg zx4).trans ?_
    by_cases zx5 : x5 = 0
    · refine (cnd_pos zx5).trans ?_
      by_cases zx3 : x3 = 0
      · refine (cnd_pos zx3).trans ?_
        by_cases zx1 : x1 = 0
        · refine (cnd_pos zx1).trans ?_
          simp [halvesD, evens, odds, trimL, ints, zx4, zx5, zx3, zx1]
        · refine (cnd_neg zx1).trans ?_
          simp [halvesD, evens, odds, trimL, ints, zx4, zx5, zx3, zx1]
      · refine (cnd_neg zx3).trans ?_
        simp [halvesD, evens, odds, trimL, ints, zx4, zx5, zx3]
    · refine (cnd_neg zx5).trans ?_
      simp [halvesD, evens, odds, trimL, ints, zx4, zx5]

theorem c39 : ∀ (a : List Int) (c : Bool), 1 ≤ a.length → a.length ≤ 6 → PureOK Tryd.prog 39 [ls a c false] (halvesD a)
  | [x0], c, _, _ => c39_1 x0 c
  | [x0, x1], c, _, _ => c39_2 x0 x1 c
  | [x0, x1, x2], c, _, _ => c39_3 x0 x1 x2 c
  | [x0, x1, x2, x3], c, _, _ => c39_4 x0 x1 x2 x3 c
  | [x0, x1, x2, x3, x4], c, _, _ => c39_5 x0 x1 x2 x3 x4 c
  | [x0, x1, x2, x3, x4, x5], c, _, _ => c39_6 x0 x1 x2 x3 x4 x5 c
  | [], _, h, _ => absurd h (by simp)
  | _ :: _ :: _ :: _ :: _ :: _ :: _ :: _, _, _, h => absurd h (by simp)

theorem c45 : ∀ (a : List Int) (c : Bool), 1 ≤ a.length → a.length ≤ 6 → polyB a = true → PureOK Tryd.prog 45 [ls a c false] (.tup [halvesD a, iD 0])
  | [x0], c, _, _, hp => c45_1 x0 c hp
  | [x0, x1], c, _, _, hp => c45_2 x0 x1 c hp
  | [x0, x1, x2], c, _, _, hp => c45_3 x0 x1 x2 c hp
  | [x0, x1, x2, x3], c, _, _, hp => c45_4 x0 x1 x2 x3 c hp
  | [x0, x1, x2, x3, x4], c, _, _, hp => c45_5 x0 x1 x2 x3 x4 c hp
  | [x0, x1, x2, x3, x4, x5], c, _, _, hp => c45_6 x0 x1 x2 x3 x4 x5 c hp
  | [], _, h, _, _ => absurd h (by simp)
  | _ :: _ :: _ :: _ :: _ :: _ :: _ :: _, _, _, h, _ => absurd h (by simp)

theorem c50_1 (x0 : Int) (c nl : Bool) : PureOK Tryd.prog 50 [ls [x0] c nl] (ls [x0] false false) := walkA (by kernel_rfl : tget aeF 50 = some Tryd.f50) (by kernel_rfl)
theorem c46_1 (x0 : Int) (c : Bool) (hp : polyB [x0] = true) : PureOK Tryd.prog 46 [ls [x0] c false] (bif decide (x0 = 0) then .tup [.sl [] 0 0 false true, iD 1] else .tup [ls [x0] false false, iD 0]) := by
  have h : pureE aeC (ev53 (okS sh53)) 30 46 Tryd.f46 [.sl [iD x0] 1 1 c false] = bif okS sh53 53 [.sl [iD x0] 1 1 c false] then (bif decide (x0 = 0) then some (.tup [.sl [] 0 0 false true, iD 1]) else some (.tup [ls [x0] false false, iD 0])) else none := by kernel_rfl
  refine walk (fs := [53]) (shape := sh53) (by kernel_rfl : tget aeF 46 = some Tryd.f46) (h.trans ((cond_is (g53 (a := [x0]) hp (by simp))).trans ?_))
  cases decide (x0 = 0) <;> rfl

theorem c50_2 (x0 x1 : Int) (c nl : Bool) : PureOK Tryd.prog 50 [ls [x0, x1] c nl] (ls [x1, x0] false false) := walkA (by kernel_rfl : tget aeF 50 = some Tryd.f50) (by kernel_rfl)
theorem c46_2 (x0 x1 : Int) (c : Bool) (hp : polyB [x0, x1] = true) : PureOK Tryd.prog 46 [ls [x0, x1] c false] (bif decide (x0 = 0) then .tup [.sl [] 0 0 false true, iD 1] else .tup [ls [x1, x0] false false, iD 0]) := by
  have h : pureE aeC (ev53 (okS sh53)) 30 46 Tryd.f46 [.sl [iD x0, iD x1] 2 1 c false] = bif okS sh53 53 [.sl [iD x0, iD x1] 2 1 c false] then (bif decide (x0 = 0) then some (.tup [.sl [] 0 0 false true, iD 1]) else some (.tup [ls [x1, x0] false false, iD 0])) else none := by kernel_rfl
  refine walk (fs := [53]) (shape := sh53) (by kernel_rfl : tget aeF 46 = some Tryd.f46) (h.trans ((cond_is (g53 (a := [x0, x1]) hp (by simp))).trans ?_))
  cases decide (x0 = 0) <;> rfl

theorem c50_3 (x0 x1 x2 : Int) (c nl : Bool) : PureOK Tryd.prog 50 [ls [x0, x1, x2] c nl] (ls [x2, x1, x0] false false) := walkA (by kernel_rfl : tget aeF 50 = some Tryd.f50) (by kernel_rfl)
theorem c46_3 (x0 x1 x2 : Int) (c : Bool) (hp : polyB [x0, x1, x2] = true) : PureOK Tryd.prog 46 [ls [x0, x1, x2] c false] (bif decide (x0 = 0) then .tup [.sl [] 0 0 false true, iD 1] else .tup [ls [x2, x1, x0] false false, iD 0]) := by
  have h : pureE aeC (ev53 (okS sh53)) 30 46 Tryd.f46 [.sl [iD x0, iD x1, iD x2] 3 1 c false] = bif okS sh53 53 [.sl [iD x0, iD x1, iD x2] 3 1 c false] then (bif decide (x0 = 0) then some (.tup [.sl [] 0 0 false true, iD 1]) else some (.tup [ls [x2, x1, x0] false false, iD 0])) else none := by kernel_rfl
  refine walk (fs := [53]) (shape := sh53) (by kernel_rfl : tget aeF 46 = some Tryd.f46) (h.trans ((cond_is (g53 (a := [x0, x1, x2]) hp (by simp))).trans ?_))
  cases decide (x0 = 0) <;> rfl

theorem c50_4 (x0 x1 x2 x3 : Int) (c nl : Bool) : PureOK Tryd.prog 50 [ls [x0, x1, x2, x3] c nl] (ls [x3, x2, x1, x0] false false) := walkA (by kernel_rfl : tget aeF 50 = some Tryd.f50) (by kernel_rfl)
theorem c46_4 (x0 x1 x2 x3 : Int) (c : Bool) (hp : polyB [x0, x1, x2, x3] = true) : PureOK Tryd.prog 46 [ls [x0, x1, x2, x3] c false] (bif decide (x0 = 0) then .tup [.sl [] 0 0 false true, iD 1] else .tup [ls [x3, x2, x1, x0] false false, iD 0]) := by
  have h : pureE aeC (ev53 (okS sh53)) 30 46 Tryd.f46 [.sl [iD x0, iD x1, iD x2, iD x3] 4 1 c false] = bif okS sh53 53 [.sl [iD x0, iD x1, iD x2, iD x3] 4 1 c false] then (bif decide (x0 = 0) then some (.tup [.sl [] 0 0 false true, iD 1]) else some (.tup [ls [x3, x2, x1, x0] false false, iD 0])) else none := by kernel_rfl
  refine walk (fs := [53]) (shape := sh53) (by kernel_rfl : tget aeF 46 = some Tryd.f46) (h.trans ((cond_is (g53 (a := [x0, x1, x2, x3]) hp (by simp))).trans ?_))
  cases decide (x0 = 0) <;> rfl

theorem c50_5 (x0 x1 x2 x3 x4 : Int) (c nl : Bool) : PureOK Tryd.prog 50 [ls [x0, x1, x2, x3, x4] c nl] (ls [x4, x3, x2, x1, x0] false false) := walkA (by kernel_rfl : tget aeF 50 = some Tryd.f50) (by kernel_rfl)
theorem c46_5 (x0 x1 x2 x3 x4 : Int) (c : Bool) (hp : polyB [x0, x1, x2, x3, x4] = true) : PureOK Tryd.prog 46 [ls [x0, x1, x2, x3, x4] c false] (bif decide (x0 = 0) then .tup [.sl [] 0 0 false true, iD 1] else .tup [ls [x4, x3, x2, x1, x0] false false, iD 0]) := by
  have h : pureE aeC (ev53 (okS sh53)) 30 46 Tryd.f46 [.sl [iD x0, iD x1, iD x2, iD x3, iD x4] 5 1 c false] = bif okS sh53 53 [.sl [iD x0, iD x1, iD x2, iD x3, iD x4] 5 1 c false] then (bif decide (x0 = 0) then some (.tup [.sl [] 0 0 false true, iD 1]) else some (.tup [ls [x4, x3, x2, x1, x0] false false, iD 0])) else none := by kernel_rfl
  refine walk (fs := [53]) (shape := sh53) (by kernel_rfl : tget aeF 46 = some Tryd.f46) (h.trans ((cond_is (g53 (a := [x0, x1, x2, x3, x4]) hp (by simp))).trans ?_))
  cases decide (x0 = 0) <;> rfl

theorem c50_6 (x0 x1 x2 x3 x4 x5 : Int) (c nl : Bool) : PureOK Tryd.prog 50 [ls [x0, x1, x2, x3, x4, x5] c nl] (ls [x5, x4, x3, x2, x1, x0] false false) := walkA (by kernel_rfl : tget aeF 50 = some Tryd.f50) (by kernel_rfl)
theorem c46_6 (x0 x1 x2 x3 x4 x5 : Int) (c : Bool) (hp : polyB [x0, x1, x2, x3, x4, x5] = true) : PureOK Tryd.prog 46 [ls [x0, x1, x2, x3, x4, x5] c false] (bif decide (x0 = 0) then .tup [.sl [] 0 0 false true, iD 1] else .tup [ls [x5, x4, x3, x2, x1, x0] false false, iD 0]) := by
  have h : pureE aeC (ev53 (okS sh53)) 30 46 Tryd.f46 [.sl [iD x0, iD x1, iD x2, iD x3, iD x4, iD x5] 6 1 c false] = bif okS sh53 53 [.sl [iD x0, iD x1, iD x2, iD x3, iD x4, iD x5] 6 1 c false] then (bif decide (x0 = 0) then some (.tup [.sl [] 0 0 false true, iD 1]) else some (.tup [ls [x5, x4, x3, x2, x1, x0] false false, iD 0])) else none := by kernel_rfl
  refine walk (fs := [53]) (shape := sh53) (by kernel_rfl : tget aeF 46 = some Tryd.f46) (h.trans ((cond_is (g53 (a := [x0, x1, x2, x3, x4, x5]) hp (by simp))).trans ?_))
  cases decide (x0 = 0) <;> rfl

theorem c50 : ∀ (a : List Int) (c nl : Bool), 1 ≤ a.length → a.length ≤ 6 → PureOK Tryd.prog 50 [ls a c nl] (ls a.reverse false false)
  | [x0], c, nl, _, _ => c50_1 x0 c nl
  | [x0, x1], c, nl, _, _ => c50_2 x0 x1 c nl
  | [x0, x1, x2], c, nl, _, _ => c50_3 x0 x1 x2 c nl
  | [x0, x1, x2, x3], c, nl, _, _ => c50_4 x0 x1 x2 x3 c nl
  | [x0, x1, x2, x3, x4], c, nl, _, _ => c50_5 x0 x1 x2 x3 x4 c nl
  | [x0, x1, x2, x3, x4, x5], c, nl, _, _ => c50_6 x0 x1 x2 x3 x4 x5 c nl
  | [], _, _, h, _ => absurd h (by simp)
  | _ :: _ :: _ :: _ :: _ :: _ :: _ :: _, _, _, _, h => absurd h (by simp)
theorem c46 : ∀ (a : List Int) (c : Bool), 1 ≤ a.length → a.length ≤ 6 → polyB a = true → PureOK Tryd.prog 46 [ls a c false] (bif decide (a.getD 0 0 = 0) then .tup [.sl [] 0 0 false true, iD 1] else .tup [ls a.reverse false false, iD 0])
  | [x0], c, _, _, hp => c46_1 x0 c hp
  | [x0, x1], c, _, _, hp => c46_2 x0 x1 c hp
  | [x0, x1, x2], c, _, _, hp => c46_3 x0 x1 x2 c hp
  | [x0, x1, x2, x3], c, _, _, hp => c46_4 x0 x1 x2 x3 c hp
  | [x0, x1, x2, x3, x4], c, _, _, hp => c46_5 x0 x1 x2 x3 x4 c hp
  | [x0, x1, x2, x3, x4, x5], c, _, _, hp => c46_6 x0 x1 x2 x3 x4 x5 c hp
  | [], _, h, _, _ => absurd h (by simp)
  | _ :: _ :: _ :: _ :: _ :: _ :: _ :: _, _, _, h, _ => absurd h (by simp)

end Go.Proofs.YtiicbenhhdbnoaaDoor

/- Chapter 09: polynomials that are made of any numbers. Written by wip/tools/genC4.py. -/
namespace Go.Proofs.YtiicbenhhdbnoaaDoor
open Go Go.AE
set_option maxRecDepth 100000
/-! ### Made of any numbers -/
def tv (x : Int) : Int := IntKind.wrap .i64 (IntKind.wrap .i64 (Int.tmod (IntKind.wrap .u64 x) 61) - 30)
theorem tv_b (x : Int) : -30 ≤ tv x ∧ tv x ≤ 30 := by
  unfold tv
  have h0 : 0 ≤ IntKind.wrap .u64 x := by rw [wrapU_eq]; omega
  have h1 : Int.tmod (IntKind.wrap .u64 x) 61 = (IntKind.wrap .u64 x) % 61 := Int.tmod_eq_emod_of_nonneg h0
  rw [h1, wrap64_o (n := IntKind.wrap .u64 x % 61) (by omega) (by omega), wrap64_o (by omega) (by omega)]
  omega
theorem polyB_mk {a : List Int} (h1 : 1 ≤ a.length) (h6 : a.length ≤ 6) (hw : ∀ x ∈ a, -30 ≤ x ∧ x ≤ 30) (hl : lastI a ≠ 0) : polyB a = true := by
  unfold polyB withinB
  simp only [decide_eq_true h1, decide_eq_true h6, decide_eq_false hl, Bool.true_and, Bool.not_false, Bool.and_true, List.all_eq_true, Bool.and_eq_true, decide_eq_true_eq]
  exact hw
theorem polyB_at {a : List Int} (h : polyB a = true) : 1 ≤ a.length ∧ a.length ≤ 6 ∧ (∀ x ∈ a, -30 ≤ x ∧ x ≤ 30) ∧ lastI a ≠ 0 := by
  unfold polyB withinB at h
  simp only [Bool.and_eq_true, decide_eq_true_eq, List.all_eq_true, Bool.not_eq_true', decide_eq_false_iff_not] at h
  exact ⟨h.1, h.2.1, h.2.2.1, h.2.2.2⟩

theorem c12_0 (c nl : Bool) : ∃ a, polyB a = true ∧ PureOK Tryd.prog 12 [.sl [] 0 1 c nl] (ls a false false) := by
  exact ⟨[1], by decide, walkA (by kernel_rfl : tget aeF 12 = some Tryd.f12) (by kernel_rfl)⟩
theorem c12_1 (x0 : Int) (c nl : Bool) : ∃ a, polyB a = true ∧ PureOK Tryd.prog 12 [.sl [iD x0] 1 1 c nl] (ls a false false) := by
  have h : pureE aeC evA 30 12 Tryd.f12 [.sl [iD x0] 1 1 c nl] = (bif decide (tv x0 = 0) then some (ls [tv x0, 1] false false) else some (ls [tv x0] false false)) := by kernel_rfl
  by_cases z : tv x0 = 0
  · exact ⟨[tv x0, 1], polyB_mk (by simp) (by simp) (by intro x hx; simp only [List.mem_cons, List.not_mem_nil, or_false] at hx; rcases hx with rfl|rfl <;> first | exact tv_b _ | omega) (by show (1 : Int) ≠ 0; decide), walkA (by kernel_rfl : tget aeF 12 = some Tryd.f12) (h.trans (cnd_pos z))⟩
  · exact ⟨[tv x0], polyB_mk (by simp) (by simp) (by intro x hx; simp only [List.mem_cons, List.not_mem_nil, or_false] at hx; rcases hx with rfl <;> first | exact tv_b _ | omega) (by show tv x0 ≠ 0; exact z), walkA (by kernel_rfl : tget aeF 12 = some Tryd.f12) (h.trans (cnd_neg z))⟩

theorem c12_2 (x0 x1 : Int) (c nl : Bool) : ∃ a, polyB a = true ∧ PureOK Tryd.prog 12 [.sl [iD x0, iD x1] 2 1 c nl] (ls a false false) := by
  have h : pureE aeC evA 30 12 Tryd.f12 [.sl [iD x0, iD x1] 2 1 c nl] = (bif decide (tv x1 = 0) then some (ls [tv x0, tv x1, 1] false false) else some (ls [tv x0, tv x1] false false)) := by kernel_rfl
  by_cases z : tv x1 = 0
  · exact ⟨[tv x0, tv x1, 1], polyB_mk (by simp) (by simp) (by intro x hx; simp only [List.mem_cons, List.not_mem_nil, or_false] at hx; rcases hx with rfl|rfl|rfl <;> first | exact tv_b _ | omega) (by show (1 : Int) ≠ 0; decide), walkA (by kernel_rfl : tget aeF 12 = some Tryd.f12) (h.trans (cnd_pos z))⟩
  · exact ⟨[tv x0, tv x1], polyB_mk (by simp) (by simp) (by intro x hx; simp only [List.mem_cons, List.not_mem_nil, or_false] at hx; rcases hx with rfl|rfl <;> first | exact tv_b _ | omega) (by show tv x1 ≠ 0; exact z), walkA (by kernel_rfl : tget aeF 12 = some Tryd.f12) (h.trans (cnd_neg z))⟩

theorem c12_3 (x0 x1 x2 : Int) (c nl : Bool) : ∃ a, polyB a = true ∧ PureOK Tryd.prog 12 [.sl [iD x0, iD x1, iD x2] 3 1 c nl] (ls a false false) := by
  have h : pureE aeC evA 30 12 Tryd.f12 [.sl [iD x0, iD x1, iD x2] 3 1 c nl] = (bif decide (tv x2 = 0) then some (ls [tv x0, tv x1, tv x2, 1] false false) else some (ls [tv x0, tv x1, tv x2] false false)) := by kernel_rfl
  by_cases z : tv x2 = 0
  · exact ⟨[tv x0, tv x1, tv x2, 1], polyB_mk (by simp) (by simp) (by intro x hx; simp only [List.mem_cons, List.not_mem_nil, or_false] at hx; rcases hx with rfl|rfl|rfl|rfl <;> first | exact tv_b _ | omega) (by show (1 : Int) ≠ 0; decide), walkA (by kernel_rfl : tget aeF 12 = some Tryd.f12) (h.trans (cnd_pos z))⟩
  · exact ⟨[tv x0, tv x1, tv x2], polyB_mk (by simp) (by simp) (by intro x hx; simp only [List.mem_cons, List.not_mem_nil, or_false] at hx; rcases hx with rfl|rfl|rfl <;> first | exact tv_b _ | omega) (by show tv x2 ≠ 0; exact z), walkA (by kernel_rfl : tget aeF 12 = some Tryd.f12) (h.trans (cnd_neg z))⟩

theorem c12_4 (x0 x1 x2 x3 : Int) (c nl : Bool) : ∃ a, polyB a = true ∧ PureOK Tryd.prog 12 [.sl [iD x0, iD x1, iD x2, iD x3] 4 1 c nl] (ls a false false) := by
  have h : pureE aeC evA 30 12 Tryd.f12 [.sl [iD x0, iD x1, iD x2, iD x3] 4 1 c nl] = (bif decide (tv x3 = 0) then some (ls [tv x0, tv x1, tv x2, tv x3, 1] false false) else some (ls [tv x0, tv x1, tv x2, tv x3] false false)) := by kernel_rfl
  by_cases z : tv x3 = 0
  · exact ⟨[tv x0, tv x1, tv x2, tv x3, 1], polyB_mk (by simp) (by simp) (by intro x hx; simp only [List.mem_cons, List.not_mem_nil, or_false] at hx; rcases hx with rfl|rfl|rfl|rfl|rfl <;> first | exact tv_b _ | omega) (by show (1 : Int) ≠ 0; decide), walkA (by kernel_rfl : tget aeF 12 = some Tryd.f12) (h.trans (cnd_pos z))⟩
  · exact ⟨[tv x0, tv x1, tv x2, tv x3], polyB_mk (by simp) (by simp) (by intro x hx; simp only [List.mem_cons, List.not_mem_nil, or_false] at hx; rcases hx with rfl|rfl|rfl|rfl <;> first | exact tv_b _ | omega) (by show tv x3 ≠ 0; exact z), walkA (by kernel_rfl : tget aeF 12 = some Tryd.f12) (h.trans (cnd_neg z))⟩

theorem c12_5 (x0 x1 x2 x3 x4 : Int) (c nl : Bool) : ∃ a, polyB a = true ∧ PureOK Tryd.prog 12 [.sl [iD x0, iD x1, iD x2, iD x3, iD x4] 5 1 c nl] (ls a false false) := by
  have h : pureE aeC evA 30 12 Tryd.f12 [.sl [iD x0, iD x1, iD x2, iD x3, iD x4] 5 1 c nl] = (bif decide (tv x4 = 0) then some (ls [tv x0, tv x1, tv x2, tv x3, tv x4, 1] false false) else some (ls [tv x0, tv x1, tv x2, tv x3, tv x4] false false)) := by kernel_rfl
  by_cases z : tv x4 = 0
  · exact ⟨[tv x0, tv x1, tv x2, tv x3, tv x4, 1], polyB_mk (by simp) (by simp) (by intro x hx; simp only [List.mem_cons, List.not_mem_nil, or_false] at hx; rcases hx with rfl|rfl|rfl|rfl|rfl|rfl <;> first | exact tv_b _ | omega) (by show (1 : Int) ≠ 0; decide), walkA (by kernel_rfl : tget aeF 12 = some Tryd.f12) (h.trans (cnd_pos z))⟩
  · exact ⟨[tv x0, tv x1, tv x2, tv x3, tv x4], polyB_mk (by simp) (by simp) (by intro x hx; simp only [List.mem_cons, List.not_mem_nil, or_false] at hx; rcases hx with rfl|rfl|rfl|rfl|rfl <;> first | exact tv_b _ | omega) (by show tv x4 ≠ 0; exact z), walkA (by kernel_rfl : tget aeF 12 = some Tryd.f12) (h.trans (cnd_neg z))⟩

theorem c12_6 (x0 x1 x2 x3 x4 x5 : Int) (R : List DV) (m : Nat) (hm : 6 ≤ m) (c nl : Bool) : ∃ a, polyB a = true ∧ PureOK Tryd.prog 12 [.sl (iD x0 :: iD x1 :: iD x2 :: iD x3 :: iD x4 :: iD x5 :: R) m 1 c nl] (ls a false false) := by
  have h : pureE aeC evA 30 12 Tryd.f12 [.sl (iD x0 :: iD x1 :: iD x2 :: iD x3 :: iD x4 :: iD x5 :: R) m 1 c nl] = (bif decide (0 < (m : Int)) then (bif inRange 0 m then (bif decide (1 < (m : Int)) then (bif inRange 1 m then (bif decide (2 < (m : Int)) then (bif inRange 2 m then (bif decide (3 < (m : Int)) then (bif inRange 3 m then (bif decide (4 < (m : Int)) then (bif inRange 4 m then (bif decide (5 < (m : Int)) then (bif inRange 5 m then (bif decide (6 < (m : Int)) then (bif decide (tv x5 = 0) then some (ls [tv x1, tv x2, tv x3, tv x4, tv x5, 1] false false) else some (ls [tv x0, tv x1, tv x2, tv x3, tv x4, tv x5] false false)) else (bif decide (tv x5 = 0) then some (ls [tv x1, tv x2, tv x3, tv x4, tv x5, 1] false false) else some (ls [tv x0, tv x1, tv x2, tv x3, tv x4, tv x5] false false))) else none) else (bif decide (tv x4 = 0) then some (ls [tv x0, tv x1, tv x2, tv x3, tv x4, 1] false false) else some (ls [tv x0, tv x1, tv x2, tv x3, tv x4] false false))) else none) else (bif decide (tv x3 = 0) then some (ls [tv x0, tv x1, tv x2, tv x3, 1] false false) else some (ls [tv x0, tv x1, tv x2, tv x3] false false))) else none) else (bif decide (tv x2 = 0) then some (ls [tv x0, tv x1, tv x2, 1] false false) else some (ls [tv x0, tv x1, tv x2] false false))) else none) else (bif decide (tv x1 = 0) then some (ls [tv x0, tv x1, 1] false false) else some (ls [tv x0, tv x1] false false))) else none) else (bif decide (tv x0 = 0) then some (ls [tv x0, 1] false false) else some (ls [tv x0] false false))) else none) else some (ls [1] false false)) := by kernel_rfl
  replace h := h.trans <| (cnd_pos (by omega)).trans <| (inR_at (j := 0) rfl (by omega)).trans <| (cnd_pos (by omega)).trans <| (inR_at (j := 1) rfl (by omega)).trans <| (cnd_pos (by omega)).trans <| (inR_at (j := 2) rfl (by omega)).trans <| (cnd_pos (by omega)).trans <| (inR_at (j := 3) rfl (by omega)).trans <| (cnd_pos (by omega)).trans <| (inR_at (j := 4) rfl (by omega)).trans <| (cnd_pos (by omega)).trans <| (inR_at (j := 5) rfl (by omega)).trans <| cond_same
  by_cases z : tv x5 = 0
  · exact ⟨[tv x1, tv x2, tv x3, tv x4, tv x5, 1], polyB_mk (by simp) (by simp) (by intro x hx; simp only [List.mem_cons, List.not_mem_nil, or_false] at hx; rcases hx with rfl|rfl|rfl|rfl|rfl|rfl <;> first | exact tv_b _ | omega) (by show (1 : Int) ≠ 0; decide), walkA (by kernel_rfl : tget aeF 12 = some Tryd.f12) (h.trans (cnd_pos z))⟩
  · exact ⟨[tv x0, tv x1, tv x2, tv x3, tv x4, tv x5], polyB_mk (by simp) (by simp) (by intro x hx; simp only [List.mem_cons, List.not_mem_nil, or_false] at hx; rcases hx with rfl|rfl|rfl|rfl|rfl|rfl <;> first | exact tv_b _ | omega) (by show tv x5 ≠ 0; exact z), walkA (by kernel_rfl : tget aeF 12 = some Tryd.f12) (h.trans (cnd_neg z))⟩

/-- A polynomial is made of any numbers. -/
theorem c12 : ∀ (l : List Int) (c nl : Bool), ∃ a, polyB a = true ∧ PureOK Tryd.prog 12 [ls l c nl] (ls a false false)
  | [], c, nl => c12_0  c nl
  | [x0], c, nl => c12_1 x0 c nl
  | [x0, x1], c, nl => c12_2 x0 x1 c nl
  | [x0, x1, x2], c, nl => c12_3 x0 x1 x2 c nl
  | [x0, x1, x2, x3], c, nl => c12_4 x0 x1 x2 x3 c nl
  | [x0, x1, x2, x3, x4], c, nl => c12_5 x0 x1 x2 x3 x4 c nl
  | x0 :: x1 :: x2 :: x3 :: x4 :: x5 :: r, c, nl => c12_6 x0 x1 x2 x3 x4 x5 (ints r) (x0 :: x1 :: x2 :: x3 :: x4 :: x5 :: r).length (by simp) c nl

end Go.Proofs.YtiicbenhhdbnoaaDoor
