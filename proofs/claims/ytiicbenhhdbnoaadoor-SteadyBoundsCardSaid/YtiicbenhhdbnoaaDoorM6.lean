/- Part 6 of what the law stands on: the abstract machine over the model, and what the functions answer. No condition. -/
import Derived.Test.YtiicbenhhdbnoaaDoorM5
set_option linter.unusedSimpArgs false
set_option linter.unusedVariables false

/- Chapter 09: checks, discs, halves, turned ones. Written by wip/tools/genC3.py. -/
namespace Go.Proofs.YtiicbenhhdbnoaaDoor
open Go Go.AE
set_option maxRecDepth 100000

/-- All calls are walked. -/
noncomputable def evA : Ev := evW [] (okS noS) noS
theorem walkA {f : FuncId} {fn : Func} {ds : List DV} {d : DV} (h : tget aeF f = some fn) (e : pureE aeC evA 30 f fn ds = some d) : PureOK Tryd.prog f ds d := walk h e

/-! ### Checks -/
def wch (good bad : Option DV) : List Int → Option DV
  | [] => good
  | x :: r => bif decide (x < -30) then bad else bif decide (30 < x) then bad else wch good bad r
def withinB (l : List Int) : Bool := l.all fun x => decide (-30 ≤ x) && decide (x ≤ 30)
theorem wch_eq (g b : Option DV) : ∀ l : List Int, wch g b l = bif withinB l then g else b
  | [] => rfl
  | x :: r => by
    simp only [wch, withinB, List.all_cons]
    by_cases h1 : x < -30
    · rw [cnd_pos h1, decide_eq_false (p := -30 ≤ x) (by omega)]; rfl
    · rw [cnd_neg h1]
      by_cases h2 : 30 < x
      · rw [cnd_pos h2, decide_eq_false (p := x ≤ 30) (by omega), Bool.and_false]; rfl
      · rw [cnd_neg h2, decide_eq_true (p := -30 ≤ x) (by omega), decide_eq_true (p := x ≤ 30) (by omega), wch_eq g b r]; rfl
/-- Whether this is a polynomial. -/
def polyB (a : List Int) : Bool := decide (1 ≤ a.length) && (decide (a.length ≤ 6) && (withinB a && !decide (lastI a = 0)))
theorem c62_0 (c nl : Bool) : PureOK Tryd.prog 62 [ls [] c nl] (bD (withinB [])) := by
  have h : pureE aeC evA 30 62 Tryd.f62 [.sl [] 0 1 c nl] = wch (some (bD true)) (some (bD false)) [] := by kernel_rfl
  refine walkA (by kernel_rfl : tget aeF 62 = some Tryd.f62) (h.trans ((wch_eq _ _ _).trans ?_))
  cases withinB [] <;> rfl
theorem c62_1 (x0 : Int) (c nl : Bool) : PureOK Tryd.prog 62 [ls [x0] c nl] (bD (withinB [x0])) := by
  have h : pureE aeC evA 30 62 Tryd.f62 [.sl [iD x0] 1 1 c nl] = wch (some (bD true)) (some (bD false)) [x0] := by kernel_rfl
  refine walkA (by kernel_rfl : tget aeF 62 = some Tryd.f62) (h.trans ((wch_eq _ _ _).trans ?_))
  cases withinB [x0] <;> rfl
theorem c62_2 (x0 x1 : Int) (c nl : Bool) : PureOK Tryd.prog 62 [ls [x0, x1] c nl] (bD (withinB [x0, x1])) := by
  have h : pureE aeC evA 30 62 Tryd.f62 [.sl [iD x0, iD x1] 2 1 c nl] = wch (some (bD true)) (some (bD false)) [x0, x1] := by kernel_rfl
  refine walkA (by kernel_rfl : tget aeF 62 = some Tryd.f62) (h.trans ((wch_eq _ _ _).trans ?_))
  cases withinB [x0, x1] <;> rfl
theorem c62_3 (x0 x1 x2 : Int) (c nl : Bool) : PureOK Tryd.prog 62 [ls [x0, x1, x2] c nl] (bD (withinB [x0, x1, x2])) := by
  have h : pureE aeC evA 30 62 Tryd.f62 [.sl [iD x0, iD x1, iD x2] 3 1 c nl] = wch (some (bD true)) (some (bD false)) [x0, x1, x2] := by kernel_rfl
  refine walkA (by kernel_rfl : tget aeF 62 = some Tryd.f62) (h.trans ((wch_eq _ _ _).trans ?_))
  cases withinB [x0, x1, x2] <;> rfl
theorem c62_4 (x0 x1 x2 x3 : Int) (c nl : Bool) : PureOK Tryd.prog 62 [ls [x0, x1, x2, x3] c nl] (bD (withinB [x0, x1, x2, x3])) := by
  have h : pureE aeC evA 30 62 Tryd.f62 [.sl [iD x0, iD x1, iD x2, iD x3] 4 1 c nl] = wch (some (bD true)) (some (bD false)) [x0, x1, x2, x3] := by kernel_rfl
  refine walkA (by kernel_rfl : tget aeF 62 = some Tryd.f62) (h.trans ((wch_eq _ _ _).trans ?_))
  cases withinB [x0, x1, x2, x3] <;> rfl
theorem c62_5 (x0 x1 x2 x3 x4 : Int) (c nl : Bool) : PureOK Tryd.prog 62 [ls [x0, x1, x2, x3, x4] c nl] (bD (withinB [x0, x1, x2, x3, x4])) := by
  have h : pureE aeC evA 30 62 Tryd.f62 [.sl [iD x0, iD x1, iD x2, iD x3, iD x4] 5 1 c nl] = wch (some (bD true)) (some (bD false)) [x0, x1, x2, x3, x4] := by kernel_rfl
  refine walkA (by kernel_rfl : tget aeF 62 = some Tryd.f62) (h.trans ((wch_eq _ _ _).trans ?_))
  cases withinB [x0, x1, x2, x3, x4] <;> rfl
theorem c62_6 (x0 x1 x2 x3 x4 x5 : Int) (c nl : Bool) : PureOK Tryd.prog 62 [ls [x0, x1, x2, x3, x4, x5] c nl] (bD (withinB [x0, x1, x2, x3, x4, x5])) := by
  have h : pureE aeC evA 30 62 Tryd.f62 [.sl [iD x0, iD x1, iD x2, iD x3, iD x4, iD x5] 6 1 c nl] = wch (some (bD true)) (some (bD false)) [x0, x1, x2, x3, x4, x5] := by kernel_rfl
  refine walkA (by kernel_rfl : tget aeF 62 = some Tryd.f62) (h.trans ((wch_eq _ _ _).trans ?_))
  cases withinB [x0, x1, x2, x3, x4, x5] <;> rfl
theorem c62_7 (x0 x1 x2 x3 x4 x5 x6 : Int) (c nl : Bool) : PureOK Tryd.prog 62 [ls [x0, x1, x2, x3, x4, x5, x6] c nl] (bD (withinB [x0, x1, x2, x3, x4, x5, x6])) := by
  have h : pureE aeC evA 30 62 Tryd.f62 [.sl [iD x0, iD x1, iD x2, iD x3, iD x4, iD x5, iD x6] 7 1 c nl] = wch (some (bD true)) (some (bD false)) [x0, x1, x2, x3, x4, x5, x6] := by kernel_rfl
  refine walkA (by kernel_rfl : tget aeF 62 = some Tryd.f62) (h.trans ((wch_eq _ _ _).trans ?_))
  cases withinB [x0, x1, x2, x3, x4, x5, x6] <;> rfl
theorem c62_8 (x0 x1 x2 x3 x4 x5 x6 x7 : Int) (c nl : Bool) : PureOK Tryd.prog 62 [ls [x0, x1, x2, x3, x4, x5, x6, x7] c nl] (bD (withinB [x0, x1, x2, x3, x4, x5, x6, x7])) := by
  have h : pureE aeC evA 30 62 Tryd.f62 [.sl [iD x0, iD x1, iD x2, iD x3, iD x4, iD x5, iD x6, iD x7] 8 1 c nl] = wch (some (bD true)) (some (bD false)) [x0, x1, x2, x3, x4, x5, x6, x7] := by kernel_rfl
  refine walkA (by kernel_rfl : tget aeF 62 = some Tryd.f62) (h.trans ((wch_eq _ _ _).trans ?_))
  cases withinB [x0, x1, x2, x3, x4, x5, x6, x7] <;> rfl
theorem c62 : ∀ (a : List Int) (c nl : Bool), a.length ≤ 8 → PureOK Tryd.prog 62 [ls a c nl] (bD (withinB a))
  | [], c, nl, _ => c62_0  c nl
  | [x0], c, nl, _ => c62_1 x0 c nl
  | [x0, x1], c, nl, _ => c62_2 x0 x1 c nl
  | [x0, x1, x2], c, nl, _ => c62_3 x0 x1 x2 c nl
  | [x0, x1, x2, x3], c, nl, _ => c62_4 x0 x1 x2 x3 c nl
  | [x0, x1, x2, x3, x4], c, nl, _ => c62_5 x0 x1 x2 x3 x4 c nl
  | [x0, x1, x2, x3, x4, x5], c, nl, _ => c62_6 x0 x1 x2 x3 x4 x5 c nl
  | [x0, x1, x2, x3, x4, x5, x6], c, nl, _ => c62_7 x0 x1 x2 x3 x4 x5 x6 c nl
  | [x0, x1, x2, x3, x4, x5, x6, x7], c, nl, _ => c62_8 x0 x1 x2 x3 x4 x5 x6 x7 c nl
  | _ :: _ :: _ :: _ :: _ :: _ :: _ :: _ :: _ :: _, _, _, h => absurd h (by simp)

theorem c59_0 (c nl : Bool) : PureOK Tryd.prog 59 [ls [] c nl] (bD (withinB [])) := by
  have h : pureE aeC evA 30 59 Tryd.f59 [.sl [] 0 1 c nl] = wch (some (bD true)) (some (bD false)) [] := by kernel_rfl
  refine walkA (by kernel_rfl : tget aeF 59 = some Tryd.f59) (h.trans ((wch_eq _ _ _).trans ?_))
  cases withinB [] <;> rfl
theorem c59_1 (x0 : Int) (c nl : Bool) : PureOK Tryd.prog 59 [ls [x0] c nl] (bD (withinB [x0])) := by
  have h : pureE aeC evA 30 59 Tryd.f59 [.sl [iD x0] 1 1 c nl] = wch (some (bD true)) (some (bD false)) [x0] := by kernel_rfl
  refine walkA (by kernel_rfl : tget aeF 59 = some Tryd.f59) (h.trans ((wch_eq _ _ _).trans ?_))
  cases withinB [x0] <;> rfl
theorem c59_2 (x0 x1 : Int) (c nl : Bool) : PureOK Tryd.prog 59 [ls [x0, x1] c nl] (bD (withinB [x0, x1])) := by
  have h : pureE aeC evA 30 59 Tryd.f59 [.sl [iD x0, iD x1] 2 1 c nl] = wch (some (bD true)) (some (bD false)) [x0, x1] := by kernel_rfl
  refine walkA (by kernel_rfl : tget aeF 59 = some Tryd.f59) (h.trans ((wch_eq _ _ _).trans ?_))
  cases withinB [x0, x1] <;> rfl
theorem c59_3 (x0 x1 x2 : Int) (c nl : Bool) : PureOK Tryd.prog 59 [ls [x0, x1, x2] c nl] (bD (withinB [x0, x1, x2])) := by
  have h : pureE aeC evA 30 59 Tryd.f59 [.sl [iD x0, iD x1, iD x2] 3 1 c nl] = wch (some (bD true)) (some (bD false)) [x0, x1, x2] := by kernel_rfl
  refine walkA (by kernel_rfl : tget aeF 59 = some Tryd.f59) (h.trans ((wch_eq _ _ _).trans ?_))
  cases withinB [x0, x1, x2] <;> rfl
theorem c59_4 (x0 x1 x2 x3 : Int) (c nl : Bool) : PureOK Tryd.prog 59 [ls [x0, x1, x2, x3] c nl] (bD (withinB [x0, x1, x2, x3])) := by
  have h : pureE aeC evA 30 59 Tryd.f59 [.sl [iD x0, iD x1, iD x2, iD x3] 4 1 c nl] = wch (some (bD true)) (some (bD false)) [x0, x1, x2, x3] := by kernel_rfl
  refine walkA (by kernel_rfl : tget aeF 59 = some Tryd.f59) (h.trans ((wch_eq _ _ _).trans ?_))
  cases withinB [x0, x1, x2, x3] <;> rfl
theorem c59_5 (x0 x1 x2 x3 x4 : Int) (c nl : Bool) : PureOK Tryd.prog 59 [ls [x0, x1, x2, x3, x4] c nl] (bD (withinB [x0, x1, x2, x3, x4])) := by
  have h : pureE aeC evA 30 59 Tryd.f59 [.sl [iD x0, iD x1, iD x2, iD x3, iD x4] 5 1 c nl] = wch (some (bD true)) (some (bD false)) [x0, x1, x2, x3, x4] := by kernel_rfl
  refine walkA (by kernel_rfl : tget aeF 59 = some Tryd.f59) (h.trans ((wch_eq _ _ _).trans ?_))
  cases withinB [x0, x1, x2, x3, x4] <;> rfl
theorem c59_6 (x0 x1 x2 x3 x4 x5 : Int) (c nl : Bool) : PureOK Tryd.prog 59 [ls [x0, x1, x2, x3, x4, x5] c nl] (bD (withinB [x0, x1, x2, x3, x4, x5])) := by
  have h : pureE aeC evA 30 59 Tryd.f59 [.sl [iD x0, iD x1, iD x2, iD x3, iD x4, iD x5] 6 1 c nl] = wch (some (bD true)) (some (bD false)) [x0, x1, x2, x3, x4, x5] := by kernel_rfl
  refine walkA (by kernel_rfl : tget aeF 59 = some Tryd.f59) (h.trans ((wch_eq _ _ _).trans ?_))
  cases withinB [x0, x1, x2, x3, x4, x5] <;> rfl
theorem c59_7 (x0 x1 x2 x3 x4 x5 x6 : Int) (c nl : Bool) : PureOK Tryd.prog 59 [ls [x0, x1, x2, x3, x4, x5, x6] c nl] (bD (withinB [x0, x1, x2, x3, x4, x5, x6])) := by
  have h : pureE aeC evA 30 59 Tryd.f59 [.sl [iD x0, iD x1, iD x2, iD x3, iD x4, iD x5, iD x6] 7 1 c nl] = wch (some (bD true)) (some (bD false)) [x0, x1, x2, x3, x4, x5, x6] := by kernel_rfl
  refine walkA (by kernel_rfl : tget aeF 59 = some Tryd.f59) (h.trans ((wch_eq _ _ _).trans ?_))
  cases withinB [x0, x1, x2, x3, x4, x5, x6] <;> rfl
theorem c59_8 (x0 x1 x2 x3 x4 x5 x6 x7 : Int) (c nl : Bool) : PureOK Tryd.prog 59 [ls [x0, x1, x2, x3, x4, x5, x6, x7] c nl] (bD (withinB [x0, x1, x2, x3, x4, x5, x6, x7])) := by
  have h : pureE aeC evA 30 59 Tryd.f59 [.sl [iD x0, iD x1, iD x2, iD x3, iD x4, iD x5, iD x6, iD x7] 8 1 c nl] = wch (some (bD true)) (some (bD false)) [x0, x1, x2, x3, x4, x5, x6, x7] := by kernel_rfl
  refine walkA (by kernel_rfl : tget aeF 59 = some Tryd.f59) (h.trans ((wch_eq _ _ _).trans ?_))
  cases withinB [x0, x1, x2, x3, x4, x5, x6, x7] <;> rfl
theorem c59 : ∀ (a : List Int) (c nl : Bool), a.length ≤ 8 → PureOK Tryd.prog 59 [ls a c nl] (bD (withinB a))
  | [], c, nl, _ => c59_0  c nl
  | [x0], c, nl, _ => c59_1 x0 c nl
  | [x0, x1], c, nl, _ => c59_2 x0 x1 c nl
  | [x0, x1, x2], c, nl, _ => c59_3 x0 x1 x2 c nl
  | [x0, x1, x2, x3], c, nl, _ => c59_4 x0 x1 x2 x3 c nl
  | [x0, x1, x2, x3, x4], c, nl, _ => c59_5 x0 x1 x2 x3 x4 c nl
  | [x0, x1, x2, x3, x4, x5], c, nl, _ => c59_6 x0 x1 x2 x3 x4 x5 c nl
  | [x0, x1, x2, x3, x4, x5, x6], c, nl, _ => c59_7 x0 x1 x2 x3 x4 x5 x6 c nl
  | [x0, x1, x2, x3, x4, x5, x6, x7], c, nl, _ => c59_8 x0 x1 x2 x3 x4 x5 x6 x7 c nl
  | _ :: _ :: _ :: _ :: _ :: _ :: _ :: _ :: _ :: _, _, _, h => absurd h (by simp)

/-! ### Discs -/
end Go.Proofs.YtiicbenhhdbnoaaDoor

/- Chapter 09: lists compared; halves, turned ones; polynomials that are made of any numbers. Written by wip/tools/genC4.py. -/
namespace Go.Proofs.YtiicbenhhdbnoaaDoor
open Go Go.AE
set_option maxRecDepth 100000

noncomputable def s26 (a b : List Int) (c nl c2 nl2 : Bool) (i : Int) : St := ⟨[(0, .d (.sl (ints a) a.length 1 c nl)), (1, .d (.sl (ints b) b.length 1 c2 nl2)), (5, .d (iD i))], [], []⟩
theorem r26h (a b : List Int) (c nl c2 nl2 : Bool) : startS aeC Ev.nil 26 0 Tryd.f26 none ⟨envOf 0 [.d (.sl (ints a) a.length 1 c nl), .d (.sl (ints b) b.length 1 c2 nl2)], [], []⟩ (heldD aeC 26 0) =
  bif !decide ((↑(List.length a) : Int) = (↑(List.length b) : Int)) then
    none
  else
    some (0, ⟨[(0, .d (DV.sl (ints a) (List.length a) 1 c nl)), (1, .d (DV.sl (ints b) (List.length b) 1 c2 nl2)), (5, .d (iD 0))], [], []⟩) := by kernel_rfl

theorem r26d (a b : List Int) (c nl c2 nl2 : Bool) : startS aeC Ev.nil 26 0 Tryd.f26 none ⟨envOf 0 [.d (.sl (ints a) a.length 1 c nl), .d (.sl (ints b) b.length 1 c2 nl2)], [], []⟩ (doneE aeC Tryd.f26 0 fun v h => freezeV h 4 v) =
  bif !decide ((↑(List.length a) : Int) = (↑(List.length b) : Int)) then
    some (bD false)
  else
    none := by kernel_rfl

theorem r26_0 (a b : List Int) (c nl c2 nl2 : Bool) (i : Int) : startS aeC Ev.nil 26 0 Tryd.f26 (some 0) (s26 a b c nl c2 nl2 i) (roundD aeC 26 0 0) =
  bif decide (i < (↑(List.length a) : Int)) then
    bif inRange i (List.length a) then
      getI (nth (ints a) (Int.toNat i * 1)) fun x0 =>
      bif inRange i (List.length b) then
        getI (nth (ints b) (Int.toNat i * 1)) fun x1 =>
        bif !decide (x0 = x1) then
          some (Ex.ret, ⟨[(4, .d (bD false))], [], []⟩)
        else
          some (Ex.norm, ⟨[(0, .d (DV.sl (ints a) (List.length a) 1 c nl)), (1, .d (DV.sl (ints b) (List.length b) 1 c2 nl2)), (5, .d (iD (IntKind.wrap IntKind.i64 (i + 1))))], [], []⟩)
      else
        none
    else
      none
  else
    some (Ex.exit 0, ⟨[], [], []⟩) := by kernel_rfl

theorem r26_x (z : Bool) : nextS aeC Ev.nil 26 0 Tryd.f26 none 0 (.exit 0) ⟨[], [], []⟩ (doneE aeC Tryd.f26 0 fun v h => freezeV h 4 v) =
  some (bD true) := by kernel_rfl

theorem r26_z (b : Bool) : nextS aeC Ev.nil 26 0 Tryd.f26 none 0 .ret ⟨[(4, .d (bD b))], [], []⟩ (doneE aeC Tryd.f26 0 fun v h => freezeV h 4 v) =
  some (bD b) := by kernel_rfl

theorem k26 : OkSeg Tryd.f26 none [0] := ⟨by kernel_rfl, by kernel_rfl, by decide⟩
theorem k26_0 : OkSeg Tryd.f26 (some 0) [] := ⟨by kernel_rfl, by kernel_rfl, by decide⟩
theorem l26 (a b : List Int) (c nl c2 nl2 : Bool) (hl : a.length = b.length) (hb : a.length < 1000) : ∀ (r s : List Int) (i : Nat), i ≤ a.length → a.drop i = r → b.drop i = s →
    LoopAt aeC Ev.nil 26 0 Tryd.f26 0 (s26 a b c nl c2 nl2 i) (if r = s then .exit 0 else .ret) (if r = s then ⟨[], [], []⟩ else ⟨[(4, .d (bD false))], [], []⟩)
  | [], s, i, hi, hr, hs => by
    have q1 := drop_nil_o hr
    have : s = [] := by rw [← hs]; exact List.drop_eq_nil_of_le (by omega)
    subst this
    refine .out k26_0 (by simp) ((r26_0 ..).trans ?_)
    rw [cnd_neg (by omega)]
    simp
  | x :: r, [], i, hi, hr, hs => by
    have q1 := (drop_cons_o (d := 0) hr).1
    have := drop_nil_o hs
    omega
  | x :: r, y :: s, i, hi, hr, hs => by
    obtain ⟨q1, q2, q3⟩ := drop_cons_o (d := 0) hr
    obtain ⟨p1, p2, p3⟩ := drop_cons_o (d := 0) hs
    have res := r26_0 a b c nl c2 nl2 i
    by_cases e : x = y
    · subst e
      revert res
      simp (disch := omega) only [cnd_pos, cnd_neg, inR_pos, ble_pos, blt_pos, beq_pos, cond_and, cond_or, Bool.cond_not, cond_true, cond_false, Bool.and_true, Bool.true_and, getI_some, getB_some, nth_ints_o, nth_bools_o, wrap64_o, len_ints, len_bools, lenOf_1, Int.toNat_natCast, Nat.mul_one, Nat.zero_add, setNth_bools_o, setNth_ints_o, len_set_i, len_set_b, Option.bind_some, List.length_append, List.length_cons, List.length_nil, unI_ints, unB_bools, ints_app1, bools_app1, nth_pr1, nth_pr2, len_prs, abs_if, Nat.add_zero, cond_same, q2, p2, Bool.not_true, decide_true]
      intro res
      have ih := l26 a b c nl c2 nl2 hl hb r s (i + 1) q1 q3 p3
      have : (x :: r = x :: s) ↔ r = s := by simp
      simp only [this]
      exact .next k26_0 res ih
    · have e2 : ¬ (x :: r = y :: s) := by simp [e]
      rw [if_neg e2, if_neg e2]
      revert res
      simp (disch := omega) only [cnd_pos, cnd_neg, inR_pos, ble_pos, blt_pos, beq_pos, cond_and, cond_or, Bool.cond_not, cond_true, cond_false, Bool.and_true, Bool.true_and, getI_some, getB_some, nth_ints_o, nth_bools_o, wrap64_o, len_ints, len_bools, lenOf_1, Int.toNat_natCast, Nat.mul_one, Nat.zero_add, setNth_bools_o, setNth_ints_o, len_set_i, len_set_b, Option.bind_some, List.length_append, List.length_cons, List.length_nil, unI_ints, unB_bools, ints_app1, bools_app1, nth_pr1, nth_pr2, len_prs, abs_if, Nat.add_zero, cond_same, q2, p2]
      intro res
      exact .out k26_0 (by simp) res

theorem c26 (a b : List Int) (c nl c2 nl2 : Bool) (hb : a.length < 1000) : PureOK Tryd.prog 26 [ls a c nl, ls b c2 nl2] (bD (decide (a = b))) := by
  refine ae_pure EvOK.nil (fn := Tryd.f26) k26 (by kernel_rfl) (by kernel_rfl) ?_
  by_cases hl : a.length = b.length
  · have h0 := r26h a b c nl c2 nl2
    rw [decide_eq_true (p := ((a.length : Int) = (b.length : Int))) (by omega)] at h0
    refine Eq.trans (startF_seg k26 h0 (l26 a b c nl c2 nl2 hl hb a b 0 (by omega) rfl rfl)) ?_
    by_cases e : a = b
    · rw [if_pos e, if_pos e, decide_eq_true e]
      exact nextF_done k26 done_plain (r26_x false)
    · rw [if_neg e, if_neg e, decide_eq_false e]
      exact nextF_done k26 done_plain (r26_z false)
  · refine startF_done k26 done_plain ((r26d ..).trans ?_)
    rw [decide_eq_false (p := ((a.length : Int) = (b.length : Int))) (by omega), decide_eq_false (p := a = b) (by rintro rfl; exact hl rfl)]
    rfl

end Go.Proofs.YtiicbenhhdbnoaaDoor

/- Chapter 09: halves and turned ones. Written by wip/tools/genC4.py. -/
namespace Go.Proofs.YtiicbenhhdbnoaaDoor
open Go Go.AE
set_option maxRecDepth 100000
/-! ### Halves -/
end Go.Proofs.YtiicbenhhdbnoaaDoor

/- Chapter 09: polynomials that are made of any numbers. Written by wip/tools/genC4.py. -/
namespace Go.Proofs.YtiicbenhhdbnoaaDoor
open Go Go.AE
set_option maxRecDepth 100000
/-! ### Made of any numbers -/
def tv (x : Int) : Int := IntKind.wrap .i64 (IntKind.wrap .i64 (Int.tmod (IntKind.wrap .u64 x) 61) - 30)
theorem tv_b (x : Int) : -30 ≤ tv x ∧ tv x ≤ 30 := by
  unfold tv
  have h0 : 0 ≤ IntKind.wrap .u64 x := by rw [wrapU_eq]; omega
  have h1 : Int.tmod (IntKind.wrap .u64 x) 61 = (IntKind.wrap .u64 x) % 61 := Int.tmod_eq_emod_of_nonneg h0
  rw [h1, wrap64_o (n := IntKind.wrap .u64 x % 61) (by omega) (by omega), wrap64_o (by omega) (by omega)]
  omega
theorem polyB_mk {a : List Int} (h1 : 1 ≤ a.length) (h6 : a.length ≤ 6) (hw : ∀ x ∈ a, -30 ≤ x ∧ x ≤ 30) (hl : lastI a ≠ 0) : polyB a = true := by
  unfold polyB withinB
  simp only [decide_eq_true h1, decide_eq_true h6, decide_eq_false hl, Bool.true_and, Bool.not_false, Bool.and_true, List.all_eq_true, Bool.and_eq_true, decide_eq_true_eq]
  exact hw
theorem polyB_at {a : List Int} (h : polyB a = true) : 1 ≤ a.length ∧ a.length ≤ 6 ∧ (∀ x ∈ a, -30 ≤ x ∧ x ≤ 30) ∧ lastI a ≠ 0 := by
  unfold polyB withinB at h
  simp only [Bool.and_eq_true, decide_eq_true_eq, List.all_eq_true, Bool.not_eq_true', decide_eq_false_iff_not] at h
  exact ⟨h.1, h.2.1, h.2.2.1, h.2.2.2⟩

end Go.Proofs.YtiicbenhhdbnoaaDoor
