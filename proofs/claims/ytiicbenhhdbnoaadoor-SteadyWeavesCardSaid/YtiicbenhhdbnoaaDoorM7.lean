/- Part 7 of what the law stands on: the abstract machine over the model, and what the functions answer. No condition. -/
import Derived.Test.YtiicbenhhdbnoaaDoorM6
set_option linter.unusedSimpArgs false
set_option linter.unusedVariables false

/- Chapter 09: two halves woven. Written by wip/tools/genW1.py. -/
namespace Go.Proofs.YtiicbenhhdbnoaaDoor
open Go Go.AE
set_option maxRecDepth 100000
def shB (B : Nat → List DV → Bool) : Nat → List DV → DV := fun f ds => bD (B f ds)
noncomputable def evB (ok : Nat → List DV → Bool) (B : Nat → List DV → Bool) : Ev := evW [61, 62, 29, 59] ok (shB B)
def unI : DV → Int
  | .int _ n => n
  | _ => 0
def unL : DV → List Int
  | .sl l _ _ _ _ => l.map unI
  | _ => []
theorem unL_ints (l : List Int) (n : Nat) (c nl : Bool) : unL (.sl (ints l) n 1 c nl) = l := by
  show (ints l).map unI = l
  induction l with
  | nil => rfl
  | cons x r ih => exact congrArg (x :: ·) ih
/-- What is told of the lists. -/
def tB (f : Nat) (ds : List DV) : Bool := match ds with
  | [d] => cond (Nat.beq f 62 || Nat.beq f 59) (withinB (unL d)) (steadyW (unL d))
  | _ => false
theorem ok62 {a : List Int} {c nl : Bool} (h : a.length ≤ 8) : okS (shB tB) 62 [ls a c nl] = true := okS_is (by show PureOK Tryd.prog 62 [ls a c nl] (bD (withinB (unL (ls a c nl)))); rw [unL_ints]; exact c62 a c nl h)
theorem ok59 {a : List Int} {c nl : Bool} (h : a.length ≤ 8) : okS (shB tB) 59 [ls a c nl] = true := okS_is (by show PureOK Tryd.prog 59 [ls a c nl] (bD (withinB (unL (ls a c nl)))); rw [unL_ints]; exact c59 a c nl h)
theorem ok61 {a : List Int} {c nl : Bool} (h1 : 1 ≤ a.length) (h : a.length ≤ 6) : okS (shB tB) 61 [ls a c nl] = true := okS_is (by show PureOK Tryd.prog 61 [ls a c nl] (bD (steadyW (unL (ls a c nl)))); rw [unL_ints]; exact c61 a c nl h1 h)
theorem ok29 {a : List Int} {c nl : Bool} (h1 : 1 ≤ a.length) (h : a.length ≤ 6) : okS (shB tB) 29 [ls a c nl] = true := okS_is (by show PureOK Tryd.prog 29 [ls a c nl] (bD (steadyW (unL (ls a c nl)))); rw [unL_ints]; exact c29 a c nl h1 h)
theorem tB62 (a : List Int) (c nl : Bool) : tB 62 [ls a c nl] = withinB a := by show withinB (unL _) = _; rw [unL_ints]
theorem tB59 (a : List Int) (c nl : Bool) : tB 59 [ls a c nl] = withinB a := by show withinB (unL _) = _; rw [unL_ints]
theorem tB61 (a : List Int) (c nl : Bool) : tB 61 [ls a c nl] = steadyW a := by show steadyW (unL _) = _; rw [unL_ints]
theorem tB29 (a : List Int) (c nl : Bool) : tB 29 [ls a c nl] = steadyW a := by show steadyW (unL _) = _; rw [unL_ints]

/-- The coefficients of two halves, from the last one on. -/
def six (x y : List Int) : List Int := [y.getD 2 0, x.getD 2 0, y.getD 1 0, x.getD 1 0, y.getD 0 0, x.getD 0 0]
/-- Whether what is woven is steady, with a last coefficient greater than 0. -/
noncomputable def wB : List Int → Bool
  | [] => false
  | x :: r => bif decide (x = 0) then wB r else bif decide (0 < x) then steadyW (x :: r).reverse else false
/-- The walk over them. -/
def wT (f : Nat) (ok B : Nat → List DV → Bool) (w : Bool → DV) : List Int → Option DV
  | [] => some (w false)
  | x :: r => bif decide (x = 0) then wT f ok B w r else bif decide (0 < x) then (bif ok f [ls (x :: r).reverse false false] then some (w (B f [ls (x :: r).reverse false false])) else none) else some (w false)
theorem wT_eq {f : Nat} (w : Bool → DV) (hok : ∀ a : List Int, 1 ≤ a.length → a.length ≤ 6 → okS (shB tB) f [ls a false false] = true ∧ tB f [ls a false false] = steadyW a) : ∀ r : List Int, r.length ≤ 6 → wT f (okS (shB tB)) tB w r = some (w (wB r))
  | [], _ => rfl
  | x :: r, h => by
    simp only [wT, wB]
    have ih := wT_eq w hok r (by simp at h; omega)
    have hk := hok (x :: r).reverse (by simp) (by simpa using h)
    rw [hk.1, hk.2]
    cases decide (x = 0) with
    | true => exact ih
    | false => cases decide (0 < x) <;> rfl

def halfB (l : List Int) : Bool := decide (l.length ≤ 3) && withinB l

theorem u37_0 (ok B : Nat → List DV → Bool) (c nl : Bool) : pureE aeC (evB ok B) 30 37 Tryd.f37 [.sl [] 0 1 c nl] = bif ok 59 [.sl [] 0 1 c nl] then some (bD (B 59 [.sl [] 0 1 c nl])) else none := by kernel_rfl
theorem c37_0 (c nl : Bool) : PureOK Tryd.prog 37 [ls [] c nl] (bD (halfB [])) := by
  refine walk (fs := [61, 62, 29, 59]) (shape := shB tB) (by kernel_rfl : tget aeF 37 = some Tryd.f37) ((u37_0 (okS (shB tB)) tB c nl ).trans ?_)
  refine (cond_is (ok59 (a := []) (by simp))).trans ?_
  show some (bD (tB 59 [ls [] c nl])) = _
  rw [tB59]
  rfl
theorem u37_1 (ok B : Nat → List DV → Bool) (c nl : Bool) (x0 : Int) : pureE aeC (evB ok B) 30 37 Tryd.f37 [.sl [iD x0] 1 1 c nl] = bif ok 59 [.sl [iD x0] 1 1 c nl] then some (bD (B 59 [.sl [iD x0] 1 1 c nl])) else none := by kernel_rfl
theorem c37_1 (x0 : Int) (c nl : Bool) : PureOK Tryd.prog 37 [ls [x0] c nl] (bD (halfB [x0])) := by
  refine walk (fs := [61, 62, 29, 59]) (shape := shB tB) (by kernel_rfl : tget aeF 37 = some Tryd.f37) ((u37_1 (okS (shB tB)) tB c nl x0).trans ?_)
  refine (cond_is (ok59 (a := [x0]) (by simp))).trans ?_
  show some (bD (tB 59 [ls [x0] c nl])) = _
  rw [tB59]
  rfl
theorem u37_2 (ok B : Nat → List DV → Bool) (c nl : Bool) (x0 x1 : Int) : pureE aeC (evB ok B) 30 37 Tryd.f37 [.sl [iD x0, iD x1] 2 1 c nl] = bif ok 59 [.sl [iD x0, iD x1] 2 1 c nl] then some (bD (B 59 [.sl [iD x0, iD x1] 2 1 c nl])) else none := by kernel_rfl
theorem c37_2 (x0 x1 : Int) (c nl : Bool) : PureOK Tryd.prog 37 [ls [x0, x1] c nl] (bD (halfB [x0, x1])) := by
  refine walk (fs := [61, 62, 29, 59]) (shape := shB tB) (by kernel_rfl : tget aeF 37 = some Tryd.f37) ((u37_2 (okS (shB tB)) tB c nl x0 x1).trans ?_)
  refine (cond_is (ok59 (a := [x0, x1]) (by simp))).trans ?_
  show some (bD (tB 59 [ls [x0, x1] c nl])) = _
  rw [tB59]
  rfl
theorem u37_3 (ok B : Nat → List DV → Bool) (c nl : Bool) (x0 x1 x2 : Int) : pureE aeC (evB ok B) 30 37 Tryd.f37 [.sl [iD x0, iD x1, iD x2] 3 1 c nl] = bif ok 59 [.sl [iD x0, iD x1, iD x2] 3 1 c nl] then some (bD (B 59 [.sl [iD x0, iD x1, iD x2] 3 1 c nl])) else none := by kernel_rfl
theorem c37_3 (x0 x1 x2 : Int) (c nl : Bool) : PureOK Tryd.prog 37 [ls [x0, x1, x2] c nl] (bD (halfB [x0, x1, x2])) := by
  refine walk (fs := [61, 62, 29, 59]) (shape := shB tB) (by kernel_rfl : tget aeF 37 = some Tryd.f37) ((u37_3 (okS (shB tB)) tB c nl x0 x1 x2).trans ?_)
  refine (cond_is (ok59 (a := [x0, x1, x2]) (by simp))).trans ?_
  show some (bD (tB 59 [ls [x0, x1, x2] c nl])) = _
  rw [tB59]
  rfl
theorem u37_4 (ok B : Nat → List DV → Bool) (c nl : Bool) (x0 x1 x2 x3 : Int) : pureE aeC (evB ok B) 30 37 Tryd.f37 [.sl [iD x0, iD x1, iD x2, iD x3] 4 1 c nl] = some (bD false) := by kernel_rfl
theorem c37_4 (x0 x1 x2 x3 : Int) (c nl : Bool) : PureOK Tryd.prog 37 [ls [x0, x1, x2, x3] c nl] (bD (halfB [x0, x1, x2, x3])) := by
  refine walk (fs := [61, 62, 29, 59]) (shape := shB tB) (by kernel_rfl : tget aeF 37 = some Tryd.f37) ((u37_4 (okS (shB tB)) tB c nl x0 x1 x2 x3).trans ?_)
  rfl
theorem u37_5 (ok B : Nat → List DV → Bool) (c nl : Bool) (x0 x1 x2 x3 x4 : Int) : pureE aeC (evB ok B) 30 37 Tryd.f37 [.sl [iD x0, iD x1, iD x2, iD x3, iD x4] 5 1 c nl] = some (bD false) := by kernel_rfl
theorem c37_5 (x0 x1 x2 x3 x4 : Int) (c nl : Bool) : PureOK Tryd.prog 37 [ls [x0, x1, x2, x3, x4] c nl] (bD (halfB [x0, x1, x2, x3, x4])) := by
  refine walk (fs := [61, 62, 29, 59]) (shape := shB tB) (by kernel_rfl : tget aeF 37 = some Tryd.f37) ((u37_5 (okS (shB tB)) tB c nl x0 x1 x2 x3 x4).trans ?_)
  rfl
theorem c37 : ∀ (a : List Int) (c nl : Bool), a.length ≤ 5 → PureOK Tryd.prog 37 [ls a c nl] (bD (halfB a))
  | [], c, nl, _ => c37_0  c nl
  | [x0], c, nl, _ => c37_1 x0 c nl
  | [x0, x1], c, nl, _ => c37_2 x0 x1 c nl
  | [x0, x1, x2], c, nl, _ => c37_3 x0 x1 x2 c nl
  | [x0, x1, x2, x3], c, nl, _ => c37_4 x0 x1 x2 x3 c nl
  | [x0, x1, x2, x3, x4], c, nl, _ => c37_5 x0 x1 x2 x3 x4 c nl
  | _ :: _ :: _ :: _ :: _ :: _ :: _, _, _, h => absurd h (by simp)
theorem u38_00 (ok B : Nat → List DV → Bool) (c nl c2 nl2 : Bool) : pureE aeC (evB ok B) 30 38 Tryd.f38 [.sl [] 0 1 c nl, .sl [] 0 1 c2 nl2] = wT 29 ok B (fun b => bD b) (six [] []) := by kernel_rfl
theorem u36_00 (ok B : Nat → List DV → Bool) (c nl c2 nl2 : Bool) : pureE aeC (evB ok B) 30 36 Tryd.f36 [.sl [] 0 1 c nl, .sl [] 0 1 c2 nl2] = bif ok 62 [.sl [] 0 1 c nl] then (bif !B 62 [.sl [] 0 1 c nl] then some (.tup [bD false, iD 1]) else (bif ok 62 [.sl [] 0 1 c2 nl2] then (bif !B 62 [.sl [] 0 1 c2 nl2] then some (.tup [bD false, iD 1]) else wT 61 ok B (fun b => .tup [bD b, iD 0]) (six [] [])) else none)) else none := by kernel_rfl
theorem u38_01 (ok B : Nat → List DV → Bool) (c nl c2 nl2 : Bool) (y0 : Int) : pureE aeC (evB ok B) 30 38 Tryd.f38 [.sl [] 0 1 c nl, .sl [iD y0] 1 1 c2 nl2] = wT 29 ok B (fun b => bD b) (six [] [y0]) := by kernel_rfl
theorem u36_01 (ok B : Nat → List DV → Bool) (c nl c2 nl2 : Bool) (y0 : Int) : pureE aeC (evB ok B) 30 36 Tryd.f36 [.sl [] 0 1 c nl, .sl [iD y0] 1 1 c2 nl2] = bif ok 62 [.sl [] 0 1 c nl] then (bif !B 62 [.sl [] 0 1 c nl] then some (.tup [bD false, iD 1]) else (bif ok 62 [.sl [iD y0] 1 1 c2 nl2] then (bif !B 62 [.sl [iD y0] 1 1 c2 nl2] then some (.tup [bD false, iD 1]) else wT 61 ok B (fun b => .tup [bD b, iD 0]) (six [] [y0])) else none)) else none := by kernel_rfl
theorem u38_02 (ok B : Nat → List DV → Bool) (c nl c2 nl2 : Bool) (y0 y1 : Int) : pureE aeC (evB ok B) 30 38 Tryd.f38 [.sl [] 0 1 c nl, .sl [iD y0, iD y1] 2 1 c2 nl2] = wT 29 ok B (fun b => bD b) (six [] [y0, y1]) := by kernel_rfl
theorem u36_02 (ok B : Nat → List DV → Bool) (c nl c2 nl2 : Bool) (y0 y1 : Int) : pureE aeC (evB ok B) 30 36 Tryd.f36 [.sl [] 0 1 c nl, .sl [iD y0, iD y1] 2 1 c2 nl2] = bif ok 62 [.sl [] 0 1 c nl] then (bif !B 62 [.sl [] 0 1 c nl] then some (.tup [bD false, iD 1]) else (bif ok 62 [.sl [iD y0, iD y1] 2 1 c2 nl2] then (bif !B 62 [.sl [iD y0, iD y1] 2 1 c2 nl2] then some (.tup [bD false, iD 1]) else wT 61 ok B (fun b => .tup [bD b, iD 0]) (six [] [y0, y1])) else none)) else none := by kernel_rfl
theorem u38_03 (ok B : Nat → List DV → Bool) (c nl c2 nl2 : Bool) (y0 y1 y2 : Int) : pureE aeC (evB ok B) 30 38 Tryd.f38 [.sl [] 0 1 c nl, .sl [iD y0, iD y1, iD y2] 3 1 c2 nl2] = wT 29 ok B (fun b => bD b) (six [] [y0, y1, y2]) := by kernel_rfl
theorem u36_03 (ok B : Nat → List DV → Bool) (c nl c2 nl2 : Bool) (y0 y1 y2 : Int) : pureE aeC (evB ok B) 30 36 Tryd.f36 [.sl [] 0 1 c nl, .sl [iD y0, iD y1, iD y2] 3 1 c2 nl2] = bif ok 62 [.sl [] 0 1 c nl] then (bif !B 62 [.sl [] 0 1 c nl] then some (.tup [bD false, iD 1]) else (bif ok 62 [.sl [iD y0, iD y1, iD y2] 3 1 c2 nl2] then (bif !B 62 [.sl [iD y0, iD y1, iD y2] 3 1 c2 nl2] then some (.tup [bD false, iD 1]) else wT 61 ok B (fun b => .tup [bD b, iD 0]) (six [] [y0, y1, y2])) else none)) else none := by kernel_rfl
theorem u38_10 (ok B : Nat → List DV → Bool) (c nl c2 nl2 : Bool) (x0 : Int) : pureE aeC (evB ok B) 30 38 Tryd.f38 [.sl [iD x0] 1 1 c nl, .sl [] 0 1 c2 nl2] = wT 29 ok B (fun b => bD b) (six [x0] []) := by kernel_rfl
theorem u36_10 (ok B : Nat → List DV → Bool) (c nl c2 nl2 : Bool) (x0 : Int) : pureE aeC (evB ok B) 30 36 Tryd.f36 [.sl [iD x0] 1 1 c nl, .sl [] 0 1 c2 nl2] = bif ok 62 [.sl [iD x0] 1 1 c nl] then (bif !B 62 [.sl [iD x0] 1 1 c nl] then some (.tup [bD false, iD 1]) else (bif ok 62 [.sl [] 0 1 c2 nl2] then (bif !B 62 [.sl [] 0 1 c2 nl2] then some (.tup [bD false, iD 1]) else wT 61 ok B (fun b => .tup [bD b, iD 0]) (six [x0] [])) else none)) else none := by kernel_rfl
theorem u38_11 (ok B : Nat → List DV → Bool) (c nl c2 nl2 : Bool) (x0 : Int) (y0 : Int) : pureE aeC (evB ok B) 30 38 Tryd.f38 [.sl [iD x0] 1 1 c nl, .sl [iD y0] 1 1 c2 nl2] = wT 29 ok B (fun b => bD b) (six [x0] [y0]) := by kernel_rfl
theorem u36_11 (ok B : Nat → List DV → Bool) (c nl c2 nl2 : Bool) (x0 : Int) (y0 : Int) : pureE aeC (evB ok B) 30 36 Tryd.f36 [.sl [iD x0] 1 1 c nl, .sl [iD y0] 1 1 c2 nl2] = bif ok 62 [.sl [iD x0] 1 1 c nl] then (bif !B 62 [.sl [iD x0] 1 1 c nl] then some (.tup [bD false, iD 1]) else (bif ok 62 [.sl [iD y0] 1 1 c2 nl2] then (bif !B 62 [.sl [iD y0] 1 1 c2 nl2] then some (.tup [bD false, iD 1]) else wT 61 ok B (fun b => .tup [bD b, iD 0]) (six [x0] [y0])) else none)) else none := by kernel_rfl
theorem u38_12 (ok B : Nat → List DV → Bool) (c nl c2 nl2 : Bool) (x0 : Int) (y0 y1 : Int) : pureE aeC (evB ok B) 30 38 Tryd.f38 [.sl [iD x0] 1 1 c nl, .sl [iD y0, iD y1] 2 1 c2 nl2] = wT 29 ok B (fun b => bD b) (six [x0] [y0, y1]) := by kernel_rfl
theorem u36_12 (ok B : Nat → List DV → Bool) (c nl c2 nl2 : Bool) (x0 : Int) (y0 y1 : Int) : pureE aeC (evB ok B) 30 36 Tryd.f36 [.sl [iD x0] 1 1 c nl, .sl [iD y0, iD y1] 2 1 c2 nl2] = bif ok 62 [.sl [iD x0] 1 1 c nl] then (bif !B 62 [.sl [iD x0] 1 1 c nl] then some (.tup [bD false, iD 1]) else (bif ok 62 [.sl [iD y0, iD y1] 2 1 c2 nl2] then (bif !B 62 [.sl [iD y0, iD y1] 2 1 c2 nl2] then some (.tup [bD false, iD 1]) else wT 61 ok B (fun b => .tup [bD b, iD 0]) (six [x0] [y0, y1])) else none)) else none := by kernel_rfl
theorem u38_13 (ok B : Nat → List DV → Bool) (c nl c2 nl2 : Bool) (x0 : Int) (y0 y1 y2 : Int) : pureE aeC (evB ok B) 30 38 Tryd.f38 [.sl [iD x0] 1 1 c nl, .sl [iD y0, iD y1, iD y2] 3 1 c2 nl2] = wT 29 ok B (fun b => bD b) (six [x0] [y0, y1, y2]) := by kernel_rfl
theorem u36_13 (ok B : Nat → List DV → Bool) (c nl c2 nl2 : Bool) (x0 : Int) (y0 y1 y2 : Int) : pureE aeC (evB ok B) 30 36 Tryd.f36 [.sl [iD x0] 1 1 c nl, .sl [iD y0, iD y1, iD y2] 3 1 c2 nl2] = bif ok 62 [.sl [iD x0] 1 1 c nl] then (bif !B 62 [.sl [iD x0] 1 1 c nl] then some (.tup [bD false, iD 1]) else (bif ok 62 [.sl [iD y0, iD y1, iD y2] 3 1 c2 nl2] then (bif !B 62 [.sl [iD y0, iD y1, iD y2] 3 1 c2 nl2] then some (.tup [bD false, iD 1]) else wT 61 ok B (fun b => .tup [bD b, iD 0]) (six [x0] [y0, y1, y2])) else none)) else none := by kernel_rfl
theorem u38_20 (ok B : Nat → List DV → Bool) (c nl c2 nl2 : Bool) (x0 x1 : Int) : pureE aeC (evB ok B) 30 38 Tryd.f38 [.sl [iD x0, iD x1] 2 1 c nl, .sl [] 0 1 c2 nl2] = wT 29 ok B (fun b => bD b) (six [x0, x1] []) := by kernel_rfl
theorem u36_20 (ok B : Nat → List DV → Bool) (c nl c2 nl2 : Bool) (x0 x1 : Int) : pureE aeC (evB ok B) 30 36 Tryd.f36 [.sl [iD x0, iD x1] 2 1 c nl, .sl [] 0 1 c2 nl2] = bif ok 62 [.sl [iD x0, iD x1] 2 1 c nl] then (bif !B 62 [.sl [iD x0, iD x1] 2 1 c nl] then some (.tup [bD false, iD 1]) else (bif ok 62 [.sl [] 0 1 c2 nl2] then (bif !B 62 [.sl [] 0 1 c2 nl2] then some (.tup [bD false, iD 1]) else wT 61 ok B (fun b => .tup [bD b, iD 0]) (six [x0, x1] [])) else none)) else none := by kernel_rfl
theorem u38_21 (ok B : Nat → List DV → Bool) (c nl c2 nl2 : Bool) (x0 x1 : Int) (y0 : Int) : pureE aeC (evB ok B) 30 38 Tryd.f38 [.sl [iD x0, iD x1] 2 1 c nl, .sl [iD y0] 1 1 c2 nl2] = wT 29 ok B (fun b => bD b) (six [x0, x1] [y0]) := by kernel_rfl
theorem u36_21 (ok B : Nat → List DV → Bool) (c nl c2 nl2 : Bool) (x0 x1 : Int) (y0 : Int) : pureE aeC (evB ok B) 30 36 Tryd.f36 [.sl [iD x0, iD x1] 2 1 c nl, .sl [iD y0] 1 1 c2 nl2] = bif ok 62 [.sl [iD x0, iD x1] 2 1 c nl] then (bif !B 62 [.sl [iD x0, iD x1] 2 1 c nl] then some (.tup [bD false, iD 1]) else (bif ok 62 [.sl [iD y0] 1 1 c2 nl2] then (bif !B 62 [.sl [iD y0] 1 1 c2 nl2] then some (.tup [bD false, iD 1]) else wT 61 ok B (fun b => .tup [bD b, iD 0]) (six [x0, x1] [y0])) else none)) else none := by kernel_rfl
theorem u38_22 (ok B : Nat → List DV → Bool) (c nl c2 nl2 : Bool) (x0 x1 : Int) (y0 y1 : Int) : pureE aeC (evB ok B) 30 38 Tryd.f38 [.sl [iD x0, iD x1] 2 1 c nl, .sl [iD y0, iD y1] 2 1 c2 nl2] = wT 29 ok B (fun b => bD b) (six [x0, x1] [y0, y1]) := by kernel_rfl
theorem u36_22 (ok B : Nat → List DV → Bool) (c nl c2 nl2 : Bool) (x0 x1 : Int) (y0 y1 : Int) : pureE aeC (evB ok B) 30 36 Tryd.f36 [.sl [iD x0, iD x1] 2 1 c nl, .sl [iD y0, iD y1] 2 1 c2 nl2] = bif ok 62 [.sl [iD x0, iD x1] 2 1 c nl] then (bif !B 62 [.sl [iD x0, iD x1] 2 1 c nl] then some (.tup [bD false, iD 1]) else (bif ok 62 [.sl [iD y0, iD y1] 2 1 c2 nl2] then (bif !B 62 [.sl [iD y0, iD y1] 2 1 c2 nl2] then some (.tup [bD false, iD 1]) else wT 61 ok B (fun b => .tup [bD b, iD 0]) (six [x0, x1] [y0, y1])) else none)) else none := by kernel_rfl
theorem u38_23 (ok B : Nat → List DV → Bool) (c nl c2 nl2 : Bool) (x0 x1 : Int) (y0 y1 y2 : Int) : pureE aeC (evB ok B) 30 38 Tryd.f38 [.sl [iD x0, iD x1] 2 1 c nl, .sl [iD y0, iD y1, iD y2] 3 1 c2 nl2] = wT 29 ok B (fun b => bD b) (six [x0, x1] [y0, y1, y2]) := by kernel_rfl
theorem u36_23 (ok B : Nat → List DV → Bool) (c nl c2 nl2 : Bool) (x0 x1 : Int) (y0 y1 y2 : Int) : pureE aeC (evB ok B) 30 36 Tryd.f36 [.sl [iD x0, iD x1] 2 1 c nl, .sl [iD y0, iD y1, iD y2] 3 1 c2 nl2] = bif ok 62 [.sl [iD x0, iD x1] 2 1 c nl] then (bif !B 62 [.sl [iD x0, iD x1] 2 1 c nl] then some (.tup [bD false, iD 1]) else (bif ok 62 [.sl [iD y0, iD y1, iD y2] 3 1 c2 nl2] then (bif !B 62 [.sl [iD y0, iD y1, iD y2] 3 1 c2 nl2] then some (.tup [bD false, iD 1]) else wT 61 ok B (fun b => .tup [bD b, iD 0]) (six [x0, x1] [y0, y1, y2])) else none)) else none := by kernel_rfl
theorem u38_30 (ok B : Nat → List DV → Bool) (c nl c2 nl2 : Bool) (x0 x1 x2 : Int) : pureE aeC (evB ok B) 30 38 Tryd.f38 [.sl [iD x0, iD x1, iD x2] 3 1 c nl, .sl [] 0 1 c2 nl2] = wT 29 ok B (fun b => bD b) (six [x0, x1, x2] []) := by kernel_rfl
theorem u36_30 (ok B : Nat → List DV → Bool) (c nl c2 nl2 : Bool) (x0 x1 x2 : Int) : pureE aeC (evB ok B) 30 36 Tryd.f36 [.sl [iD x0, iD x1, iD x2] 3 1 c nl, .sl [] 0 1 c2 nl2] = bif ok 62 [.sl [iD x0, iD x1, iD x2] 3 1 c nl] then (bif !B 62 [.sl [iD x0, iD x1, iD x2] 3 1 c nl] then some (.tup [bD false, iD 1]) else (bif ok 62 [.sl [] 0 1 c2 nl2] then (bif !B 62 [.sl [] 0 1 c2 nl2] then some (.tup [bD false, iD 1]) else wT 61 ok B (fun b => .tup [bD b, iD 0]) (six [x0, x1, x2] [])) else none)) else none := by kernel_rfl
theorem u38_31 (ok B : Nat → List DV → Bool) (c nl c2 nl2 : Bool) (x0 x1 x2 : Int) (y0 : Int) : pureE aeC (evB ok B) 30 38 Tryd.f38 [.sl [iD x0, iD x1, iD x2] 3 1 c nl, .sl [iD y0] 1 1 c2 nl2] = wT 29 ok B (fun b => bD b) (six [x0, x1, x2] [y0]) := by kernel_rfl
theorem u36_31 (ok B : Nat → List DV → Bool) (c nl c2 nl2 : Bool) (x0 x1 x2 : Int) (y0 : Int) : pureE aeC (evB ok B) 30 36 Tryd.f36 [.sl [iD x0, iD x1, iD x2] 3 1 c nl, .sl [iD y0] 1 1 c2 nl2] = bif ok 62 [.sl [iD x0, iD x1, iD x2] 3 1 c nl] then (bif !B 62 [.sl [iD x0, iD x1, iD x2] 3 1 c nl] then some (.tup [bD false, iD 1]) else (bif ok 62 [.sl [iD y0] 1 1 c2 nl2] then (bif !B 62 [.sl [iD y0] 1 1 c2 nl2] then some (.tup [bD false, iD 1]) else wT 61 ok B (fun b => .tup [bD b, iD 0]) (six [x0, x1, x2] [y0])) else none)) else none := by kernel_rfl
theorem u38_32 (ok B : Nat → List DV → Bool) (c nl c2 nl2 : Bool) (x0 x1 x2 : Int) (y0 y1 : Int) : pureE aeC (evB ok B) 30 38 Tryd.f38 [.sl [iD x0, iD x1, iD x2] 3 1 c nl, .sl [iD y0, iD y1] 2 1 c2 nl2] = wT 29 ok B (fun b => bD b) (six [x0, x1, x2] [y0, y1]) := by kernel_rfl
theorem u36_32 (ok B : Nat → List DV → Bool) (c nl c2 nl2 : Bool) (x0 x1 x2 : Int) (y0 y1 : Int) : pureE aeC (evB ok B) 30 36 Tryd.f36 [.sl [iD x0, iD x1, iD x2] 3 1 c nl, .sl [iD y0, iD y1] 2 1 c2 nl2] = bif ok 62 [.sl [iD x0, iD x1, iD x2] 3 1 c nl] then (bif !B 62 [.sl [iD x0, iD x1, iD x2] 3 1 c nl] then some (.tup [bD false, iD 1]) else (bif ok 62 [.sl [iD y0, iD y1] 2 1 c2 nl2] then (bif !B 62 [.sl [iD y0, iD y1] 2 1 c2 nl2] then some (.tup [bD false, iD 1]) else wT 61 ok B (fun b => .tup [bD b, iD 0]) (six [x0, x1, x2] [y0, y1])) else none)) else none := by kernel_rfl
theorem u38_33 (ok B : Nat → List DV → Bool) (c nl c2 nl2 : Bool) (x0 x1 x2 : Int) (y0 y1 y2 : Int) : pureE aeC (evB ok B) 30 38 Tryd.f38 [.sl [iD x0, iD x1, iD x2] 3 1 c nl, .sl [iD y0, iD y1, iD y2] 3 1 c2 nl2] = wT 29 ok B (fun b => bD b) (six [x0, x1, x2] [y0, y1, y2]) := by kernel_rfl
theorem u36_33 (ok B : Nat → List DV → Bool) (c nl c2 nl2 : Bool) (x0 x1 x2 : Int) (y0 y1 y2 : Int) : pureE aeC (evB ok B) 30 36 Tryd.f36 [.sl [iD x0, iD x1, iD x2] 3 1 c nl, .sl [iD y0, iD y1, iD y2] 3 1 c2 nl2] = bif ok 62 [.sl [iD x0, iD x1, iD x2] 3 1 c nl] then (bif !B 62 [.sl [iD x0, iD x1, iD x2] 3 1 c nl] then some (.tup [bD false, iD 1]) else (bif ok 62 [.sl [iD y0, iD y1, iD y2] 3 1 c2 nl2] then (bif !B 62 [.sl [iD y0, iD y1, iD y2] 3 1 c2 nl2] then some (.tup [bD false, iD 1]) else wT 61 ok B (fun b => .tup [bD b, iD 0]) (six [x0, x1, x2] [y0, y1, y2])) else none)) else none := by kernel_rfl
theorem ok29w (a : List Int) (h1 : 1 ≤ a.length) (h6 : a.length ≤ 6) : okS (shB tB) 29 [ls a false false] = true ∧ tB 29 [ls a false false] = steadyW a := ⟨ok29 h1 h6, tB29 a false false⟩
theorem ok61w (a : List Int) (h1 : 1 ≤ a.length) (h6 : a.length ≤ 6) : okS (shB tB) 61 [ls a false false] = true ∧ tB 61 [ls a false false] = steadyW a := ⟨ok61 h1 h6, tB61 a false false⟩
/-- How the program's answer is put together. -/
noncomputable def weaveD (x y : List Int) : DV := bif halfB x && halfB y then .tup [bD (wB (six x y)), iD 0] else .tup [bD false, iD 1]
theorem w36 {x y : List Int} {c nl c2 nl2 : Bool} (hx : x.length ≤ 3) (hy : y.length ≤ 3)
    (h : pureE aeC (evB (okS (shB tB)) tB) 30 36 Tryd.f36 [ls x c nl, ls y c2 nl2] = bif okS (shB tB) 62 [ls x c nl] then (bif !tB 62 [ls x c nl] then some (.tup [bD false, iD 1]) else (bif okS (shB tB) 62 [ls y c2 nl2] then (bif !tB 62 [ls y c2 nl2] then some (.tup [bD false, iD 1]) else wT 61 (okS (shB tB)) tB (fun b => .tup [bD b, iD 0]) (six x y)) else none)) else none) :
    PureOK Tryd.prog 36 [ls x c nl, ls y c2 nl2] (weaveD x y) := by
  refine walk (fs := [61, 62, 29, 59]) (shape := shB tB) (by kernel_rfl : tget aeF 36 = some Tryd.f36) (h.trans ?_)
  rw [ok62 (by omega), ok62 (by omega), tB62, tB62, wT_eq _ ok61w (six x y) (by simp [six])]
  unfold weaveD halfB
  rw [decide_eq_true hx, decide_eq_true hy]
  cases withinB x <;> cases withinB y <;> rfl
theorem c38 : ∀ (x y : List Int) (c nl c2 nl2 : Bool), x.length ≤ 3 → y.length ≤ 3 → PureOK Tryd.prog 38 [ls x c nl, ls y c2 nl2] (bD (wB (six x y)))
  | [], [], c, nl, c2, nl2, _, _ => walk (fs := [61, 62, 29, 59]) (shape := shB tB) (by kernel_rfl : tget aeF 38 = some Tryd.f38) ((u38_00 (okS (shB tB)) tB c nl c2 nl2 ).trans (wT_eq _ ok29w _ (by simp [six])))
  | [], [y0], c, nl, c2, nl2, _, _ => walk (fs := [61, 62, 29, 59]) (shape := shB tB) (by kernel_rfl : tget aeF 38 = some Tryd.f38) ((u38_01 (okS (shB tB)) tB c nl c2 nl2 y0).trans (wT_eq _ ok29w _ (by simp [six])))
  | [], [y0, y1], c, nl, c2, nl2, _, _ => walk (fs := [61, 62, 29, 59]) (shape := shB tB) (by kernel_rfl : tget aeF 38 = some Tryd.f38) ((u38_02 (okS (shB tB)) tB c nl c2 nl2 y0 y1).trans (wT_eq _ ok29w _ (by simp [six])))
  | [], [y0, y1, y2], c, nl, c2, nl2, _, _ => walk (fs := [61, 62, 29, 59]) (shape := shB tB) (by kernel_rfl : tget aeF 38 = some Tryd.f38) ((u38_03 (okS (shB tB)) tB c nl c2 nl2 y0 y1 y2).trans (wT_eq _ ok29w _ (by simp [six])))
  | [x0], [], c, nl, c2, nl2, _, _ => walk (fs := [61, 62, 29, 59]) (shape := shB tB) (by kernel_rfl : tget aeF 38 = some Tryd.f38) ((u38_10 (okS (shB tB)) tB c nl c2 nl2 x0).trans (wT_eq _ ok29w _ (by simp [six])))
  | [x0], [y0], c, nl, c2, nl2, _, _ => walk (fs := [61, 62, 29, 59]) (shape := shB tB) (by kernel_rfl : tget aeF 38 = some Tryd.f38) ((u38_11 (okS (shB tB)) tB c nl c2 nl2 x0 y0).trans (wT_eq _ ok29w _ (by simp [six])))
  | [x0], [y0, y1], c, nl, c2, nl2, _, _ => walk (fs := [61, 62, 29, 59]) (shape := shB tB) (by kernel_rfl : tget aeF 38 = some Tryd.f38) ((u38_12 (okS (shB tB)) tB c nl c2 nl2 x0 y0 y1).trans (wT_eq _ ok29w _ (by simp [six])))
  | [x0], [y0, y1, y2], c, nl, c2, nl2, _, _ => walk (fs := [61, 62, 29, 59]) (shape := shB tB) (by kernel_rfl : tget aeF 38 = some Tryd.f38) ((u38_13 (okS (shB tB)) tB c nl c2 nl2 x0 y0 y1 y2).trans (wT_eq _ ok29w _ (by simp [six])))
  | [x0, x1], [], c, nl, c2, nl2, _, _ => walk (fs := [61, 62, 29, 59]) (shape := shB tB) (by kernel_rfl : tget aeF 38 = some Tryd.f38) ((u38_20 (okS (shB tB)) tB c nl c2 nl2 x0 x1).trans (wT_eq _ ok29w _ (by simp [six])))
  | [x0, x1], [y0], c, nl, c2, nl2, _, _ => walk (fs := [61, 62, 29, 59]) (shape := shB tB) (by kernel_rfl : tget aeF 38 = some Tryd.f38) ((u38_21 (okS (shB tB)) tB c nl c2 nl2 x0 x1 y0).trans (wT_eq _ ok29w _ (by simp [six])))
  | [x0, x1], [y0, y1], c, nl, c2, nl2, _, _ => walk (fs := [61, 62, 29, 59]) (shape := shB tB) (by kernel_rfl : tget aeF 38 = some Tryd.f38) ((u38_22 (okS (shB tB)) tB c nl c2 nl2 x0 x1 y0 y1).trans (wT_eq _ ok29w _ (by simp [six])))
  | [x0, x1], [y0, y1, y2], c, nl, c2, nl2, _, _ => walk (fs := [61, 62, 29, 59]) (shape := shB tB) (by kernel_rfl : tget aeF 38 = some Tryd.f38) ((u38_23 (okS (shB tB)) tB c nl c2 nl2 x0 x1 y0 y1 y2).trans (wT_eq _ ok29w _ (by simp [six])))
  | [x0, x1, x2], [], c, nl, c2, nl2, _, _ => walk (fs := [61, 62, 29, 59]) (shape := shB tB) (by kernel_rfl : tget aeF 38 = some Tryd.f38) ((u38_30 (okS (shB tB)) tB c nl c2 nl2 x0 x1 x2).trans (wT_eq _ ok29w _ (by simp [six])))
  | [x0, x1, x2], [y0], c, nl, c2, nl2, _, _ => walk (fs := [61, 62, 29, 59]) (shape := shB tB) (by kernel_rfl : tget aeF 38 = some Tryd.f38) ((u38_31 (okS (shB tB)) tB c nl c2 nl2 x0 x1 x2 y0).trans (wT_eq _ ok29w _ (by simp [six])))
  | [x0, x1, x2], [y0, y1], c, nl, c2, nl2, _, _ => walk (fs := [61, 62, 29, 59]) (shape := shB tB) (by kernel_rfl : tget aeF 38 = some Tryd.f38) ((u38_32 (okS (shB tB)) tB c nl c2 nl2 x0 x1 x2 y0 y1).trans (wT_eq _ ok29w _ (by simp [six])))
  | [x0, x1, x2], [y0, y1, y2], c, nl, c2, nl2, _, _ => walk (fs := [61, 62, 29, 59]) (shape := shB tB) (by kernel_rfl : tget aeF 38 = some Tryd.f38) ((u38_33 (okS (shB tB)) tB c nl c2 nl2 x0 x1 x2 y0 y1 y2).trans (wT_eq _ ok29w _ (by simp [six])))
  | _ :: _ :: _ :: _ :: _, _, _, _, _, _, h, _ => absurd h (by simp)
  | _, _ :: _ :: _ :: _ :: _, _, _, _, _, _, h => absurd h (by simp)
theorem c36_04 (y0 y1 y2 y3 : Int) (c nl c2 nl2 : Bool) : PureOK Tryd.prog 36 [ls [] c nl, ls [y0, y1, y2, y3] c2 nl2] (weaveD [] [y0, y1, y2, y3]) := by
  have e : weaveD [] [y0, y1, y2, y3] = .tup [bD false, iD 1] := by unfold weaveD halfB; simp
  rw [e]
  exact walk (fs := [61, 62, 29, 59]) (shape := shB tB) (by kernel_rfl : tget aeF 36 = some Tryd.f36) (by kernel_rfl)
theorem c36_05 (y0 y1 y2 y3 y4 : Int) (c nl c2 nl2 : Bool) : PureOK Tryd.prog 36 [ls [] c nl, ls [y0, y1, y2, y3, y4] c2 nl2] (weaveD [] [y0, y1, y2, y3, y4]) := by
  have e : weaveD [] [y0, y1, y2, y3, y4] = .tup [bD false, iD 1] := by unfold weaveD halfB; simp
  rw [e]
  exact walk (fs := [61, 62, 29, 59]) (shape := shB tB) (by kernel_rfl : tget aeF 36 = some Tryd.f36) (by kernel_rfl)
theorem c36_14 (x0 : Int) (y0 y1 y2 y3 : Int) (c nl c2 nl2 : Bool) : PureOK Tryd.prog 36 [ls [x0] c nl, ls [y0, y1, y2, y3] c2 nl2] (weaveD [x0] [y0, y1, y2, y3]) := by
  have e : weaveD [x0] [y0, y1, y2, y3] = .tup [bD false, iD 1] := by unfold weaveD halfB; simp
  rw [e]
  exact walk (fs := [61, 62, 29, 59]) (shape := shB tB) (by kernel_rfl : tget aeF 36 = some Tryd.f36) (by kernel_rfl)
theorem c36_15 (x0 : Int) (y0 y1 y2 y3 y4 : Int) (c nl c2 nl2 : Bool) : PureOK Tryd.prog 36 [ls [x0] c nl, ls [y0, y1, y2, y3, y4] c2 nl2] (weaveD [x0] [y0, y1, y2, y3, y4]) := by
  have e : weaveD [x0] [y0, y1, y2, y3, y4] = .tup [bD false, iD 1] := by unfold weaveD halfB; simp
  rw [e]
  exact walk (fs := [61, 62, 29, 59]) (shape := shB tB) (by kernel_rfl : tget aeF 36 = some Tryd.f36) (by kernel_rfl)
theorem c36_24 (x0 x1 : Int) (y0 y1 y2 y3 : Int) (c nl c2 nl2 : Bool) : PureOK Tryd.prog 36 [ls [x0, x1] c nl, ls [y0, y1, y2, y3] c2 nl2] (weaveD [x0, x1] [y0, y1, y2, y3]) := by
  have e : weaveD [x0, x1] [y0, y1, y2, y3] = .tup [bD false, iD 1] := by unfold weaveD halfB; simp
  rw [e]
  exact walk (fs := [61, 62, 29, 59]) (shape := shB tB) (by kernel_rfl : tget aeF 36 = some Tryd.f36) (by kernel_rfl)
theorem c36_25 (x0 x1 : Int) (y0 y1 y2 y3 y4 : Int) (c nl c2 nl2 : Bool) : PureOK Tryd.prog 36 [ls [x0, x1] c nl, ls [y0, y1, y2, y3, y4] c2 nl2] (weaveD [x0, x1] [y0, y1, y2, y3, y4]) := by
  have e : weaveD [x0, x1] [y0, y1, y2, y3, y4] = .tup [bD false, iD 1] := by unfold weaveD halfB; simp
  rw [e]
  exact walk (fs := [61, 62, 29, 59]) (shape := shB tB) (by kernel_rfl : tget aeF 36 = some Tryd.f36) (by kernel_rfl)
theorem c36_34 (x0 x1 x2 : Int) (y0 y1 y2 y3 : Int) (c nl c2 nl2 : Bool) : PureOK Tryd.prog 36 [ls [x0, x1, x2] c nl, ls [y0, y1, y2, y3] c2 nl2] (weaveD [x0, x1, x2] [y0, y1, y2, y3]) := by
  have e : weaveD [x0, x1, x2] [y0, y1, y2, y3] = .tup [bD false, iD 1] := by unfold weaveD halfB; simp
  rw [e]
  exact walk (fs := [61, 62, 29, 59]) (shape := shB tB) (by kernel_rfl : tget aeF 36 = some Tryd.f36) (by kernel_rfl)
theorem c36_35 (x0 x1 x2 : Int) (y0 y1 y2 y3 y4 : Int) (c nl c2 nl2 : Bool) : PureOK Tryd.prog 36 [ls [x0, x1, x2] c nl, ls [y0, y1, y2, y3, y4] c2 nl2] (weaveD [x0, x1, x2] [y0, y1, y2, y3, y4]) := by
  have e : weaveD [x0, x1, x2] [y0, y1, y2, y3, y4] = .tup [bD false, iD 1] := by unfold weaveD halfB; simp
  rw [e]
  exact walk (fs := [61, 62, 29, 59]) (shape := shB tB) (by kernel_rfl : tget aeF 36 = some Tryd.f36) (by kernel_rfl)
theorem c36_40 (x0 x1 x2 x3 : Int) (c nl c2 nl2 : Bool) : PureOK Tryd.prog 36 [ls [x0, x1, x2, x3] c nl, ls [] c2 nl2] (weaveD [x0, x1, x2, x3] []) := by
  have e : weaveD [x0, x1, x2, x3] [] = .tup [bD false, iD 1] := by unfold weaveD halfB; simp
  rw [e]
  exact walk (fs := [61, 62, 29, 59]) (shape := shB tB) (by kernel_rfl : tget aeF 36 = some Tryd.f36) (by kernel_rfl)
theorem c36_41 (x0 x1 x2 x3 : Int) (y0 : Int) (c nl c2 nl2 : Bool) : PureOK Tryd.prog 36 [ls [x0, x1, x2, x3] c nl, ls [y0] c2 nl2] (weaveD [x0, x1, x2, x3] [y0]) := by
  have e : weaveD [x0, x1, x2, x3] [y0] = .tup [bD false, iD 1] := by unfold weaveD halfB; simp
  rw [e]
  exact walk (fs := [61, 62, 29, 59]) (shape := shB tB) (by kernel_rfl : tget aeF 36 = some Tryd.f36) (by kernel_rfl)
theorem c36_42 (x0 x1 x2 x3 : Int) (y0 y1 : Int) (c nl c2 nl2 : Bool) : PureOK Tryd.prog 36 [ls [x0, x1, x2, x3] c nl, ls [y0, y1] c2 nl2] (weaveD [x0, x1, x2, x3] [y0, y1]) := by
  have e : weaveD [x0, x1, x2, x3] [y0, y1] = .tup [bD false, iD 1] := by unfold weaveD halfB; simp
  rw [e]
  exact walk (fs := [61, 62, 29, 59]) (shape := shB tB) (by kernel_rfl : tget aeF 36 = some Tryd.f36) (by kernel_rfl)
theorem c36_43 (x0 x1 x2 x3 : Int) (y0 y1 y2 : Int) (c nl c2 nl2 : Bool) : PureOK Tryd.prog 36 [ls [x0, x1, x2, x3] c nl, ls [y0, y1, y2] c2 nl2] (weaveD [x0, x1, x2, x3] [y0, y1, y2]) := by
  have e : weaveD [x0, x1, x2, x3] [y0, y1, y2] = .tup [bD false, iD 1] := by unfold weaveD halfB; simp
  rw [e]
  exact walk (fs := [61, 62, 29, 59]) (shape := shB tB) (by kernel_rfl : tget aeF 36 = some Tryd.f36) (by kernel_rfl)
theorem c36_44 (x0 x1 x2 x3 : Int) (y0 y1 y2 y3 : Int) (c nl c2 nl2 : Bool) : PureOK Tryd.prog 36 [ls [x0, x1, x2, x3] c nl, ls [y0, y1, y2, y3] c2 nl2] (weaveD [x0, x1, x2, x3] [y0, y1, y2, y3]) := by
  have e : weaveD [x0, x1, x2, x3] [y0, y1, y2, y3] = .tup [bD false, iD 1] := by unfold weaveD halfB; simp
  rw [e]
  exact walk (fs := [61, 62, 29, 59]) (shape := shB tB) (by kernel_rfl : tget aeF 36 = some Tryd.f36) (by kernel_rfl)
theorem c36_45 (x0 x1 x2 x3 : Int) (y0 y1 y2 y3 y4 : Int) (c nl c2 nl2 : Bool) : PureOK Tryd.prog 36 [ls [x0, x1, x2, x3] c nl, ls [y0, y1, y2, y3, y4] c2 nl2] (weaveD [x0, x1, x2, x3] [y0, y1, y2, y3, y4]) := by
  have e : weaveD [x0, x1, x2, x3] [y0, y1, y2, y3, y4] = .tup [bD false, iD 1] := by unfold weaveD halfB; simp
  rw [e]
  exact walk (fs := [61, 62, 29, 59]) (shape := shB tB) (by kernel_rfl : tget aeF 36 = some Tryd.f36) (by kernel_rfl)
theorem c36_50 (x0 x1 x2 x3 x4 : Int) (c nl c2 nl2 : Bool) : PureOK Tryd.prog 36 [ls [x0, x1, x2, x3, x4] c nl, ls [] c2 nl2] (weaveD [x0, x1, x2, x3, x4] []) := by
  have e : weaveD [x0, x1, x2, x3, x4] [] = .tup [bD false, iD 1] := by unfold weaveD halfB; simp
  rw [e]
  exact walk (fs := [61, 62, 29, 59]) (shape := shB tB) (by kernel_rfl : tget aeF 36 = some Tryd.f36) (by kernel_rfl)
theorem c36_51 (x0 x1 x2 x3 x4 : Int) (y0 : Int) (c nl c2 nl2 : Bool) : PureOK Tryd.prog 36 [ls [x0, x1, x2, x3, x4] c nl, ls [y0] c2 nl2] (weaveD [x0, x1, x2, x3, x4] [y0]) := by
  have e : weaveD [x0, x1, x2, x3, x4] [y0] = .tup [bD false, iD 1] := by unfold weaveD halfB; simp
  rw [e]
  exact walk (fs := [61, 62, 29, 59]) (shape := shB tB) (by kernel_rfl : tget aeF 36 = some Tryd.f36) (by kernel_rfl)
theorem c36_52 (x0 x1 x2 x3 x4 : Int) (y0 y1 : Int) (c nl c2 nl2 : Bool) : PureOK Tryd.prog 36 [ls [x0, x1, x2, x3, x4] c nl, ls [y0, y1] c2 nl2] (weaveD [x0, x1, x2, x3, x4] [y0, y1]) := by
  have e : weaveD [x0, x1, x2, x3, x4] [y0, y1] = .tup [bD false, iD 1] := by unfold weaveD halfB; simp
  rw [e]
  exact walk (fs := [61, 62, 29, 59]) (shape := shB tB) (by kernel_rfl : tget aeF 36 = some Tryd.f36) (by kernel_rfl)
theorem c36_53 (x0 x1 x2 x3 x4 : Int) (y0 y1 y2 : Int) (c nl c2 nl2 : Bool) : PureOK Tryd.prog 36 [ls [x0, x1, x2, x3, x4] c nl, ls [y0, y1, y2] c2 nl2] (weaveD [x0, x1, x2, x3, x4] [y0, y1, y2]) := by
  have e : weaveD [x0, x1, x2, x3, x4] [y0, y1, y2] = .tup [bD false, iD 1] := by unfold weaveD halfB; simp
  rw [e]
  exact walk (fs := [61, 62, 29, 59]) (shape := shB tB) (by kernel_rfl : tget aeF 36 = some Tryd.f36) (by kernel_rfl)
theorem c36_54 (x0 x1 x2 x3 x4 : Int) (y0 y1 y2 y3 : Int) (c nl c2 nl2 : Bool) : PureOK Tryd.prog 36 [ls [x0, x1, x2, x3, x4] c nl, ls [y0, y1, y2, y3] c2 nl2] (weaveD [x0, x1, x2, x3, x4] [y0, y1, y2, y3]) := by
  have e : weaveD [x0, x1, x2, x3, x4] [y0, y1, y2, y3] = .tup [bD false, iD 1] := by unfold weaveD halfB; simp
  rw [e]
  exact walk (fs := [61, 62, 29, 59]) (shape := shB tB) (by kernel_rfl : tget aeF 36 = some Tryd.f36) (by kernel_rfl)
theorem c36_55 (x0 x1 x2 x3 x4 : Int) (y0 y1 y2 y3 y4 : Int) (c nl c2 nl2 : Bool) : PureOK Tryd.prog 36 [ls [x0, x1, x2, x3, x4] c nl, ls [y0, y1, y2, y3, y4] c2 nl2] (weaveD [x0, x1, x2, x3, x4] [y0, y1, y2, y3, y4]) := by
  have e : weaveD [x0, x1, x2, x3, x4] [y0, y1, y2, y3, y4] = .tup [bD false, iD 1] := by unfold weaveD halfB; simp
  rw [e]
  exact walk (fs := [61, 62, 29, 59]) (shape := shB tB) (by kernel_rfl : tget aeF 36 = some Tryd.f36) (by kernel_rfl)
theorem c36 : ∀ (x y : List Int) (c nl c2 nl2 : Bool), x.length ≤ 5 → y.length ≤ 5 → PureOK Tryd.prog 36 [ls x c nl, ls y c2 nl2] (weaveD x y)
  | [], [], c, nl, c2, nl2, _, _ => w36 (by simp) (by simp) (u36_00 (okS (shB tB)) tB c nl c2 nl2 )
  | [], [y0], c, nl, c2, nl2, _, _ => w36 (by simp) (by simp) (u36_01 (okS (shB tB)) tB c nl c2 nl2 y0)
  | [], [y0, y1], c, nl, c2, nl2, _, _ => w36 (by simp) (by simp) (u36_02 (okS (shB tB)) tB c nl c2 nl2 y0 y1)
  | [], [y0, y1, y2], c, nl, c2, nl2, _, _ => w36 (by simp) (by simp) (u36_03 (okS (shB tB)) tB c nl c2 nl2 y0 y1 y2)
  | [], [y0, y1, y2, y3], c, nl, c2, nl2, _, _ => c36_04 y0 y1 y2 y3 c nl c2 nl2
  | [], [y0, y1, y2, y3, y4], c, nl, c2, nl2, _, _ => c36_05 y0 y1 y2 y3 y4 c nl c2 nl2
  | [x0], [], c, nl, c2, nl2, _, _ => w36 (by simp) (by simp) (u36_10 (okS (shB tB)) tB c nl c2 nl2 x0)
  | [x0], [y0], c, nl, c2, nl2, _, _ => w36 (by simp) (by simp) (u36_11 (okS (shB tB)) tB c nl c2 nl2 x0 y0)
  | [x0], [y0, y1], c, nl, c2, nl2, _, _ => w36 (by simp) (by simp) (u36_12 (okS (shB tB)) tB c nl c2 nl2 x0 y0 y1)
  | [x0], [y0, y1, y2], c, nl, c2, nl2, _, _ => w36 (by simp) (by simp) (u36_13 (okS (shB tB)) tB c nl c2 nl2 x0 y0 y1 y2)
  | [x0], [y0, y1, y2, y3], c, nl, c2, nl2, _, _ => c36_14 x0 y0 y1 y2 y3 c nl c2 nl2
  | [x0], [y0, y1, y2, y3, y4], c, nl, c2, nl2, _, _ => c36_15 x0 y0 y1 y2 y3 y4 c nl c2 nl2
  | [x0, x1], [], c, nl, c2, nl2, _, _ => w36 (by simp) (by simp) (u36_20 (okS (shB tB)) tB c nl c2 nl2 x0 x1)
  | [x0, x1], [y0], c, nl, c2, nl2, _, _ => w36 (by simp) (by simp) (u36_21 (okS (shB tB)) tB c nl c2 nl2 x0 x1 y0)
  | [x0, x1], [y0, y1], c, nl, c2, nl2, _, _ => w36 (by simp) (by simp) (u36_22 (okS (shB tB)) tB c nl c2 nl2 x0 x1 y0 y1)
  | [x0, x1], [y0, y1, y2], c, nl, c2, nl2, _, _ => w36 (by simp) (by simp) (u36_23 (okS (shB tB)) tB c nl c2 nl2 x0 x1 y0 y1 y2)
  | [x0, x1], [y0, y1, y2, y3], c, nl, c2, nl2, _, _ => c36_24 x0 x1 y0 y1 y2 y3 c nl c2 nl2
  | [x0, x1], [y0, y1, y2, y3, y4], c, nl, c2, nl2, _, _ => c36_25 x0 x1 y0 y1 y2 y3 y4 c nl c2 nl2
  | [x0, x1, x2], [], c, nl, c2, nl2, _, _ => w36 (by simp) (by simp) (u36_30 (okS (shB tB)) tB c nl c2 nl2 x0 x1 x2)
  | [x0, x1, x2], [y0], c, nl, c2, nl2, _, _ => w36 (by simp) (by simp) (u36_31 (okS (shB tB)) tB c nl c2 nl2 x0 x1 x2 y0)
  | [x0, x1, x2], [y0, y1], c, nl, c2, nl2, _, _ => w36 (by simp) (by simp) (u36_32 (okS (shB tB)) tB c nl c2 nl2 x0 x1 x2 y0 y1)
  | [x0, x1, x2], [y0, y1, y2], c, nl, c2, nl2, _, _ => w36 (by simp) (by simp) (u36_33 (okS (shB tB)) tB c nl c2 nl2 x0 x1 x2 y0 y1 y2)
  | [x0, x1, x2], [y0, y1, y2, y3], c, nl, c2, nl2, _, _ => c36_34 x0 x1 x2 y0 y1 y2 y3 c nl c2 nl2
  | [x0, x1, x2], [y0, y1, y2, y3, y4], c, nl, c2, nl2, _, _ => c36_35 x0 x1 x2 y0 y1 y2 y3 y4 c nl c2 nl2
  | [x0, x1, x2, x3], [], c, nl, c2, nl2, _, _ => c36_40 x0 x1 x2 x3 c nl c2 nl2
  | [x0, x1, x2, x3], [y0], c, nl, c2, nl2, _, _ => c36_41 x0 x1 x2 x3 y0 c nl c2 nl2
  | [x0, x1, x2, x3], [y0, y1], c, nl, c2, nl2, _, _ => c36_42 x0 x1 x2 x3 y0 y1 c nl c2 nl2
  | [x0, x1, x2, x3], [y0, y1, y2], c, nl, c2, nl2, _, _ => c36_43 x0 x1 x2 x3 y0 y1 y2 c nl c2 nl2
  | [x0, x1, x2, x3], [y0, y1, y2, y3], c, nl, c2, nl2, _, _ => c36_44 x0 x1 x2 x3 y0 y1 y2 y3 c nl c2 nl2
  | [x0, x1, x2, x3], [y0, y1, y2, y3, y4], c, nl, c2, nl2, _, _ => c36_45 x0 x1 x2 x3 y0 y1 y2 y3 y4 c nl c2 nl2
  | [x0, x1, x2, x3, x4], [], c, nl, c2, nl2, _, _ => c36_50 x0 x1 x2 x3 x4 c nl c2 nl2
  | [x0, x1, x2, x3, x4], [y0], c, nl, c2, nl2, _, _ => c36_51 x0 x1 x2 x3 x4 y0 c nl c2 nl2
  | [x0, x1, x2, x3, x4], [y0, y1], c, nl, c2, nl2, _, _ => c36_52 x0 x1 x2 x3 x4 y0 y1 c nl c2 nl2
  | [x0, x1, x2, x3, x4], [y0, y1, y2], c, nl, c2, nl2, _, _ => c36_53 x0 x1 x2 x3 x4 y0 y1 y2 c nl c2 nl2
  | [x0, x1, x2, x3, x4], [y0, y1, y2, y3], c, nl, c2, nl2, _, _ => c36_54 x0 x1 x2 x3 x4 y0 y1 y2 y3 c nl c2 nl2
  | [x0, x1, x2, x3, x4], [y0, y1, y2, y3, y4], c, nl, c2, nl2, _, _ => c36_55 x0 x1 x2 x3 x4 y0 y1 y2 y3 y4 c nl c2 nl2
  | _ :: _ :: _ :: _ :: _ :: _ :: _, _, _, _, _, _, h, _ => absurd h (by simp)
  | _, _ :: _ :: _ :: _ :: _ :: _ :: _, _, _, _, _, _, h => absurd h (by simp)
end Go.Proofs.YtiicbenhhdbnoaaDoor

/- Chapter 09: products. Written by wip/tools/genW2.py. -/
namespace Go.Proofs.YtiicbenhhdbnoaaDoor
open Go Go.AE
set_option maxRecDepth 100000
/-- A coefficient of a product, as the machine's numbers have it. -/
def mulAt (x y : List Int) (k : Nat) : Int := (List.range x.length).foldl (fun acc i => bif Nat.ble i k && Nat.blt (k - i) y.length then IntKind.wrap .i64 (acc + IntKind.wrap .i64 (x.getD i 0 * y.getD (k - i) 0)) else acc) 0
def mulL (x y : List Int) : List Int := (List.range (x.length + y.length - 1)).map (mulAt x y)
theorem mulL_len (x y : List Int) : (mulL x y).length = x.length + y.length - 1 := by simp [mulL]
noncomputable def mulD (x y : List Int) : DV := .tup [ls (mulL x y) false false, bD (decide (x.length + y.length ≤ 7) && withinB (mulL x y))]
theorem w41 {x y : List Int} {c nl c2 nl2 : Bool} (h7 : x.length + y.length ≤ 7)
    (h : pureE aeC (evB (okS (shB tB)) tB) 30 41 Tryd.f41 [ls x c nl, ls y c2 nl2] = bif okS (shB tB) 59 [ls (mulL x y) false false] then some (.tup [ls (mulL x y) false false, bD (tB 59 [ls (mulL x y) false false])]) else none) :
    PureOK Tryd.prog 41 [ls x c nl, ls y c2 nl2] (mulD x y) := by
  refine walk (fs := [61, 62, 29, 59]) (shape := shB tB) (by kernel_rfl : tget aeF 41 = some Tryd.f41) (h.trans ?_)
  rw [ok59 (by rw [mulL_len]; omega), tB59]
  unfold mulD
  rw [decide_eq_true h7]
  rfl
theorem w41n {x y : List Int} {c nl c2 nl2 : Bool} (h7 : ¬ x.length + y.length ≤ 7)
    (h : pureE aeC (evB (okS (shB tB)) tB) 30 41 Tryd.f41 [ls x c nl, ls y c2 nl2] = some (.tup [ls (mulL x y) false false, bD false])) :
    PureOK Tryd.prog 41 [ls x c nl, ls y c2 nl2] (mulD x y) := by
  refine walk (fs := [61, 62, 29, 59]) (shape := shB tB) (by kernel_rfl : tget aeF 41 = some Tryd.f41) (h.trans ?_)
  unfold mulD
  rw [decide_eq_false h7]
  rfl

theorem u41_11 (ok B : Nat → List DV → Bool) (c nl c2 nl2 : Bool) (x0 : Int) (y0 : Int) : pureE aeC (evB ok B) 30 41 Tryd.f41 [.sl [iD x0] 1 1 c nl, .sl [iD y0] 1 1 c2 nl2] = bif ok 59 [(ls (mulL [x0] [y0]) false false)] then some (.tup [(ls (mulL [x0] [y0]) false false), bD (B 59 [(ls (mulL [x0] [y0]) false false)])]) else none := by kernel_rfl
theorem u41_12 (ok B : Nat → List DV → Bool) (c nl c2 nl2 : Bool) (x0 : Int) (y0 y1 : Int) : pureE aeC (evB ok B) 30 41 Tryd.f41 [.sl [iD x0] 1 1 c nl, .sl [iD y0, iD y1] 2 1 c2 nl2] = bif ok 59 [(ls (mulL [x0] [y0, y1]) false false)] then some (.tup [(ls (mulL [x0] [y0, y1]) false false), bD (B 59 [(ls (mulL [x0] [y0, y1]) false false)])]) else none := by kernel_rfl
theorem u41_13 (ok B : Nat → List DV → Bool) (c nl c2 nl2 : Bool) (x0 : Int) (y0 y1 y2 : Int) : pureE aeC (evB ok B) 30 41 Tryd.f41 [.sl [iD x0] 1 1 c nl, .sl [iD y0, iD y1, iD y2] 3 1 c2 nl2] = bif ok 59 [(ls (mulL [x0] [y0, y1, y2]) false false)] then some (.tup [(ls (mulL [x0] [y0, y1, y2]) false false), bD (B 59 [(ls (mulL [x0] [y0, y1, y2]) false false)])]) else none := by kernel_rfl
theorem u41_14 (ok B : Nat → List DV → Bool) (c nl c2 nl2 : Bool) (x0 : Int) (y0 y1 y2 y3 : Int) : pureE aeC (evB ok B) 30 41 Tryd.f41 [.sl [iD x0] 1 1 c nl, .sl [iD y0, iD y1, iD y2, iD y3] 4 1 c2 nl2] = bif ok 59 [(ls (mulL [x0] [y0, y1, y2, y3]) false false)] then some (.tup [(ls (mulL [x0] [y0, y1, y2, y3]) false false), bD (B 59 [(ls (mulL [x0] [y0, y1, y2, y3]) false false)])]) else none := by kernel_rfl
theorem u41_15 (ok B : Nat → List DV → Bool) (c nl c2 nl2 : Bool) (x0 : Int) (y0 y1 y2 y3 y4 : Int) : pureE aeC (evB ok B) 30 41 Tryd.f41 [.sl [iD x0] 1 1 c nl, .sl [iD y0, iD y1, iD y2, iD y3, iD y4] 5 1 c2 nl2] = bif ok 59 [(ls (mulL [x0] [y0, y1, y2, y3, y4]) false false)] then some (.tup [(ls (mulL [x0] [y0, y1, y2, y3, y4]) false false), bD (B 59 [(ls (mulL [x0] [y0, y1, y2, y3, y4]) false false)])]) else none := by kernel_rfl
theorem u41_16 (ok B : Nat → List DV → Bool) (c nl c2 nl2 : Bool) (x0 : Int) (y0 y1 y2 y3 y4 y5 : Int) : pureE aeC (evB ok B) 30 41 Tryd.f41 [.sl [iD x0] 1 1 c nl, .sl [iD y0, iD y1, iD y2, iD y3, iD y4, iD y5] 6 1 c2 nl2] = bif ok 59 [(ls (mulL [x0] [y0, y1, y2, y3, y4, y5]) false false)] then some (.tup [(ls (mulL [x0] [y0, y1, y2, y3, y4, y5]) false false), bD (B 59 [(ls (mulL [x0] [y0, y1, y2, y3, y4, y5]) false false)])]) else none := by kernel_rfl
theorem u41_21 (ok B : Nat → List DV → Bool) (c nl c2 nl2 : Bool) (x0 x1 : Int) (y0 : Int) : pureE aeC (evB ok B) 30 41 Tryd.f41 [.sl [iD x0, iD x1] 2 1 c nl, .sl [iD y0] 1 1 c2 nl2] = bif ok 59 [(ls (mulL [x0, x1] [y0]) false false)] then some (.tup [(ls (mulL [x0, x1] [y0]) false false), bD (B 59 [(ls (mulL [x0, x1] [y0]) false false)])]) else none := by kernel_rfl
theorem u41_22 (ok B : Nat → List DV → Bool) (c nl c2 nl2 : Bool) (x0 x1 : Int) (y0 y1 : Int) : pureE aeC (evB ok B) 30 41 Tryd.f41 [.sl [iD x0, iD x1] 2 1 c nl, .sl [iD y0, iD y1] 2 1 c2 nl2] = bif ok 59 [(ls (mulL [x0, x1] [y0, y1]) false false)] then some (.tup [(ls (mulL [x0, x1] [y0, y1]) false false), bD (B 59 [(ls (mulL [x0, x1] [y0, y1]) false false)])]) else none := by kernel_rfl
theorem u41_23 (ok B : Nat → List DV → Bool) (c nl c2 nl2 : Bool) (x0 x1 : Int) (y0 y1 y2 : Int) : pureE aeC (evB ok B) 30 41 Tryd.f41 [.sl [iD x0, iD x1] 2 1 c nl, .sl [iD y0, iD y1, iD y2] 3 1 c2 nl2] = bif ok 59 [(ls (mulL [x0, x1] [y0, y1, y2]) false false)] then some (.tup [(ls (mulL [x0, x1] [y0, y1, y2]) false false), bD (B 59 [(ls (mulL [x0, x1] [y0, y1, y2]) false false)])]) else none := by kernel_rfl
theorem u41_24 (ok B : Nat → List DV → Bool) (c nl c2 nl2 : Bool) (x0 x1 : Int) (y0 y1 y2 y3 : Int) : pureE aeC (evB ok B) 30 41 Tryd.f41 [.sl [iD x0, iD x1] 2 1 c nl, .sl [iD y0, iD y1, iD y2, iD y3] 4 1 c2 nl2] = bif ok 59 [(ls (mulL [x0, x1] [y0, y1, y2, y3]) false false)] then some (.tup [(ls (mulL [x0, x1] [y0, y1, y2, y3]) false false), bD (B 59 [(ls (mulL [x0, x1] [y0, y1, y2, y3]) false false)])]) else none := by kernel_rfl
theorem u41_25 (ok B : Nat → List DV → Bool) (c nl c2 nl2 : Bool) (x0 x1 : Int) (y0 y1 y2 y3 y4 : Int) : pureE aeC (evB ok B) 30 41 Tryd.f41 [.sl [iD x0, iD x1] 2 1 c nl, .sl [iD y0, iD y1, iD y2, iD y3, iD y4] 5 1 c2 nl2] = bif ok 59 [(ls (mulL [x0, x1] [y0, y1, y2, y3, y4]) false false)] then some (.tup [(ls (mulL [x0, x1] [y0, y1, y2, y3, y4]) false false), bD (B 59 [(ls (mulL [x0, x1] [y0, y1, y2, y3, y4]) false false)])]) else none := by kernel_rfl
theorem u41_26 (ok B : Nat → List DV → Bool) (c nl c2 nl2 : Bool) (x0 x1 : Int) (y0 y1 y2 y3 y4 y5 : Int) : pureE aeC (evB ok B) 30 41 Tryd.f41 [.sl [iD x0, iD x1] 2 1 c nl, .sl [iD y0, iD y1, iD y2, iD y3, iD y4, iD y5] 6 1 c2 nl2] = some (.tup [(ls (mulL [x0, x1] [y0, y1, y2, y3, y4, y5]) false false), bD false]) := by kernel_rfl
theorem u41_31 (ok B : Nat → List DV → Bool) (c nl c2 nl2 : Bool) (x0 x1 x2 : Int) (y0 : Int) : pureE aeC (evB ok B) 30 41 Tryd.f41 [.sl [iD x0, iD x1, iD x2] 3 1 c nl, .sl [iD y0] 1 1 c2 nl2] = bif ok 59 [(ls (mulL [x0, x1, x2] [y0]) false false)] then some (.tup [(ls (mulL [x0, x1, x2] [y0]) false false), bD (B 59 [(ls (mulL [x0, x1, x2] [y0]) false false)])]) else none := by kernel_rfl
theorem u41_32 (ok B : Nat → List DV → Bool) (c nl c2 nl2 : Bool) (x0 x1 x2 : Int) (y0 y1 : Int) : pureE aeC (evB ok B) 30 41 Tryd.f41 [.sl [iD x0, iD x1, iD x2] 3 1 c nl, .sl [iD y0, iD y1] 2 1 c2 nl2] = bif ok 59 [(ls (mulL [x0, x1, x2] [y0, y1]) false false)] then some (.tup [(ls (mulL [x0, x1, x2] [y0, y1]) false false), bD (B 59 [(ls (mulL [x0, x1, x2] [y0, y1]) false false)])]) else none := by kernel_rfl
theorem u41_33 (ok B : Nat → List DV → Bool) (c nl c2 nl2 : Bool) (x0 x1 x2 : Int) (y0 y1 y2 : Int) : pureE aeC (evB ok B) 30 41 Tryd.f41 [.sl [iD x0, iD x1, iD x2] 3 1 c nl, .sl [iD y0, iD y1, iD y2] 3 1 c2 nl2] = bif ok 59 [(ls (mulL [x0, x1, x2] [y0, y1, y2]) false false)] then some (.tup [(ls (mulL [x0, x1, x2] [y0, y1, y2]) false false), bD (B 59 [(ls (mulL [x0, x1, x2] [y0, y1, y2]) false false)])]) else none := by kernel_rfl
theorem u41_34 (ok B : Nat → List DV → Bool) (c nl c2 nl2 : Bool) (x0 x1 x2 : Int) (y0 y1 y2 y3 : Int) : pureE aeC (evB ok B) 30 41 Tryd.f41 [.sl [iD x0, iD x1, iD x2] 3 1 c nl, .sl [iD y0, iD y1, iD y2, iD y3] 4 1 c2 nl2] = bif ok 59 [(ls (mulL [x0, x1, x2] [y0, y1, y2, y3]) false false)] then some (.tup [(ls (mulL [x0, x1, x2] [y0, y1, y2, y3]) false false), bD (B 59 [(ls (mulL [x0, x1, x2] [y0, y1, y2, y3]) false false)])]) else none := by kernel_rfl
theorem u41_35 (ok B : Nat → List DV → Bool) (c nl c2 nl2 : Bool) (x0 x1 x2 : Int) (y0 y1 y2 y3 y4 : Int) : pureE aeC (evB ok B) 30 41 Tryd.f41 [.sl [iD x0, iD x1, iD x2] 3 1 c nl, .sl [iD y0, iD y1, iD y2, iD y3, iD y4] 5 1 c2 nl2] = some (.tup [(ls (mulL [x0, x1, x2] [y0, y1, y2, y3, y4]) false false), bD false]) := by kernel_rfl
theorem u41_36 (ok B : Nat → List DV → Bool) (c nl c2 nl2 : Bool) (x0 x1 x2 : Int) (y0 y1 y2 y3 y4 y5 : Int) : pureE aeC (evB ok B) 30 41 Tryd.f41 [.sl [iD x0, iD x1, iD x2] 3 1 c nl, .sl [iD y0, iD y1, iD y2, iD y3, iD y4, iD y5] 6 1 c2 nl2] = some (.tup [(ls (mulL [x0, x1, x2] [y0, y1, y2, y3, y4, y5]) false false), bD false]) := by kernel_rfl
theorem u41_41 (ok B : Nat → List DV → Bool) (c nl c2 nl2 : Bool) (x0 x1 x2 x3 : Int) (y0 : Int) : pureE aeC (evB ok B) 30 41 Tryd.f41 [.sl [iD x0, iD x1, iD x2, iD x3] 4 1 c nl, .sl [iD y0] 1 1 c2 nl2] = bif ok 59 [(ls (mulL [x0, x1, x2, x3] [y0]) false false)] then some (.tup [(ls (mulL [x0, x1, x2, x3] [y0]) false false), bD (B 59 [(ls (mulL [x0, x1, x2, x3] [y0]) false false)])]) else none := by kernel_rfl
theorem u41_42 (ok B : Nat → List DV → Bool) (c nl c2 nl2 : Bool) (x0 x1 x2 x3 : Int) (y0 y1 : Int) : pureE aeC (evB ok B) 30 41 Tryd.f41 [.sl [iD x0, iD x1, iD x2, iD x3] 4 1 c nl, .sl [iD y0, iD y1] 2 1 c2 nl2] = bif ok 59 [(ls (mulL [x0, x1, x2, x3] [y0, y1]) false false)] then some (.tup [(ls (mulL [x0, x1, x2, x3] [y0, y1]) false false), bD (B 59 [(ls (mulL [x0, x1, x2, x3] [y0, y1]) false false)])]) else none := by kernel_rfl
theorem u41_43 (ok B : Nat → List DV → Bool) (c nl c2 nl2 : Bool) (x0 x1 x2 x3 : Int) (y0 y1 y2 : Int) : pureE aeC (evB ok B) 30 41 Tryd.f41 [.sl [iD x0, iD x1, iD x2, iD x3] 4 1 c nl, .sl [iD y0, iD y1, iD y2] 3 1 c2 nl2] = bif ok 59 [(ls (mulL [x0, x1, x2, x3] [y0, y1, y2]) false false)] then some (.tup [(ls (mulL [x0, x1, x2, x3] [y0, y1, y2]) false false), bD (B 59 [(ls (mulL [x0, x1, x2, x3] [y0, y1, y2]) false false)])]) else none := by kernel_rfl
theorem u41_44 (ok B : Nat → List DV → Bool) (c nl c2 nl2 : Bool) (x0 x1 x2 x3 : Int) (y0 y1 y2 y3 : Int) : pureE aeC (evB ok B) 30 41 Tryd.f41 [.sl [iD x0, iD x1, iD x2, iD x3] 4 1 c nl, .sl [iD y0, iD y1, iD y2, iD y3] 4 1 c2 nl2] = some (.tup [(ls (mulL [x0, x1, x2, x3] [y0, y1, y2, y3]) false false), bD false]) := by kernel_rfl
theorem u41_45 (ok B : Nat → List DV → Bool) (c nl c2 nl2 : Bool) (x0 x1 x2 x3 : Int) (y0 y1 y2 y3 y4 : Int) : pureE aeC (evB ok B) 30 41 Tryd.f41 [.sl [iD x0, iD x1, iD x2, iD x3] 4 1 c nl, .sl [iD y0, iD y1, iD y2, iD y3, iD y4] 5 1 c2 nl2] = some (.tup [(ls (mulL [x0, x1, x2, x3] [y0, y1, y2, y3, y4]) false false), bD false]) := by kernel_rfl
theorem u41_46 (ok B : Nat → List DV → Bool) (c nl c2 nl2 : Bool) (x0 x1 x2 x3 : Int) (y0 y1 y2 y3 y4 y5 : Int) : pureE aeC (evB ok B) 30 41 Tryd.f41 [.sl [iD x0, iD x1, iD x2, iD x3] 4 1 c nl, .sl [iD y0, iD y1, iD y2, iD y3, iD y4, iD y5] 6 1 c2 nl2] = some (.tup [(ls (mulL [x0, x1, x2, x3] [y0, y1, y2, y3, y4, y5]) false false), bD false]) := by kernel_rfl
theorem u41_51 (ok B : Nat → List DV → Bool) (c nl c2 nl2 : Bool) (x0 x1 x2 x3 x4 : Int) (y0 : Int) : pureE aeC (evB ok B) 30 41 Tryd.f41 [.sl [iD x0, iD x1, iD x2, iD x3, iD x4] 5 1 c nl, .sl [iD y0] 1 1 c2 nl2] = bif ok 59 [(ls (mulL [x0, x1, x2, x3, x4] [y0]) false false)] then some (.tup [(ls (mulL [x0, x1, x2, x3, x4] [y0]) false false), bD (B 59 [(ls (mulL [x0, x1, x2, x3, x4] [y0]) false false)])]) else none := by kernel_rfl
theorem u41_52 (ok B : Nat → List DV → Bool) (c nl c2 nl2 : Bool) (x0 x1 x2 x3 x4 : Int) (y0 y1 : Int) : pureE aeC (evB ok B) 30 41 Tryd.f41 [.sl [iD x0, iD x1, iD x2, iD x3, iD x4] 5 1 c nl, .sl [iD y0, iD y1] 2 1 c2 nl2] = bif ok 59 [(ls (mulL [x0, x1, x2, x3, x4] [y0, y1]) false false)] then some (.tup [(ls (mulL [x0, x1, x2, x3, x4] [y0, y1]) false false), bD (B 59 [(ls (mulL [x0, x1, x2, x3, x4] [y0, y1]) false false)])]) else none := by kernel_rfl
theorem u41_53 (ok B : Nat → List DV → Bool) (c nl c2 nl2 : Bool) (x0 x1 x2 x3 x4 : Int) (y0 y1 y2 : Int) : pureE aeC (evB ok B) 30 41 Tryd.f41 [.sl [iD x0, iD x1, iD x2, iD x3, iD x4] 5 1 c nl, .sl [iD y0, iD y1, iD y2] 3 1 c2 nl2] = some (.tup [(ls (mulL [x0, x1, x2, x3, x4] [y0, y1, y2]) false false), bD false]) := by kernel_rfl
theorem u41_54 (ok B : Nat → List DV → Bool) (c nl c2 nl2 : Bool) (x0 x1 x2 x3 x4 : Int) (y0 y1 y2 y3 : Int) : pureE aeC (evB ok B) 30 41 Tryd.f41 [.sl [iD x0, iD x1, iD x2, iD x3, iD x4] 5 1 c nl, .sl [iD y0, iD y1, iD y2, iD y3] 4 1 c2 nl2] = some (.tup [(ls (mulL [x0, x1, x2, x3, x4] [y0, y1, y2, y3]) false false), bD false]) := by kernel_rfl
theorem u41_55 (ok B : Nat → List DV → Bool) (c nl c2 nl2 : Bool) (x0 x1 x2 x3 x4 : Int) (y0 y1 y2 y3 y4 : Int) : pureE aeC (evB ok B) 30 41 Tryd.f41 [.sl [iD x0, iD x1, iD x2, iD x3, iD x4] 5 1 c nl, .sl [iD y0, iD y1, iD y2, iD y3, iD y4] 5 1 c2 nl2] = some (.tup [(ls (mulL [x0, x1, x2, x3, x4] [y0, y1, y2, y3, y4]) false false), bD false]) := by kernel_rfl
theorem u41_56 (ok B : Nat → List DV → Bool) (c nl c2 nl2 : Bool) (x0 x1 x2 x3 x4 : Int) (y0 y1 y2 y3 y4 y5 : Int) : pureE aeC (evB ok B) 30 41 Tryd.f41 [.sl [iD x0, iD x1, iD x2, iD x3, iD x4] 5 1 c nl, .sl [iD y0, iD y1, iD y2, iD y3, iD y4, iD y5] 6 1 c2 nl2] = some (.tup [(ls (mulL [x0, x1, x2, x3, x4] [y0, y1, y2, y3, y4, y5]) false false), bD false]) := by kernel_rfl
theorem u41_61 (ok B : Nat → List DV → Bool) (c nl c2 nl2 : Bool) (x0 x1 x2 x3 x4 x5 : Int) (y0 : Int) : pureE aeC (evB ok B) 30 41 Tryd.f41 [.sl [iD x0, iD x1, iD x2, iD x3, iD x4, iD x5] 6 1 c nl, .sl [iD y0] 1 1 c2 nl2] = bif ok 59 [(ls (mulL [x0, x1, x2, x3, x4, x5] [y0]) false false)] then some (.tup [(ls (mulL [x0, x1, x2, x3, x4, x5] [y0]) false false), bD (B 59 [(ls (mulL [x0, x1, x2, x3, x4, x5] [y0]) false false)])]) else none := by kernel_rfl
theorem u41_62 (ok B : Nat → List DV → Bool) (c nl c2 nl2 : Bool) (x0 x1 x2 x3 x4 x5 : Int) (y0 y1 : Int) : pureE aeC (evB ok B) 30 41 Tryd.f41 [.sl [iD x0, iD x1, iD x2, iD x3, iD x4, iD x5] 6 1 c nl, .sl [iD y0, iD y1] 2 1 c2 nl2] = some (.tup [(ls (mulL [x0, x1, x2, x3, x4, x5] [y0, y1]) false false), bD false]) := by kernel_rfl
theorem u41_63 (ok B : Nat → List DV → Bool) (c nl c2 nl2 : Bool) (x0 x1 x2 x3 x4 x5 : Int) (y0 y1 y2 : Int) : pureE aeC (evB ok B) 30 41 Tryd.f41 [.sl [iD x0, iD x1, iD x2, iD x3, iD x4, iD x5] 6 1 c nl, .sl [iD y0, iD y1, iD y2] 3 1 c2 nl2] = some (.tup [(ls (mulL [x0, x1, x2, x3, x4, x5] [y0, y1, y2]) false false), bD false]) := by kernel_rfl
theorem u41_64 (ok B : Nat → List DV → Bool) (c nl c2 nl2 : Bool) (x0 x1 x2 x3 x4 x5 : Int) (y0 y1 y2 y3 : Int) : pureE aeC (evB ok B) 30 41 Tryd.f41 [.sl [iD x0, iD x1, iD x2, iD x3, iD x4, iD x5] 6 1 c nl, .sl [iD y0, iD y1, iD y2, iD y3] 4 1 c2 nl2] = some (.tup [(ls (mulL [x0, x1, x2, x3, x4, x5] [y0, y1, y2, y3]) false false), bD false]) := by kernel_rfl
theorem u41_65 (ok B : Nat → List DV → Bool) (c nl c2 nl2 : Bool) (x0 x1 x2 x3 x4 x5 : Int) (y0 y1 y2 y3 y4 : Int) : pureE aeC (evB ok B) 30 41 Tryd.f41 [.sl [iD x0, iD x1, iD x2, iD x3, iD x4, iD x5] 6 1 c nl, .sl [iD y0, iD y1, iD y2, iD y3, iD y4] 5 1 c2 nl2] = some (.tup [(ls (mulL [x0, x1, x2, x3, x4, x5] [y0, y1, y2, y3, y4]) false false), bD false]) := by kernel_rfl
theorem u41_66 (ok B : Nat → List DV → Bool) (c nl c2 nl2 : Bool) (x0 x1 x2 x3 x4 x5 : Int) (y0 y1 y2 y3 y4 y5 : Int) : pureE aeC (evB ok B) 30 41 Tryd.f41 [.sl [iD x0, iD x1, iD x2, iD x3, iD x4, iD x5] 6 1 c nl, .sl [iD y0, iD y1, iD y2, iD y3, iD y4, iD y5] 6 1 c2 nl2] = some (.tup [(ls (mulL [x0, x1, x2, x3, x4, x5] [y0, y1, y2, y3, y4, y5]) false false), bD false]) := by kernel_rfl
theorem c41 : ∀ (x y : List Int) (c nl c2 nl2 : Bool), 1 ≤ x.length → x.length ≤ 6 → 1 ≤ y.length → y.length ≤ 6 → PureOK Tryd.prog 41 [ls x c nl, ls y c2 nl2] (mulD x y)
  | [x0], [y0], c, nl, c2, nl2, _, _, _, _ => w41 (by simp) (u41_11 (okS (shB tB)) tB c nl c2 nl2 x0 y0)
  | [x0], [y0, y1], c, nl, c2, nl2, _, _, _, _ => w41 (by simp) (u41_12 (okS (shB tB)) tB c nl c2 nl2 x0 y0 y1)
  | [x0], [y0, y1, y2], c, nl, c2, nl2, _, _, _, _ => w41 (by simp) (u41_13 (okS (shB tB)) tB c nl c2 nl2 x0 y0 y1 y2)
  | [x0], [y0, y1, y2, y3], c, nl, c2, nl2, _, _, _, _ => w41 (by simp) (u41_14 (okS (shB tB)) tB c nl c2 nl2 x0 y0 y1 y2 y3)
  | [x0], [y0, y1, y2, y3, y4], c, nl, c2, nl2, _, _, _, _ => w41 (by simp) (u41_15 (okS (shB tB)) tB c nl c2 nl2 x0 y0 y1 y2 y3 y4)
  | [x0], [y0, y1, y2, y3, y4, y5], c, nl, c2, nl2, _, _, _, _ => w41 (by simp) (u41_16 (okS (shB tB)) tB c nl c2 nl2 x0 y0 y1 y2 y3 y4 y5)
  | [x0, x1], [y0], c, nl, c2, nl2, _, _, _, _ => w41 (by simp) (u41_21 (okS (shB tB)) tB c nl c2 nl2 x0 x1 y0)
  | [x0, x1], [y0, y1], c, nl, c2, nl2, _, _, _, _ => w41 (by simp) (u41_22 (okS (shB tB)) tB c nl c2 nl2 x0 x1 y0 y1)
  | [x0, x1], [y0, y1, y2], c, nl, c2, nl2, _, _, _, _ => w41 (by simp) (u41_23 (okS (shB tB)) tB c nl c2 nl2 x0 x1 y0 y1 y2)
  | [x0, x1], [y0, y1, y2, y3], c, nl, c2, nl2, _, _, _, _ => w41 (by simp) (u41_24 (okS (shB tB)) tB c nl c2 nl2 x0 x1 y0 y1 y2 y3)
  | [x0, x1], [y0, y1, y2, y3, y4], c, nl, c2, nl2, _, _, _, _ => w41 (by simp) (u41_25 (okS (shB tB)) tB c nl c2 nl2 x0 x1 y0 y1 y2 y3 y4)
  | [x0, x1], [y0, y1, y2, y3, y4, y5], c, nl, c2, nl2, _, _, _, _ => w41n (by simp) (u41_26 (okS (shB tB)) tB c nl c2 nl2 x0 x1 y0 y1 y2 y3 y4 y5)
  | [x0, x1, x2], [y0], c, nl, c2, nl2, _, _, _, _ => w41 (by simp) (u41_31 (okS (shB tB)) tB c nl c2 nl2 x0 x1 x2 y0)
  | [x0, x1, x2], [y0, y1], c, nl, c2, nl2, _, _, _, _ => w41 (by simp) (u41_32 (okS (shB tB)) tB c nl c2 nl2 x0 x1 x2 y0 y1)
  | [x0, x1, x2], [y0, y1, y2], c, nl, c2, nl2, _, _, _, _ => w41 (by simp) (u41_33 (okS (shB tB)) tB c nl c2 nl2 x0 x1 x2 y0 y1 y2)
  | [x0, x1, x2], [y0, y1, y2, y3], c, nl, c2, nl2, _, _, _, _ => w41 (by simp) (u41_34 (okS (shB tB)) tB c nl c2 nl2 x0 x1 x2 y0 y1 y2 y3)
  | [x0, x1, x2], [y0, y1, y2, y3, y4], c, nl, c2, nl2, _, _, _, _ => w41n (by simp) (u41_35 (okS (shB tB)) tB c nl c2 nl2 x0 x1 x2 y0 y1 y2 y3 y4)
  | [x0, x1, x2], [y0, y1, y2, y3, y4, y5], c, nl, c2, nl2, _, _, _, _ => w41n (by simp) (u41_36 (okS (shB tB)) tB c nl c2 nl2 x0 x1 x2 y0 y1 y2 y3 y4 y5)
  | [x0, x1, x2, x3], [y0], c, nl, c2, nl2, _, _, _, _ => w41 (by simp) (u41_41 (okS (shB tB)) tB c nl c2 nl2 x0 x1 x2 x3 y0)
  | [x0, x1, x2, x3], [y0, y1], c, nl, c2, nl2, _, _, _, _ => w41 (by simp) (u41_42 (okS (shB tB)) tB c nl c2 nl2 x0 x1 x2 x3 y0 y1)
  | [x0, x1, x2, x3], [y0, y1, y2], c, nl, c2, nl2, _, _, _, _ => w41 (by simp) (u41_43 (okS (shB tB)) tB c nl c2 nl2 x0 x1 x2 x3 y0 y1 y2)
  | [x0, x1, x2, x3], [y0, y1, y2, y3], c, nl, c2, nl2, _, _, _, _ => w41n (by simp) (u41_44 (okS (shB tB)) tB c nl c2 nl2 x0 x1 x2 x3 y0 y1 y2 y3)
  | [x0, x1, x2, x3], [y0, y1, y2, y3, y4], c, nl, c2, nl2, _, _, _, _ => w41n (by simp) (u41_45 (okS (shB tB)) tB c nl c2 nl2 x0 x1 x2 x3 y0 y1 y2 y3 y4)
  | [x0, x1, x2, x3], [y0, y1, y2, y3, y4, y5], c, nl, c2, nl2, _, _, _, _ => w41n (by simp) (u41_46 (okS (shB tB)) tB c nl c2 nl2 x0 x1 x2 x3 y0 y1 y2 y3 y4 y5)
  | [x0, x1, x2, x3, x4], [y0], c, nl, c2, nl2, _, _, _, _ => w41 (by simp) (u41_51 (okS (shB tB)) tB c nl c2 nl2 x0 x1 x2 x3 x4 y0)
  | [x0, x1, x2, x3, x4], [y0, y1], c, nl, c2, nl2, _, _, _, _ => w41 (by simp) (u41_52 (okS (shB tB)) tB c nl c2 nl2 x0 x1 x2 x3 x4 y0 y1)
  | [x0, x1, x2, x3, x4], [y0, y1, y2], c, nl, c2, nl2, _, _, _, _ => w41n (by simp) (u41_53 (okS (shB tB)) tB c nl c2 nl2 x0 x1 x2 x3 x4 y0 y1 y2)
  | [x0, x1, x2, x3, x4], [y0, y1, y2, y3], c, nl, c2, nl2, _, _, _, _ => w41n (by simp) (u41_54 (okS (shB tB)) tB c nl c2 nl2 x0 x1 x2 x3 x4 y0 y1 y2 y3)
  | [x0, x1, x2, x3, x4], [y0, y1, y2, y3, y4], c, nl, c2, nl2, _, _, _, _ => w41n (by simp) (u41_55 (okS (shB tB)) tB c nl c2 nl2 x0 x1 x2 x3 x4 y0 y1 y2 y3 y4)
  | [x0, x1, x2, x3, x4], [y0, y1, y2, y3, y4, y5], c, nl, c2, nl2, _, _, _, _ => w41n (by simp) (u41_56 (okS (shB tB)) tB c nl c2 nl2 x0 x1 x2 x3 x4 y0 y1 y2 y3 y4 y5)
  | [x0, x1, x2, x3, x4, x5], [y0], c, nl, c2, nl2, _, _, _, _ => w41 (by simp) (u41_61 (okS (shB tB)) tB c nl c2 nl2 x0 x1 x2 x3 x4 x5 y0)
  | [x0, x1, x2, x3, x4, x5], [y0, y1], c, nl, c2, nl2, _, _, _, _ => w41n (by simp) (u41_62 (okS (shB tB)) tB c nl c2 nl2 x0 x1 x2 x3 x4 x5 y0 y1)
  | [x0, x1, x2, x3, x4, x5], [y0, y1, y2], c, nl, c2, nl2, _, _, _, _ => w41n (by simp) (u41_63 (okS (shB tB)) tB c nl c2 nl2 x0 x1 x2 x3 x4 x5 y0 y1 y2)
  | [x0, x1, x2, x3, x4, x5], [y0, y1, y2, y3], c, nl, c2, nl2, _, _, _, _ => w41n (by simp) (u41_64 (okS (shB tB)) tB c nl c2 nl2 x0 x1 x2 x3 x4 x5 y0 y1 y2 y3)
  | [x0, x1, x2, x3, x4, x5], [y0, y1, y2, y3, y4], c, nl, c2, nl2, _, _, _, _ => w41n (by simp) (u41_65 (okS (shB tB)) tB c nl c2 nl2 x0 x1 x2 x3 x4 x5 y0 y1 y2 y3 y4)
  | [x0, x1, x2, x3, x4, x5], [y0, y1, y2, y3, y4, y5], c, nl, c2, nl2, _, _, _, _ => w41n (by simp) (u41_66 (okS (shB tB)) tB c nl c2 nl2 x0 x1 x2 x3 x4 x5 y0 y1 y2 y3 y4 y5)
  | [], _, _, _, _, _, h, _, _, _ => absurd h (by simp)
  | _, [], _, _, _, _, _, _, h, _ => absurd h (by simp)
  | _ :: _ :: _ :: _ :: _ :: _ :: _ :: _, _, _, _, _, _, _, h, _, _ => absurd h (by simp)
  | _, _ :: _ :: _ :: _ :: _ :: _ :: _ :: _, _, _, _, _, _, _, _, h => absurd h (by simp)
end Go.Proofs.YtiicbenhhdbnoaaDoor

/- Chapter 09: polynomials that are products. Written by wip/tools/genW3.py. -/
namespace Go.Proofs.YtiicbenhhdbnoaaDoor
open Go Go.AE
set_option maxRecDepth 100000
def sh41 (P : List DV → List DV) (N : List DV → Nat) (O : List DV → Bool) : Nat → List DV → DV := fun _ ds => .tup [.sl (P ds) (N ds) 1 false false, bD (O ds)]
noncomputable def ev41 (ok : Nat → List DV → Bool) (P : List DV → List DV) (N : List DV → Nat) (O : List DV → Bool) : Ev := evT ok (sh41 P N O)
noncomputable def s31 (l : List Int) (c nl : Bool) (A : List DV) (m : Nat) (ca : Bool) (i : Int) : St := ⟨[(0, .d (.sl (ints l) l.length 1 c nl)), (3, .d (.sl A m 1 ca false)), (4, .d (iD i))], [], []⟩

theorem r31h (ok : Nat → List DV → Bool) (P : List DV → List DV) (N : List DV → Nat) (O : List DV → Bool) (L : List DV) (n : Nat) (c nl : Bool) : startS aeC (ev41 ok P N O) 31 0 Tryd.f31 none ⟨envOf 0 [.d (.sl L n 1 c nl)], [], []⟩ (heldD aeC 31 0) =
  some (0, ⟨[(0, .d (DV.sl L n 1 c nl)), (3, .d (DV.sl [iD 1] 1 1 true false)), (4, .d (iD 0))], [], []⟩) := by kernel_rfl

theorem r31_0 (ok : Nat → List DV → Bool) (P : List DV → List DV) (N : List DV → Nat) (O : List DV → Bool) (l : List Int) (c nl : Bool) (A : List DV) (m : Nat) (ca : Bool) (i : Int) : startS aeC (ev41 ok P N O) 31 0 Tryd.f31 (some 0) (s31 l c nl A m ca i) (roundD aeC 31 0 0) =
  bif decide (i < (↑(List.length l) : Int)) then
    bif decide (i < 5) then
      bif inRange i (List.length l) then
        getI (nth (ints l) (Int.toNat i * 1)) fun x0 =>
        bif inRange i (List.length l) then
          getI (nth (ints l) (Int.toNat i * 1)) fun x1 =>
          bif decide (Int.tmod x1 2 = 0) then
            bif inRange i (List.length l) then
              getI (nth (ints l) (Int.toNat i * 1)) fun x2 =>
              bif ok 41 [DV.sl A m 1 ca false, DV.sl [iD (IntKind.wrap IntKind.i64 (1 + IntKind.wrap IntKind.i64 (Int.tmod (IntKind.wrap IntKind.u64 x2) 2))), iD 1, iD 1] 3 1 true false] then
                bif O [DV.sl A m 1 ca false, DV.sl [iD (IntKind.wrap IntKind.i64 (1 + IntKind.wrap IntKind.i64 (Int.tmod (IntKind.wrap IntKind.u64 x2) 2))), iD 1, iD 1] 3 1 true false] then
                  some (Ex.norm, ⟨[(0, .d (DV.sl (ints l) (List.length l) 1 c nl)), (3, .d (DV.sl (P [DV.sl A m 1 ca false, DV.sl [iD (IntKind.wrap IntKind.i64 (1 + IntKind.wrap IntKind.i64 (Int.tmod (IntKind.wrap IntKind.u64 x2) 2))), iD 1, iD 1] 3 1 true false]) (N [DV.sl A m 1 ca false, DV.sl [iD (IntKind.wrap IntKind.i64 (1 + IntKind.wrap IntKind.i64 (Int.tmod (IntKind.wrap IntKind.u64 x2) 2))), iD 1, iD 1] 3 1 true false]) 1 false false)), (4, .d (iD (IntKind.wrap IntKind.i64 (i + 1))))], [], []⟩)
                else
                  some (Ex.norm, ⟨[(0, .d (DV.sl (ints l) (List.length l) 1 c nl)), (3, .d (DV.sl A m 1 ca false)), (4, .d (iD (IntKind.wrap IntKind.i64 (i + 1))))], [], []⟩)
              else
                none
            else
              none
          else
            bif ok 41 [DV.sl A m 1 ca false, DV.sl [iD (IntKind.wrap IntKind.i64 (1 + IntKind.wrap IntKind.i64 (Int.tmod (IntKind.wrap IntKind.u64 x0) 3))), iD 1] 2 1 true false] then
              bif O [DV.sl A m 1 ca false, DV.sl [iD (IntKind.wrap IntKind.i64 (1 + IntKind.wrap IntKind.i64 (Int.tmod (IntKind.wrap IntKind.u64 x0) 3))), iD 1] 2 1 true false] then
                some (Ex.norm, ⟨[(0, .d (DV.sl (ints l) (List.length l) 1 c nl)), (3, .d (DV.sl (P [DV.sl A m 1 ca false, DV.sl [iD (IntKind.wrap IntKind.i64 (1 + IntKind.wrap IntKind.i64 (Int.tmod (IntKind.wrap IntKind.u64 x0) 3))), iD 1] 2 1 true false]) (N [DV.sl A m 1 ca false, DV.sl [iD (IntKind.wrap IntKind.i64 (1 + IntKind.wrap IntKind.i64 (Int.tmod (IntKind.wrap IntKind.u64 x0) 3))), iD 1] 2 1 true false]) 1 false false)), (4, .d (iD (IntKind.wrap IntKind.i64 (i + 1))))], [], []⟩)
              else
                some (Ex.norm, ⟨[(0, .d (DV.sl (ints l) (List.length l) 1 c nl)), (3, .d (DV.sl A m 1 ca false)), (4, .d (iD (IntKind.wrap IntKind.i64 (i + 1))))], [], []⟩)
            else
              none
        else
          none
      else
        none
    else
      some (Ex.exit 0, ⟨[(3, .d (DV.sl A m 1 ca false))], [], []⟩)
  else
    some (Ex.exit 0, ⟨[(3, .d (DV.sl A m 1 ca false))], [], []⟩) := by kernel_rfl


theorem r31_x (ok : Nat → List DV → Bool) (P : List DV → List DV) (N : List DV → Nat) (O : List DV → Bool) (A : List DV) (m : Nat) (ca : Bool) : nextS aeC (ev41 ok P N O) 31 0 Tryd.f31 none 0 (.exit 0) ⟨[(3, .d (.sl A m 1 ca false))], [], []⟩ (doneE aeC Tryd.f31 0 fun v h => freezeV h 4 v) =
  some (DV.sl A m 1 ca false) := by kernel_rfl


def tP (ds : List DV) : List DV := match ds with
  | [a, b] => ints (mulL (unL a) (unL b))
  | _ => []
def tN (ds : List DV) : Nat := match ds with
  | [a, b] => (mulL (unL a) (unL b)).length
  | _ => 0
def tO (ds : List DV) : Bool := match ds with
  | [a, b] => decide ((unL a).length + (unL b).length ≤ 7) && withinB (mulL (unL a) (unL b))
  | _ => false
theorem tP_ls (x y : List Int) (c nl c2 nl2 : Bool) : tP [ls x c nl, ls y c2 nl2] = ints (mulL x y) := by show ints (mulL (unL _) (unL _)) = _; rw [unL_ints, unL_ints]
theorem tN_ls (x y : List Int) (c nl c2 nl2 : Bool) : tN [ls x c nl, ls y c2 nl2] = (mulL x y).length := by show (mulL (unL _) (unL _)).length = _; rw [unL_ints, unL_ints]
theorem tO_ls (x y : List Int) (c nl c2 nl2 : Bool) : tO [ls x c nl, ls y c2 nl2] = (decide (x.length + y.length ≤ 7) && withinB (mulL x y)) := by show (decide ((unL _).length + (unL _).length ≤ 7) && withinB (mulL (unL _) (unL _))) = _; rw [unL_ints, unL_ints]
theorem g41 {x y : List Int} {c nl c2 nl2 : Bool} (h1 : 1 ≤ x.length) (h2 : x.length ≤ 6) (h3 : 1 ≤ y.length) (h4 : y.length ≤ 6) : okS (sh41 tP tN tO) 41 [ls x c nl, ls y c2 nl2] = true := by
  refine okS_is ?_
  show PureOK Tryd.prog 41 _ (.tup [.sl (tP [ls x c nl, ls y c2 nl2]) (tN [ls x c nl, ls y c2 nl2]) 1 false false, bD (tO [ls x c nl, ls y c2 nl2])])
  rw [tP_ls, tN_ls, tO_ls]
  exact c41 x y c nl c2 nl2 h1 h2 h3 h4

theorem k31 : OkSeg Tryd.f31 none [0] := ⟨by kernel_rfl, by kernel_rfl, by decide⟩
theorem k31_0 : OkSeg Tryd.f31 (some 0) [] := ⟨by kernel_rfl, by kernel_rfl, by decide⟩
noncomputable abbrev evG : Ev := ev41 (okS (sh41 tP tN tO)) tP tN tO
theorem evG_ok : EvOK Tryd.prog evG := evT_ok (sh41 tP tN tO)

/-- What is kept. -/
def goodB (a : List Int) : Prop := 1 ≤ a.length ∧ a.length ≤ 6 ∧ withinB a = true

/-- One round: a factor more, or none. -/
theorem step31 {l : List Int} {c nl : Bool} {A : List Int} {ca : Bool} {i : Nat} {b : List Int} {res : Option (Ex × St)} (hA : goodB A) (hb1 : 2 ≤ b.length) (hb : b.length ≤ 3) (hi : i < 5)
    (h : res = bif okS (sh41 tP tN tO) 41 [ls A ca false, ls b true false] then
      (bif tO [ls A ca false, ls b true false] then some (Ex.norm, ⟨[(0, .d (DV.sl (ints l) l.length 1 c nl)), (3, .d (DV.sl (tP [ls A ca false, ls b true false]) (tN [ls A ca false, ls b true false]) 1 false false)), (4, .d (iD (IntKind.wrap IntKind.i64 ((i : Int) + 1))))], [], []⟩)
      else some (Ex.norm, ⟨[(0, .d (DV.sl (ints l) l.length 1 c nl)), (3, .d (DV.sl (ints A) A.length 1 ca false)), (4, .d (iD (IntKind.wrap IntKind.i64 ((i : Int) + 1))))], [], []⟩)) else none) :
    ∃ A' ca', goodB A' ∧ res = some (.norm, s31 l c nl (ints A') A'.length ca' ((i + 1 : Nat) : Int)) := by
  subst h
  rw [cond_is (g41 hA.1 hA.2.1 (by omega) (by omega)), wrap64_o (by omega) (by omega), tO_ls, tP_ls, tN_ls]
  cases h7 : (decide (A.length + b.length ≤ 7) && withinB (mulL A b)) with
  | true =>
    simp only [Bool.and_eq_true, decide_eq_true_eq] at h7
    exact ⟨mulL A b, false, ⟨by rw [mulL_len]; omega, by rw [mulL_len]; omega, h7.2⟩, rfl⟩
  | false => exact ⟨A, ca, hA, rfl⟩

theorem l31 (l : List Int) (c nl : Bool) : ∀ (r A : List Int) (ca : Bool) (i : Nat), i ≤ l.length → l.drop i = r → goodB A →
    ∃ A' ca', goodB A' ∧ LoopAt aeC evG 31 0 Tryd.f31 0 (s31 l c nl (ints A) A.length ca i) (.exit 0) ⟨[(3, .d (ls A' ca' false))], [], []⟩
  | [], A, ca, i, hi, hr, hA => by
    have q1 := drop_nil_o hr
    exact ⟨A, ca, hA, .out k31_0 (by simp) ((r31_0 ..).trans (cnd_neg (by omega)))⟩
  | x :: r, A, ca, i, hi, hr, hA => by
    obtain ⟨q1, q2, q3⟩ := drop_cons_o (d := 0) hr
    have res := r31_0 (okS (sh41 tP tN tO)) tP tN tO l c nl (ints A) A.length ca i
    rw [cnd_pos (p := (i : Int) < (l.length : Int)) (by omega)] at res
    by_cases h5 : i < 5
    · rw [cnd_pos (p := (i : Int) < 5) (by omega)] at res
      simp (disch := omega) only [inR_pos, cond_true, getI_some, nth_ints_o, Int.toNat_natCast, Nat.mul_one, q2] at res
      have fin : ∃ A' ca', goodB A' ∧ startS aeC evG 31 0 Tryd.f31 (some 0) (s31 l c nl (ints A) A.length ca i) (roundD aeC 31 0 0) = some (.norm, s31 l c nl (ints A') A'.length ca' ((i + 1 : Nat) : Int)) := by
        by_cases e : Int.tmod x 2 = 0
        · rw [cnd_pos e] at res
          exact step31 (b := [_, 1, 1]) hA (by simp) (by simp) h5 res
        · rw [cnd_neg e] at res
          exact step31 (b := [_, 1]) hA (by simp) (by simp) h5 res
      obtain ⟨A1, ca1, hA1, res1⟩ := fin
      obtain ⟨A', ca', hA', ih⟩ := l31 l c nl r A1 ca1 (i + 1) q1 q3 hA1
      exact ⟨A', ca', hA', .next k31_0 res1 ih⟩
    · rw [cnd_neg (p := (i : Int) < 5) (by omega)] at res
      exact ⟨A, ca, hA, .out k31_0 (by simp) res⟩

/-- A polynomial of at most six coefficients is made of any numbers. -/
theorem c31 (l : List Int) (c nl : Bool) : ∃ A ca, goodB A ∧ PureOK Tryd.prog 31 [ls l c nl] (ls A ca false) := by
  obtain ⟨A, ca, hA, loop⟩ := l31 l c nl l [1] true 0 (by omega) rfl ⟨by simp, by simp, by decide⟩
  refine ⟨A, ca, hA, ae_pure evG_ok (fn := Tryd.f31) k31 (by kernel_rfl) (by kernel_rfl) ?_⟩
  refine Eq.trans (startF_seg k31 (r31h ..) loop) ?_
  exact nextF_done k31 done_plain (r31_x ..)
end Go.Proofs.YtiicbenhhdbnoaaDoor

/- Chapter 09: awake. -/
namespace Go.Proofs.YtiicbenhhdbnoaaDoor
open Go Go.AE
set_option maxRecDepth 100000
noncomputable def evD (ok : Nat → List DV → Bool) : Ev := evW [82] ok (sh77 tM)

theorem v13 (ok : Nat → List DV → Bool) : pureE aeC (evD ok) 30 13 Tryd.f13 [.sl [iD 1, iD 2, iD 3, iD 1] 4 1 true false] =
  some (DV.tup [DV.sl [DV.sl [iD 1, iD 1, iD 2, iD 1] 2 2 false false, DV.sl [iD 3, iD 1, iD 1, iD 1] 2 2 false false, DV.sl [iD 5, iD 3] 1 2 false false, DV.sl [iD 1, iD 1] 1 2 false false] 4 1 false false, iD 0]) := by kernel_rfl


theorem a13 : PureOK Tryd.prog 13 [.sl [iD 1, iD 2, iD 3, iD 1] 4 1 true false] (DV.tup [DV.sl [DV.sl [iD 1, iD 1, iD 2, iD 1] 2 2 false false, DV.sl [iD 3, iD 1, iD 1, iD 1] 2 2 false false, DV.sl [iD 5, iD 3] 1 2 false false, DV.sl [iD 1, iD 1] 1 2 false false] 4 1 false false, iD 0]) := by
  refine walk (fs := [82]) (shape := sh77 tM) (by kernel_rfl : tget aeF 13 = some Tryd.f13) ((v13 (okS (sh77 tM))).trans ?_)
  rfl

theorem v13b (ok : Nat → List DV → Bool) : pureE aeC (evD ok) 30 13 Tryd.f13 [.sl [iD 1, iD 0, iD 1] 3 1 true false] =
  some (DV.tup [DV.sl [] 0 0 false true, iD 4]) := by kernel_rfl


theorem a13b : PureOK Tryd.prog 13 [.sl [iD 1, iD 0, iD 1] 3 1 true false] (DV.tup [DV.sl [] 0 0 false true, iD 4]) := by
  refine walk (fs := [82]) (shape := sh77 tM) (by kernel_rfl : tget aeF 13 = some Tryd.f13) ((v13b (okS (sh77 tM))).trans ?_)
  rfl

theorem v14 (ok : Nat → List DV → Bool) : pureE aeC (evD ok) 30 14 Tryd.f14 [.sl [iD 6, iD 1, iD 1, iD 1] 4 1 true false] =
  some (DV.tup [iD 2, iD 0]) := by kernel_rfl


theorem a14 : PureOK Tryd.prog 14 [.sl [iD 6, iD 1, iD 1, iD 1] 4 1 true false] (DV.tup [iD 2, iD 0]) := by
  refine walk (fs := [82]) (shape := sh77 tM) (by kernel_rfl : tget aeF 14 = some Tryd.f14) ((v14 (okS (sh77 tM))).trans ?_)
  rfl

theorem v32 (ok : Nat → List DV → Bool) : pureE aeC (evD ok) 30 32 Tryd.f32 [.sl [iD 1, iD 2, iD 3, iD 1] 4 1 true false] =
  bif ok 82 [DV.sl [DV.sl [iD 3] 1 1 false false] 1 1 false false] then
    bif ok 82 [DV.sl [DV.sl [iD 3, iD 1] 2 1 false false, DV.sl [iD 1, iD 2] 2 1 false false] 2 1 false false] then
      bif ok 82 [DV.sl [DV.sl [iD 3, iD 1, iD 0] 3 1 false false, DV.sl [iD 1, iD 2, iD 0] 3 1 false false, DV.sl [iD 0, iD 3, iD 1] 3 1 false false] 3 1 false false] then
        some (DV.tup [bD true, iD 0])
      else
        none
    else
      none
  else
    none := by kernel_rfl


theorem a32 : PureOK Tryd.prog 32 [.sl [iD 1, iD 2, iD 3, iD 1] 4 1 true false] (DV.tup [bD true, iD 0]) := by
  refine walk (fs := [82]) (shape := sh77 tM) (by kernel_rfl : tget aeF 32 = some Tryd.f32) ((v32 (okS (sh77 tM))).trans ?_)
  refine (cond_is (g82 (det82_1 [3] rfl) (by kernel_rfl))).trans ?_
  refine (cond_is (g82 (det82_2 [3, 1] [1, 2] ⟨rfl, rfl⟩) (by kernel_rfl))).trans ?_
  refine (cond_is (g82 (det82_3 [3, 1, 0] [1, 2, 0] [0, 3, 1] ⟨rfl, rfl, rfl⟩) (by kernel_rfl))).trans ?_
  rfl

theorem v33 (ok : Nat → List DV → Bool) : pureE aeC (evD ok) 30 33 Tryd.f33 [.sl [iD 1, iD 2, iD 3, iD 1] 4 1 true false] =
  bif ok 82 [DV.sl [DV.sl [iD 3] 1 1 false false] 1 1 false false] then
    bif ok 82 [DV.sl [DV.sl [iD 3, iD 1] 2 1 false false, DV.sl [iD 1, iD 2] 2 1 false false] 2 1 false false] then
      bif ok 82 [DV.sl [DV.sl [iD 3, iD 1, iD 0] 3 1 false false, DV.sl [iD 1, iD 2, iD 0] 3 1 false false, DV.sl [iD 0, iD 3, iD 1] 3 1 false false] 3 1 false false] then
        some (DV.tup [DV.sl [iD 3, iD 5, iD 5] 3 1 false false, iD 0])
      else
        none
    else
      none
  else
    none := by kernel_rfl


theorem a33 : PureOK Tryd.prog 33 [.sl [iD 1, iD 2, iD 3, iD 1] 4 1 true false] (DV.tup [DV.sl [iD 3, iD 5, iD 5] 3 1 false false, iD 0]) := by
  refine walk (fs := [82]) (shape := sh77 tM) (by kernel_rfl : tget aeF 33 = some Tryd.f33) ((v33 (okS (sh77 tM))).trans ?_)
  refine (cond_is (g82 (det82_1 [3] rfl) (by kernel_rfl))).trans ?_
  refine (cond_is (g82 (det82_2 [3, 1] [1, 2] ⟨rfl, rfl⟩) (by kernel_rfl))).trans ?_
  refine (cond_is (g82 (det82_3 [3, 1, 0] [1, 2, 0] [0, 3, 1] ⟨rfl, rfl, rfl⟩) (by kernel_rfl))).trans ?_
  rfl

theorem v22 (ok : Nat → List DV → Bool) : pureE aeC (evD ok) 30 22 Tryd.f22 [.sl [iD 1, iD 1, iD 1] 3 1 true false, .sl [iD 2, iD 2, iD 2] 3 1 true false] =
  bif ok 82 [DV.sl [DV.sl [iD 1] 1 1 false false] 1 1 false false] then
    bif ok 82 [DV.sl [DV.sl [iD 1, iD 0] 2 1 false false, DV.sl [iD 2, iD 1] 2 1 false false] 2 1 false false] then
      bif ok 82 [DV.sl [DV.sl [iD 2] 1 1 false false] 1 1 false false] then
        bif ok 82 [DV.sl [DV.sl [iD 2, iD 0] 2 1 false false, DV.sl [iD 1, iD 2] 2 1 false false] 2 1 false false] then
          bif ok 82 [DV.sl [DV.sl [iD 2] 1 1 false false] 1 1 false false] then
            bif ok 82 [DV.sl [DV.sl [iD 2, iD 0] 2 1 false false, DV.sl [iD 2, iD 1] 2 1 false false] 2 1 false false] then
              bif ok 82 [DV.sl [DV.sl [iD 1] 1 1 false false] 1 1 false false] then
                bif ok 82 [DV.sl [DV.sl [iD 1, iD 0] 2 1 false false, DV.sl [iD 1, iD 2] 2 1 false false] 2 1 false false] then
                  some (DV.tup [bD true, iD 0])
                else
                  none
              else
                none
            else
              none
          else
            none
        else
          none
      else
        none
    else
      none
  else
    none := by kernel_rfl


theorem a22 : PureOK Tryd.prog 22 [.sl [iD 1, iD 1, iD 1] 3 1 true false, .sl [iD 2, iD 2, iD 2] 3 1 true false] (DV.tup [bD true, iD 0]) := by
  refine walk (fs := [82]) (shape := sh77 tM) (by kernel_rfl : tget aeF 22 = some Tryd.f22) ((v22 (okS (sh77 tM))).trans ?_)
  refine (cond_is (g82 (det82_1 [1] rfl) (by kernel_rfl))).trans ?_
  refine (cond_is (g82 (det82_2 [1, 0] [2, 1] ⟨rfl, rfl⟩) (by kernel_rfl))).trans ?_
  refine (cond_is (g82 (det82_1 [2] rfl) (by kernel_rfl))).trans ?_
  refine (cond_is (g82 (det82_2 [2, 0] [1, 2] ⟨rfl, rfl⟩) (by kernel_rfl))).trans ?_
  refine (cond_is (g82 (det82_1 [2] rfl) (by kernel_rfl))).trans ?_
  refine (cond_is (g82 (det82_2 [2, 0] [2, 1] ⟨rfl, rfl⟩) (by kernel_rfl))).trans ?_
  refine (cond_is (g82 (det82_1 [1] rfl) (by kernel_rfl))).trans ?_
  refine (cond_is (g82 (det82_2 [1, 0] [1, 2] ⟨rfl, rfl⟩) (by kernel_rfl))).trans ?_
  rfl

theorem v23 (ok : Nat → List DV → Bool) : pureE aeC (evD ok) 30 23 Tryd.f23 [.sl [iD 1, iD 1, iD 1] 3 1 true false, .sl [iD 2, iD 2, iD 2] 3 1 true false] =
  bif ok 82 [DV.sl [DV.sl [iD 1] 1 1 false false] 1 1 false false] then
    bif ok 82 [DV.sl [DV.sl [iD 1, iD 0] 2 1 false false, DV.sl [iD 2, iD 1] 2 1 false false] 2 1 false false] then
      bif ok 82 [DV.sl [DV.sl [iD 2] 1 1 false false] 1 1 false false] then
        bif ok 82 [DV.sl [DV.sl [iD 2, iD 0] 2 1 false false, DV.sl [iD 1, iD 2] 2 1 false false] 2 1 false false] then
          bif ok 82 [DV.sl [DV.sl [iD 2] 1 1 false false] 1 1 false false] then
            bif ok 82 [DV.sl [DV.sl [iD 2, iD 0] 2 1 false false, DV.sl [iD 2, iD 1] 2 1 false false] 2 1 false false] then
              bif ok 82 [DV.sl [DV.sl [iD 1] 1 1 false false] 1 1 false false] then
                bif ok 82 [DV.sl [DV.sl [iD 1, iD 0] 2 1 false false, DV.sl [iD 1, iD 2] 2 1 false false] 2 1 false false] then
                  some (DV.tup [DV.sl [] 0 0 false true, bD false, iD 0])
                else
                  none
              else
                none
            else
              none
          else
            none
        else
          none
      else
        none
    else
      none
  else
    none := by kernel_rfl


theorem a23 : PureOK Tryd.prog 23 [.sl [iD 1, iD 1, iD 1] 3 1 true false, .sl [iD 2, iD 2, iD 2] 3 1 true false] (DV.tup [DV.sl [] 0 0 false true, bD false, iD 0]) := by
  refine walk (fs := [82]) (shape := sh77 tM) (by kernel_rfl : tget aeF 23 = some Tryd.f23) ((v23 (okS (sh77 tM))).trans ?_)
  refine (cond_is (g82 (det82_1 [1] rfl) (by kernel_rfl))).trans ?_
  refine (cond_is (g82 (det82_2 [1, 0] [2, 1] ⟨rfl, rfl⟩) (by kernel_rfl))).trans ?_
  refine (cond_is (g82 (det82_1 [2] rfl) (by kernel_rfl))).trans ?_
  refine (cond_is (g82 (det82_2 [2, 0] [1, 2] ⟨rfl, rfl⟩) (by kernel_rfl))).trans ?_
  refine (cond_is (g82 (det82_1 [2] rfl) (by kernel_rfl))).trans ?_
  refine (cond_is (g82 (det82_2 [2, 0] [2, 1] ⟨rfl, rfl⟩) (by kernel_rfl))).trans ?_
  refine (cond_is (g82 (det82_1 [1] rfl) (by kernel_rfl))).trans ?_
  refine (cond_is (g82 (det82_2 [1, 0] [1, 2] ⟨rfl, rfl⟩) (by kernel_rfl))).trans ?_
  rfl

/-- What the seven calls tell. -/
def shE : Nat → List DV → DV := fun f ds => match f, ds with
  | 13, [.sl _ n _ _ _] => match n with
    | 4 => DV.tup [DV.sl [DV.sl [iD 1, iD 1, iD 2, iD 1] 2 2 false false, DV.sl [iD 3, iD 1, iD 1, iD 1] 2 2 false false, DV.sl [iD 5, iD 3] 1 2 false false, DV.sl [iD 1, iD 1] 1 2 false false] 4 1 false false, iD 0]
    | _ => DV.tup [DV.sl [] 0 0 false true, iD 4]
  | 14, _ => DV.tup [iD 2, iD 0]
  | 32, _ => DV.tup [bD true, iD 0]
  | 33, _ => DV.tup [DV.sl [iD 3, iD 5, iD 5] 3 1 false false, iD 0]
  | 22, _ => DV.tup [bD true, iD 0]
  | 23, _ => DV.tup [DV.sl [] 0 0 false true, bD false, iD 0]
  | _, _ => .nilp
noncomputable def evF (ok : Nat → List DV → Bool) : Ev := evW [13, 14, 32, 33, 22, 23] ok shE
theorem u18 (ok : Nat → List DV → Bool) : pureE aeC (evF ok) 30 18 Tryd.f18 [] =
  bif ok 32 [DV.sl [iD 1, iD 2, iD 3, iD 1] 4 1 true false] then
    bif ok 13 [DV.sl [iD 1, iD 2, iD 3, iD 1] 4 1 true false] then
      bif ok 14 [DV.sl [iD 6, iD 1, iD 1, iD 1] 4 1 true false] then
        bif ok 33 [DV.sl [iD 1, iD 2, iD 3, iD 1] 4 1 true false] then
          bif ok 22 [DV.sl [iD 1, iD 1, iD 1] 3 1 true false, DV.sl [iD 2, iD 2, iD 2] 3 1 true false] then
            bif ok 23 [DV.sl [iD 1, iD 1, iD 1] 3 1 true false, DV.sl [iD 2, iD 2, iD 2] 3 1 true false] then
              bif ok 13 [DV.sl [iD 1, iD 0, iD 1] 3 1 true false] then
                some (bD true)
              else
                none
            else
              none
          else
            none
        else
          none
      else
        none
    else
      none
  else
    none := by kernel_rfl


theorem awake_ok : PureOK Tryd.prog 18 [] (bD true) := by
  refine walk (fs := [13, 14, 32, 33, 22, 23]) (shape := shE) (by kernel_rfl : tget aeF 18 = some Tryd.f18) ((u18 (okS shE)).trans ?_)
  refine (cond_is (okS_is a32)).trans ?_
  refine (cond_is (okS_is a13)).trans ?_
  refine (cond_is (okS_is a14)).trans ?_
  refine (cond_is (okS_is a33)).trans ?_
  refine (cond_is (okS_is a22)).trans ?_
  refine (cond_is (okS_is a23)).trans ?_
  refine (cond_is (okS_is a13b)).trans ?_
  rfl
end Go.Proofs.YtiicbenhhdbnoaaDoor
