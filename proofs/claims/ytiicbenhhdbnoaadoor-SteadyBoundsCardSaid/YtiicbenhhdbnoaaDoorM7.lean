/- Part 7 of what the law stands on: the abstract machine over the model, and what the functions answer. No condition. -/
import Derived.Test.YtiicbenhhdbnoaaDoorM6
set_option linter.unusedSimpArgs false
set_option linter.unusedVariables false

/- Chapter 09: two halves woven. Written by wip/tools/genW1.py. -/
namespace Go.Proofs.YtiicbenhhdbnoaaDoor
open Go Go.AE
set_option maxRecDepth 100000
def shB (B : Nat → List DV → Bool) : Nat → List DV → DV := fun f ds => bD (B f ds)
def unI : DV → Int
  | .int _ n => n
  | _ => 0
def unL : DV → List Int
  | .sl l _ _ _ _ => l.map unI
  | _ => []
theorem unL_ints (l : List Int) (n : Nat) (c nl : Bool) : unL (.sl (ints l) n 1 c nl) = l := by
  show (ints l).map unI = l
  induction l with
  | nil => rfl
  | cons x r ih => exact congrArg (x :: ·) ih
/-- What is told of the lists. -/
def tB (f : Nat) (ds : List DV) : Bool := match ds with
  | [d] => cond (Nat.beq f 62 || Nat.beq f 59) (withinB (unL d)) (steadyW (unL d))
  | _ => false
theorem ok59 {a : List Int} {c nl : Bool} (h : a.length ≤ 8) : okS (shB tB) 59 [ls a c nl] = true := okS_is (by show PureOK Tryd.prog 59 [ls a c nl] (bD (withinB (unL (ls a c nl)))); rw [unL_ints]; exact c59 a c nl h)
theorem tB59 (a : List Int) (c nl : Bool) : tB 59 [ls a c nl] = withinB a := by show withinB (unL _) = _; rw [unL_ints]
/-- The coefficients of two halves, from the last one on. -/
def six (x y : List Int) : List Int := [y.getD 2 0, x.getD 2 0, y.getD 1 0, x.getD 1 0, y.getD 0 0, x.getD 0 0]
end Go.Proofs.YtiicbenhhdbnoaaDoor

/- Chapter 09: a second context, in which the products are walked in the memory of those who call them. -/
namespace Go.Proofs.YtiicbenhhdbnoaaDoor
open Go Go.AE
set_option maxRecDepth 100000
noncomputable def aeC2 : Ctx := aeC.open' [12, 69, 70, 72, 73]
theorem ae_fn2 {f : FuncId} {fn : Func} (h : tget aeF f = some fn) : FnOK Tryd.prog aeC2 f fn := (ae_fn h).same (show aeC2.plan = aeC.plan from rfl)
theorem ae_direct2 {E : Ev} (hE : EvOK Tryd.prog E) (k : Nat) {f : FuncId} {fn : Func} {ds : List DV} {d : DV} (h : tget aeF f = some fn) (e : pureE aeC2 E k f fn ds = some d) : PureOK Tryd.prog f ds d := pureE_ok (C := aeC2) ae_T ae_Q ae_mixed hE (ae_fn2 h) e
theorem ae_directF2 {E : Ev} (hE : EvOK Tryd.prog E) (k : Nat) {f : FuncId} {fn : Func} {xs : List AV} {h0 h' : List Blk} {v : AV} (h : tget aeF f = some fn) (e : bodyE aeC2 E k f fn xs h0 (fun v h' => some (v, h')) = some (v, h')) : CallOK Tryd.prog f xs h0 v h' := bodyE_ok (C := aeC2) ae_T ae_Q ae_mixed hE (ae_fn2 h) e
theorem ae_pure2 {E : Ev} (hE : EvOK Tryd.prog E) {f : FuncId} {fn : Func} {ids : List Nat} {ds : List DV} {d : DV} (ok : OkSeg fn none ids) (h : tget aeF f = some fn) (hb : (fn.body.isSome && Nat.ble ds.length fn.ntmps) = true)
    (e : startF aeC2 E f 0 fn none ⟨envOf 0 (ds.map .d), [], []⟩ (doneE aeC2 fn 0 fun v h => freezeV h 4 v) = some d) (hfr : freshF f = false := by rfl) : PureOK Tryd.prog f ds d :=
  pure_of_go (C := aeC2) ae_T ae_Q ae_mixed hE (ae_fn2 h) ok hb e hfr
/-- Calls that are told; all others are walked. -/
noncomputable def ev2 (E0 : Ev) (ps fs : List Nat) : Ev := evO aeC2 aeF E0 ps fs 30 8
theorem ev2_ok {E0 : Ev} (h : EvOK Tryd.prog E0) (ps fs : List Nat) : EvOK Tryd.prog (ev2 E0 ps fs) := evO_ok (C := aeC2) ae_T ae_Q ae_mixed (fun _ _ h => ae_fn2 h) h ps fs 30 8
noncomputable def evB2 (ok : Nat → List DV → Bool) (B : Nat → List DV → Bool) : Ev := ev2 (evT ok (shB B)) [61, 62, 29, 59] [92]
theorem walkB2 {B : Nat → List DV → Bool} {f : FuncId} {fn : Func} {ds : List DV} {d : DV} (h : tget aeF f = some fn) (e : pureE aeC2 (evB2 (okS (shB B)) B) 30 f fn ds = some d) : PureOK Tryd.prog f ds d :=
  ae_direct2 (ev2_ok (evT_ok (shB B)) _ _) 30 h e
end Go.Proofs.YtiicbenhhdbnoaaDoor

/- Chapter 09: products. Written by wip/tools/genW2.py. -/
namespace Go.Proofs.YtiicbenhhdbnoaaDoor
open Go Go.AE
set_option maxRecDepth 100000
/-- A coefficient of a product, as the machine's numbers have it. -/
def mulAt (x y : List Int) (k : Nat) : Int := (List.range x.length).foldl (fun acc i => bif Nat.ble i k && Nat.blt (k - i) y.length then IntKind.wrap .i64 (acc + IntKind.wrap .i64 (x.getD i 0 * y.getD (k - i) 0)) else acc) 0
def mulL (x y : List Int) : List Int := (List.range (x.length + y.length - 1)).map (mulAt x y)
theorem mulL_len (x y : List Int) : (mulL x y).length = x.length + y.length - 1 := by simp [mulL]
noncomputable def mulD (x y : List Int) : DV := .tup [ls (mulL x y) false false, bD (decide (x.length + y.length ≤ 7) && withinB (mulL x y))]
theorem w41 {x y : List Int} {c nl c2 nl2 : Bool} (h7 : x.length + y.length ≤ 7)
    (h : pureE aeC2 (evB2 (okS (shB tB)) tB) 30 41 Tryd.f41 [ls x c nl, ls y c2 nl2] = bif okS (shB tB) 59 [ls (mulL x y) false false] then some (.tup [ls (mulL x y) false false, bD (tB 59 [ls (mulL x y) false false])]) else none) :
    PureOK Tryd.prog 41 [ls x c nl, ls y c2 nl2] (mulD x y) := by
  refine walkB2 (B := tB) (by kernel_rfl : tget aeF 41 = some Tryd.f41) (h.trans ?_)
  rw [ok59 (by rw [mulL_len]; omega), tB59]
  unfold mulD
  rw [decide_eq_true h7]
  rfl
theorem w41n {x y : List Int} {c nl c2 nl2 : Bool} (h7 : ¬ x.length + y.length ≤ 7)
    (h : pureE aeC2 (evB2 (okS (shB tB)) tB) 30 41 Tryd.f41 [ls x c nl, ls y c2 nl2] = some (.tup [ls (mulL x y) false false, bD false])) :
    PureOK Tryd.prog 41 [ls x c nl, ls y c2 nl2] (mulD x y) := by
  refine walkB2 (B := tB) (by kernel_rfl : tget aeF 41 = some Tryd.f41) (h.trans ?_)
  unfold mulD
  rw [decide_eq_false h7]
  rfl

theorem u41_11 (ok B : Nat → List DV → Bool) (c nl c2 nl2 : Bool) (x0 : Int) (y0 : Int) : pureE aeC2 (evB2 ok B) 30 41 Tryd.f41 [.sl [iD x0] 1 1 c nl, .sl [iD y0] 1 1 c2 nl2] = bif ok 59 [(ls (mulL [x0] [y0]) false false)] then some (.tup [(ls (mulL [x0] [y0]) false false), bD (B 59 [(ls (mulL [x0] [y0]) false false)])]) else none := by kernel_rfl
theorem u41_12 (ok B : Nat → List DV → Bool) (c nl c2 nl2 : Bool) (x0 : Int) (y0 y1 : Int) : pureE aeC2 (evB2 ok B) 30 41 Tryd.f41 [.sl [iD x0] 1 1 c nl, .sl [iD y0, iD y1] 2 1 c2 nl2] = bif ok 59 [(ls (mulL [x0] [y0, y1]) false false)] then some (.tup [(ls (mulL [x0] [y0, y1]) false false), bD (B 59 [(ls (mulL [x0] [y0, y1]) false false)])]) else none := by kernel_rfl
theorem u41_13 (ok B : Nat → List DV → Bool) (c nl c2 nl2 : Bool) (x0 : Int) (y0 y1 y2 : Int) : pureE aeC2 (evB2 ok B) 30 41 Tryd.f41 [.sl [iD x0] 1 1 c nl, .sl [iD y0, iD y1, iD y2] 3 1 c2 nl2] = bif ok 59 [(ls (mulL [x0] [y0, y1, y2]) false false)] then some (.tup [(ls (mulL [x0] [y0, y1, y2]) false false), bD (B 59 [(ls (mulL [x0] [y0, y1, y2]) false false)])]) else none := by kernel_rfl
theorem u41_14 (ok B : Nat → List DV → Bool) (c nl c2 nl2 : Bool) (x0 : Int) (y0 y1 y2 y3 : Int) : pureE aeC2 (evB2 ok B) 30 41 Tryd.f41 [.sl [iD x0] 1 1 c nl, .sl [iD y0, iD y1, iD y2, iD y3] 4 1 c2 nl2] = bif ok 59 [(ls (mulL [x0] [y0, y1, y2, y3]) false false)] then some (.tup [(ls (mulL [x0] [y0, y1, y2, y3]) false false), bD (B 59 [(ls (mulL [x0] [y0, y1, y2, y3]) false false)])]) else none := by kernel_rfl
theorem u41_15 (ok B : Nat → List DV → Bool) (c nl c2 nl2 : Bool) (x0 : Int) (y0 y1 y2 y3 y4 : Int) : pureE aeC2 (evB2 ok B) 30 41 Tryd.f41 [.sl [iD x0] 1 1 c nl, .sl [iD y0, iD y1, iD y2, iD y3, iD y4] 5 1 c2 nl2] = bif ok 59 [(ls (mulL [x0] [y0, y1, y2, y3, y4]) false false)] then some (.tup [(ls (mulL [x0] [y0, y1, y2, y3, y4]) false false), bD (B 59 [(ls (mulL [x0] [y0, y1, y2, y3, y4]) false false)])]) else none := by kernel_rfl
theorem u41_16 (ok B : Nat → List DV → Bool) (c nl c2 nl2 : Bool) (x0 : Int) (y0 y1 y2 y3 y4 y5 : Int) : pureE aeC2 (evB2 ok B) 30 41 Tryd.f41 [.sl [iD x0] 1 1 c nl, .sl [iD y0, iD y1, iD y2, iD y3, iD y4, iD y5] 6 1 c2 nl2] = bif ok 59 [(ls (mulL [x0] [y0, y1, y2, y3, y4, y5]) false false)] then some (.tup [(ls (mulL [x0] [y0, y1, y2, y3, y4, y5]) false false), bD (B 59 [(ls (mulL [x0] [y0, y1, y2, y3, y4, y5]) false false)])]) else none := by kernel_rfl
theorem u41_21 (ok B : Nat → List DV → Bool) (c nl c2 nl2 : Bool) (x0 x1 : Int) (y0 : Int) : pureE aeC2 (evB2 ok B) 30 41 Tryd.f41 [.sl [iD x0, iD x1] 2 1 c nl, .sl [iD y0] 1 1 c2 nl2] = bif ok 59 [(ls (mulL [x0, x1] [y0]) false false)] then some (.tup [(ls (mulL [x0, x1] [y0]) false false), bD (B 59 [(ls (mulL [x0, x1] [y0]) false false)])]) else none := by kernel_rfl
theorem u41_22 (ok B : Nat → List DV → Bool) (c nl c2 nl2 : Bool) (x0 x1 : Int) (y0 y1 : Int) : pureE aeC2 (evB2 ok B) 30 41 Tryd.f41 [.sl [iD x0, iD x1] 2 1 c nl, .sl [iD y0, iD y1] 2 1 c2 nl2] = bif ok 59 [(ls (mulL [x0, x1] [y0, y1]) false false)] then some (.tup [(ls (mulL [x0, x1] [y0, y1]) false false), bD (B 59 [(ls (mulL [x0, x1] [y0, y1]) false false)])]) else none := by kernel_rfl
theorem u41_23 (ok B : Nat → List DV → Bool) (c nl c2 nl2 : Bool) (x0 x1 : Int) (y0 y1 y2 : Int) : pureE aeC2 (evB2 ok B) 30 41 Tryd.f41 [.sl [iD x0, iD x1] 2 1 c nl, .sl [iD y0, iD y1, iD y2] 3 1 c2 nl2] = bif ok 59 [(ls (mulL [x0, x1] [y0, y1, y2]) false false)] then some (.tup [(ls (mulL [x0, x1] [y0, y1, y2]) false false), bD (B 59 [(ls (mulL [x0, x1] [y0, y1, y2]) false false)])]) else none := by kernel_rfl
theorem u41_24 (ok B : Nat → List DV → Bool) (c nl c2 nl2 : Bool) (x0 x1 : Int) (y0 y1 y2 y3 : Int) : pureE aeC2 (evB2 ok B) 30 41 Tryd.f41 [.sl [iD x0, iD x1] 2 1 c nl, .sl [iD y0, iD y1, iD y2, iD y3] 4 1 c2 nl2] = bif ok 59 [(ls (mulL [x0, x1] [y0, y1, y2, y3]) false false)] then some (.tup [(ls (mulL [x0, x1] [y0, y1, y2, y3]) false false), bD (B 59 [(ls (mulL [x0, x1] [y0, y1, y2, y3]) false false)])]) else none := by kernel_rfl
theorem u41_25 (ok B : Nat → List DV → Bool) (c nl c2 nl2 : Bool) (x0 x1 : Int) (y0 y1 y2 y3 y4 : Int) : pureE aeC2 (evB2 ok B) 30 41 Tryd.f41 [.sl [iD x0, iD x1] 2 1 c nl, .sl [iD y0, iD y1, iD y2, iD y3, iD y4] 5 1 c2 nl2] = bif ok 59 [(ls (mulL [x0, x1] [y0, y1, y2, y3, y4]) false false)] then some (.tup [(ls (mulL [x0, x1] [y0, y1, y2, y3, y4]) false false), bD (B 59 [(ls (mulL [x0, x1] [y0, y1, y2, y3, y4]) false false)])]) else none := by kernel_rfl
theorem u41_26 (ok B : Nat → List DV → Bool) (c nl c2 nl2 : Bool) (x0 x1 : Int) (y0 y1 y2 y3 y4 y5 : Int) : pureE aeC2 (evB2 ok B) 30 41 Tryd.f41 [.sl [iD x0, iD x1] 2 1 c nl, .sl [iD y0, iD y1, iD y2, iD y3, iD y4, iD y5] 6 1 c2 nl2] = some (.tup [(ls (mulL [x0, x1] [y0, y1, y2, y3, y4, y5]) false false), bD false]) := by kernel_rfl
theorem u41_31 (ok B : Nat → List DV → Bool) (c nl c2 nl2 : Bool) (x0 x1 x2 : Int) (y0 : Int) : pureE aeC2 (evB2 ok B) 30 41 Tryd.f41 [.sl [iD x0, iD x1, iD x2] 3 1 c nl, .sl [iD y0] 1 1 c2 nl2] = bif ok 59 [(ls (mulL [x0, x1, x2] [y0]) false false)] then some (.tup [(ls (mulL [x0, x1, x2] [y0]) false false), bD (B 59 [(ls (mulL [x0, x1, x2] [y0]) false false)])]) else none := by kernel_rfl
theorem u41_32 (ok B : Nat → List DV → Bool) (c nl c2 nl2 : Bool) (x0 x1 x2 : Int) (y0 y1 : Int) : pureE aeC2 (evB2 ok B) 30 41 Tryd.f41 [.sl [iD x0, iD x1, iD x2] 3 1 c nl, .sl [iD y0, iD y1] 2 1 c2 nl2] = bif ok 59 [(ls (mulL [x0, x1, x2] [y0, y1]) false false)] then some (.tup [(ls (mulL [x0, x1, x2] [y0, y1]) false false), bD (B 59 [(ls (mulL [x0, x1, x2] [y0, y1]) false false)])]) else none := by kernel_rfl
theorem u41_33 (ok B : Nat → List DV → Bool) (c nl c2 nl2 : Bool) (x0 x1 x2 : Int) (y0 y1 y2 : Int) : pureE aeC2 (evB2 ok B) 30 41 Tryd.f41 [.sl [iD x0, iD x1, iD x2] 3 1 c nl, .sl [iD y0, iD y1, iD y2] 3 1 c2 nl2] = bif ok 59 [(ls (mulL [x0, x1, x2] [y0, y1, y2]) false false)] then some (.tup [(ls (mulL [x0, x1, x2] [y0, y1, y2]) false false), bD (B 59 [(ls (mulL [x0, x1, x2] [y0, y1, y2]) false false)])]) else none := by kernel_rfl
theorem u41_34 (ok B : Nat → List DV → Bool) (c nl c2 nl2 : Bool) (x0 x1 x2 : Int) (y0 y1 y2 y3 : Int) : pureE aeC2 (evB2 ok B) 30 41 Tryd.f41 [.sl [iD x0, iD x1, iD x2] 3 1 c nl, .sl [iD y0, iD y1, iD y2, iD y3] 4 1 c2 nl2] = bif ok 59 [(ls (mulL [x0, x1, x2] [y0, y1, y2, y3]) false false)] then some (.tup [(ls (mulL [x0, x1, x2] [y0, y1, y2, y3]) false false), bD (B 59 [(ls (mulL [x0, x1, x2] [y0, y1, y2, y3]) false false)])]) else none := by kernel_rfl
theorem u41_35 (ok B : Nat → List DV → Bool) (c nl c2 nl2 : Bool) (x0 x1 x2 : Int) (y0 y1 y2 y3 y4 : Int) : pureE aeC2 (evB2 ok B) 30 41 Tryd.f41 [.sl [iD x0, iD x1, iD x2] 3 1 c nl, .sl [iD y0, iD y1, iD y2, iD y3, iD y4] 5 1 c2 nl2] = some (.tup [(ls (mulL [x0, x1, x2] [y0, y1, y2, y3, y4]) false false), bD false]) := by kernel_rfl
theorem u41_36 (ok B : Nat → List DV → Bool) (c nl c2 nl2 : Bool) (x0 x1 x2 : Int) (y0 y1 y2 y3 y4 y5 : Int) : pureE aeC2 (evB2 ok B) 30 41 Tryd.f41 [.sl [iD x0, iD x1, iD x2] 3 1 c nl, .sl [iD y0, iD y1, iD y2, iD y3, iD y4, iD y5] 6 1 c2 nl2] = some (.tup [(ls (mulL [x0, x1, x2] [y0, y1, y2, y3, y4, y5]) false false), bD false]) := by kernel_rfl
theorem u41_41 (ok B : Nat → List DV → Bool) (c nl c2 nl2 : Bool) (x0 x1 x2 x3 : Int) (y0 : Int) : pureE aeC2 (evB2 ok B) 30 41 Tryd.f41 [.sl [iD x0, iD x1, iD x2, iD x3] 4 1 c nl, .sl [iD y0] 1 1 c2 nl2] = bif ok 59 [(ls (mulL [x0, x1, x2, x3] [y0]) false false)] then some (.tup [(ls (mulL [x0, x1, x2, x3] [y0]) false false), bD (B 59 [(ls (mulL [x0, x1, x2, x3] [y0]) false false)])]) else none := by kernel_rfl
theorem u41_42 (ok B : Nat → List DV → Bool) (c nl c2 nl2 : Bool) (x0 x1 x2 x3 : Int) (y0 y1 : Int) : pureE aeC2 (evB2 ok B) 30 41 Tryd.f41 [.sl [iD x0, iD x1, iD x2, iD x3] 4 1 c nl, .sl [iD y0, iD y1] 2 1 c2 nl2] = bif ok 59 [(ls (mulL [x0, x1, x2, x3] [y0, y1]) false false)] then some (.tup [(ls (mulL [x0, x1, x2, x3] [y0, y1]) false false), bD (B 59 [(ls (mulL [x0, x1, x2, x3] [y0, y1]) false false)])]) else none := by kernel_rfl
theorem u41_43 (ok B : Nat → List DV → Bool) (c nl c2 nl2 : Bool) (x0 x1 x2 x3 : Int) (y0 y1 y2 : Int) : pureE aeC2 (evB2 ok B) 30 41 Tryd.f41 [.sl [iD x0, iD x1, iD x2, iD x3] 4 1 c nl, .sl [iD y0, iD y1, iD y2] 3 1 c2 nl2] = bif ok 59 [(ls (mulL [x0, x1, x2, x3] [y0, y1, y2]) false false)] then some (.tup [(ls (mulL [x0, x1, x2, x3] [y0, y1, y2]) false false), bD (B 59 [(ls (mulL [x0, x1, x2, x3] [y0, y1, y2]) false false)])]) else none := by kernel_rfl
theorem u41_44 (ok B : Nat → List DV → Bool) (c nl c2 nl2 : Bool) (x0 x1 x2 x3 : Int) (y0 y1 y2 y3 : Int) : pureE aeC2 (evB2 ok B) 30 41 Tryd.f41 [.sl [iD x0, iD x1, iD x2, iD x3] 4 1 c nl, .sl [iD y0, iD y1, iD y2, iD y3] 4 1 c2 nl2] = some (.tup [(ls (mulL [x0, x1, x2, x3] [y0, y1, y2, y3]) false false), bD false]) := by kernel_rfl
theorem u41_45 (ok B : Nat → List DV → Bool) (c nl c2 nl2 : Bool) (x0 x1 x2 x3 : Int) (y0 y1 y2 y3 y4 : Int) : pureE aeC2 (evB2 ok B) 30 41 Tryd.f41 [.sl [iD x0, iD x1, iD x2, iD x3] 4 1 c nl, .sl [iD y0, iD y1, iD y2, iD y3, iD y4] 5 1 c2 nl2] = some (.tup [(ls (mulL [x0, x1, x2, x3] [y0, y1, y2, y3, y4]) false false), bD false]) := by kernel_rfl
theorem u41_46 (ok B : Nat → List DV → Bool) (c nl c2 nl2 : Bool) (x0 x1 x2 x3 : Int) (y0 y1 y2 y3 y4 y5 : Int) : pureE aeC2 (evB2 ok B) 30 41 Tryd.f41 [.sl [iD x0, iD x1, iD x2, iD x3] 4 1 c nl, .sl [iD y0, iD y1, iD y2, iD y3, iD y4, iD y5] 6 1 c2 nl2] = some (.tup [(ls (mulL [x0, x1, x2, x3] [y0, y1, y2, y3, y4, y5]) false false), bD false]) := by kernel_rfl
theorem u41_51 (ok B : Nat → List DV → Bool) (c nl c2 nl2 : Bool) (x0 x1 x2 x3 x4 : Int) (y0 : Int) : pureE aeC2 (evB2 ok B) 30 41 Tryd.f41 [.sl [iD x0, iD x1, iD x2, iD x3, iD x4] 5 1 c nl, .sl [iD y0] 1 1 c2 nl2] = bif ok 59 [(ls (mulL [x0, x1, x2, x3, x4] [y0]) false false)] then some (.tup [(ls (mulL [x0, x1, x2, x3, x4] [y0]) false false), bD (B 59 [(ls (mulL [x0, x1, x2, x3, x4] [y0]) false false)])]) else none := by kernel_rfl
theorem u41_52 (ok B : Nat → List DV → Bool) (c nl c2 nl2 : Bool) (x0 x1 x2 x3 x4 : Int) (y0 y1 : Int) : pureE aeC2 (evB2 ok B) 30 41 Tryd.f41 [.sl [iD x0, iD x1, iD x2, iD x3, iD x4] 5 1 c nl, .sl [iD y0, iD y1] 2 1 c2 nl2] = bif ok 59 [(ls (mulL [x0, x1, x2, x3, x4] [y0, y1]) false false)] then some (.tup [(ls (mulL [x0, x1, x2, x3, x4] [y0, y1]) false false), bD (B 59 [(ls (mulL [x0, x1, x2, x3, x4] [y0, y1]) false false)])]) else none := by kernel_rfl
theorem u41_53 (ok B : Nat → List DV → Bool) (c nl c2 nl2 : Bool) (x0 x1 x2 x3 x4 : Int) (y0 y1 y2 : Int) : pureE aeC2 (evB2 ok B) 30 41 Tryd.f41 [.sl [iD x0, iD x1, iD x2, iD x3, iD x4] 5 1 c nl, .sl [iD y0, iD y1, iD y2] 3 1 c2 nl2] = some (.tup [(ls (mulL [x0, x1, x2, x3, x4] [y0, y1, y2]) false false), bD false]) := by kernel_rfl
theorem u41_54 (ok B : Nat → List DV → Bool) (c nl c2 nl2 : Bool) (x0 x1 x2 x3 x4 : Int) (y0 y1 y2 y3 : Int) : pureE aeC2 (evB2 ok B) 30 41 Tryd.f41 [.sl [iD x0, iD x1, iD x2, iD x3, iD x4] 5 1 c nl, .sl [iD y0, iD y1, iD y2, iD y3] 4 1 c2 nl2] = some (.tup [(ls (mulL [x0, x1, x2, x3, x4] [y0, y1, y2, y3]) false false), bD false]) := by kernel_rfl
theorem u41_55 (ok B : Nat → List DV → Bool) (c nl c2 nl2 : Bool) (x0 x1 x2 x3 x4 : Int) (y0 y1 y2 y3 y4 : Int) : pureE aeC2 (evB2 ok B) 30 41 Tryd.f41 [.sl [iD x0, iD x1, iD x2, iD x3, iD x4] 5 1 c nl, .sl [iD y0, iD y1, iD y2, iD y3, iD y4] 5 1 c2 nl2] = some (.tup [(ls (mulL [x0, x1, x2, x3, x4] [y0, y1, y2, y3, y4]) false false), bD false]) := by kernel_rfl
theorem u41_56 (ok B : Nat → List DV → Bool) (c nl c2 nl2 : Bool) (x0 x1 x2 x3 x4 : Int) (y0 y1 y2 y3 y4 y5 : Int) : pureE aeC2 (evB2 ok B) 30 41 Tryd.f41 [.sl [iD x0, iD x1, iD x2, iD x3, iD x4] 5 1 c nl, .sl [iD y0, iD y1, iD y2, iD y3, iD y4, iD y5] 6 1 c2 nl2] = some (.tup [(ls (mulL [x0, x1, x2, x3, x4] [y0, y1, y2, y3, y4, y5]) false false), bD false]) := by kernel_rfl
theorem u41_61 (ok B : Nat → List DV → Bool) (c nl c2 nl2 : Bool) (x0 x1 x2 x3 x4 x5 : Int) (y0 : Int) : pureE aeC2 (evB2 ok B) 30 41 Tryd.f41 [.sl [iD x0, iD x1, iD x2, iD x3, iD x4, iD x5] 6 1 c nl, .sl [iD y0] 1 1 c2 nl2] = bif ok 59 [(ls (mulL [x0, x1, x2, x3, x4, x5] [y0]) false false)] then some (.tup [(ls (mulL [x0, x1, x2, x3, x4, x5] [y0]) false false), bD (B 59 [(ls (mulL [x0, x1, x2, x3, x4, x5] [y0]) false false)])]) else none := by kernel_rfl
theorem u41_62 (ok B : Nat → List DV → Bool) (c nl c2 nl2 : Bool) (x0 x1 x2 x3 x4 x5 : Int) (y0 y1 : Int) : pureE aeC2 (evB2 ok B) 30 41 Tryd.f41 [.sl [iD x0, iD x1, iD x2, iD x3, iD x4, iD x5] 6 1 c nl, .sl [iD y0, iD y1] 2 1 c2 nl2] = some (.tup [(ls (mulL [x0, x1, x2, x3, x4, x5] [y0, y1]) false false), bD false]) := by kernel_rfl
theorem u41_63 (ok B : Nat → List DV → Bool) (c nl c2 nl2 : Bool) (x0 x1 x2 x3 x4 x5 : Int) (y0 y1 y2 : Int) : pureE aeC2 (evB2 ok B) 30 41 Tryd.f41 [.sl [iD x0, iD x1, iD x2, iD x3, iD x4, iD x5] 6 1 c nl, .sl [iD y0, iD y1, iD y2] 3 1 c2 nl2] = some (.tup [(ls (mulL [x0, x1, x2, x3, x4, x5] [y0, y1, y2]) false false), bD false]) := by kernel_rfl
theorem u41_64 (ok B : Nat → List DV → Bool) (c nl c2 nl2 : Bool) (x0 x1 x2 x3 x4 x5 : Int) (y0 y1 y2 y3 : Int) : pureE aeC2 (evB2 ok B) 30 41 Tryd.f41 [.sl [iD x0, iD x1, iD x2, iD x3, iD x4, iD x5] 6 1 c nl, .sl [iD y0, iD y1, iD y2, iD y3] 4 1 c2 nl2] = some (.tup [(ls (mulL [x0, x1, x2, x3, x4, x5] [y0, y1, y2, y3]) false false), bD false]) := by kernel_rfl
theorem u41_65 (ok B : Nat → List DV → Bool) (c nl c2 nl2 : Bool) (x0 x1 x2 x3 x4 x5 : Int) (y0 y1 y2 y3 y4 : Int) : pureE aeC2 (evB2 ok B) 30 41 Tryd.f41 [.sl [iD x0, iD x1, iD x2, iD x3, iD x4, iD x5] 6 1 c nl, .sl [iD y0, iD y1, iD y2, iD y3, iD y4] 5 1 c2 nl2] = some (.tup [(ls (mulL [x0, x1, x2, x3, x4, x5] [y0, y1, y2, y3, y4]) false false), bD false]) := by kernel_rfl
theorem u41_66 (ok B : Nat → List DV → Bool) (c nl c2 nl2 : Bool) (x0 x1 x2 x3 x4 x5 : Int) (y0 y1 y2 y3 y4 y5 : Int) : pureE aeC2 (evB2 ok B) 30 41 Tryd.f41 [.sl [iD x0, iD x1, iD x2, iD x3, iD x4, iD x5] 6 1 c nl, .sl [iD y0, iD y1, iD y2, iD y3, iD y4, iD y5] 6 1 c2 nl2] = some (.tup [(ls (mulL [x0, x1, x2, x3, x4, x5] [y0, y1, y2, y3, y4, y5]) false false), bD false]) := by kernel_rfl
theorem c41 : ∀ (x y : List Int) (c nl c2 nl2 : Bool), 1 ≤ x.length → x.length ≤ 6 → 1 ≤ y.length → y.length ≤ 6 → PureOK Tryd.prog 41 [ls x c nl, ls y c2 nl2] (mulD x y)
  | [x0], [y0], c, nl, c2, nl2, _, _, _, _ => w41 (by simp) (u41_11 (okS (shB tB)) tB c nl c2 nl2 x0 y0)
  | [x0], [y0, y1], c, nl, c2, nl2, _, _, _, _ => w41 (by simp) (u41_12 (okS (shB tB)) tB c nl c2 nl2 x0 y0 y1)
  | [x0], [y0, y1, y2], c, nl, c2, nl2, _, _, _, _ => w41 (by simp) (u41_13 (okS (shB tB)) tB c nl c2 nl2 x0 y0 y1 y2)
  | [x0], [y0, y1, y2, y3], c, nl, c2, nl2, _, _, _, _ => w41 (by simp) (u41_14 (okS (shB tB)) tB c nl c2 nl2 x0 y0 y1 y2 y3)
  | [x0], [y0, y1, y2, y3, y4], c, nl, c2, nl2, _, _, _, _ => w41 (by simp) (u41_15 (okS (shB tB)) tB c nl c2 nl2 x0 y0 y1 y2 y3 y4)
  | [x0], [y0, y1, y2, y3, y4, y5], c, nl, c2, nl2, _, _, _, _ => w41 (by simp) (u41_16 (okS (shB tB)) tB c nl c2 nl2 x0 y0 y1 y2 y3 y4 y5)
  | [x0, x1], [y0], c, nl, c2, nl2, _, _, _, _ => w41 (by simp) (u41_21 (okS (shB tB)) tB c nl c2 nl2 x0 x1 y0)
  | [x0, x1], [y0, y1], c, nl, c2, nl2, _, _, _, _ => w41 (by simp) (u41_22 (okS (shB tB)) tB c nl c2 nl2 x0 x1 y0 y1)
  | [x0, x1], [y0, y1, y2], c, nl, c2, nl2, _, _, _, _ => w41 (by simp) (u41_23 (okS (shB tB)) tB c nl c2 nl2 x0 x1 y0 y1 y2)
  | [x0, x1], [y0, y1, y2, y3], c, nl, c2, nl2, _, _, _, _ => w41 (by simp) (u41_24 (okS (shB tB)) tB c nl c2 nl2 x0 x1 y0 y1 y2 y3)
  | [x0, x1], [y0, y1, y2, y3, y4], c, nl, c2, nl2, _, _, _, _ => w41 (by simp) (u41_25 (okS (shB tB)) tB c nl c2 nl2 x0 x1 y0 y1 y2 y3 y4)
  | [x0, x1], [y0, y1, y2, y3, y4, y5], c, nl, c2, nl2, _, _, _, _ => w41n (by simp) (u41_26 (okS (shB tB)) tB c nl c2 nl2 x0 x1 y0 y1 y2 y3 y4 y5)
  | [x0, x1, x2], [y0], c, nl, c2, nl2, _, _, _, _ => w41 (by simp) (u41_31 (okS (shB tB)) tB c nl c2 nl2 x0 x1 x2 y0)
  | [x0, x1, x2], [y0, y1], c, nl, c2, nl2, _, _, _, _ => w41 (by simp) (u41_32 (okS (shB tB)) tB c nl c2 nl2 x0 x1 x2 y0 y1)
  | [x0, x1, x2], [y0, y1, y2], c, nl, c2, nl2, _, _, _, _ => w41 (by simp) (u41_33 (okS (shB tB)) tB c nl c2 nl2 x0 x1 x2 y0 y1 y2)
  | [x0, x1, x2], [y0, y1, y2, y3], c, nl, c2, nl2, _, _, _, _ => w41 (by simp) (u41_34 (okS (shB tB)) tB c nl c2 nl2 x0 x1 x2 y0 y1 y2 y3)
  | [x0, x1, x2], [y0, y1, y2, y3, y4], c, nl, c2, nl2, _, _, _, _ => w41n (by simp) (u41_35 (okS (shB tB)) tB c nl c2 nl2 x0 x1 x2 y0 y1 y2 y3 y4)
  | [x0, x1, x2], [y0, y1, y2, y3, y4, y5], c, nl, c2, nl2, _, _, _, _ => w41n (by simp) (u41_36 (okS (shB tB)) tB c nl c2 nl2 x0 x1 x2 y0 y1 y2 y3 y4 y5)
  | [x0, x1, x2, x3], [y0], c, nl, c2, nl2, _, _, _, _ => w41 (by simp) (u41_41 (okS (shB tB)) tB c nl c2 nl2 x0 x1 x2 x3 y0)
  | [x0, x1, x2, x3], [y0, y1], c, nl, c2, nl2, _, _, _, _ => w41 (by simp) (u41_42 (okS (shB tB)) tB c nl c2 nl2 x0 x1 x2 x3 y0 y1)
  | [x0, x1, x2, x3], [y0, y1, y2], c, nl, c2, nl2, _, _, _, _ => w41 (by simp) (u41_43 (okS (shB tB)) tB c nl c2 nl2 x0 x1 x2 x3 y0 y1 y2)
  | [x0, x1, x2, x3], [y0, y1, y2, y3], c, nl, c2, nl2, _, _, _, _ => w41n (by simp) (u41_44 (okS (shB tB)) tB c nl c2 nl2 x0 x1 x2 x3 y0 y1 y2 y3)
  | [x0, x1, x2, x3], [y0, y1, y2, y3, y4], c, nl, c2, nl2, _, _, _, _ => w41n (by simp) (u41_45 (okS (shB tB)) tB c nl c2 nl2 x0 x1 x2 x3 y0 y1 y2 y3 y4)
  | [x0, x1, x2, x3], [y0, y1, y2, y3, y4, y5], c, nl, c2, nl2, _, _, _, _ => w41n (by simp) (u41_46 (okS (shB tB)) tB c nl c2 nl2 x0 x1 x2 x3 y0 y1 y2 y3 y4 y5)
  | [x0, x1, x2, x3, x4], [y0], c, nl, c2, nl2, _, _, _, _ => w41 (by simp) (u41_51 (okS (shB tB)) tB c nl c2 nl2 x0 x1 x2 x3 x4 y0)
  | [x0, x1, x2, x3, x4], [y0, y1], c, nl, c2, nl2, _, _, _, _ => w41 (by simp) (u41_52 (okS (shB tB)) tB c nl c2 nl2 x0 x1 x2 x3 x4 y0 y1)
  | [x0, x1, x2, x3, x4], [y0, y1, y2], c, nl, c2, nl2, _, _, _, _ => w41n (by simp) (u41_53 (okS (shB tB)) tB c nl c2 nl2 x0 x1 x2 x3 x4 y0 y1 y2)
  | [x0, x1, x2, x3, x4], [y0, y1, y2, y3], c, nl, c2, nl2, _, _, _, _ => w41n (by simp) (u41_54 (okS (shB tB)) tB c nl c2 nl2 x0 x1 x2 x3 x4 y0 y1 y2 y3)
  | [x0, x1, x2, x3, x4], [y0, y1, y2, y3, y4], c, nl, c2, nl2, _, _, _, _ => w41n (by simp) (u41_55 (okS (shB tB)) tB c nl c2 nl2 x0 x1 x2 x3 x4 y0 y1 y2 y3 y4)
  | [x0, x1, x2, x3, x4], [y0, y1, y2, y3, y4, y5], c, nl, c2, nl2, _, _, _, _ => w41n (by simp) (u41_56 (okS (shB tB)) tB c nl c2 nl2 x0 x1 x2 x3 x4 y0 y1 y2 y3 y4 y5)
  | [x0, x1, x2, x3, x4, x5], [y0], c, nl, c2, nl2, _, _, _, _ => w41 (by simp) (u41_61 (okS (shB tB)) tB c nl c2 nl2 x0 x1 x2 x3 x4 x5 y0)
  | [x0, x1, x2, x3, x4, x5], [y0, y1], c, nl, c2, nl2, _, _, _, _ => w41n (by simp) (u41_62 (okS (shB tB)) tB c nl c2 nl2 x0 x1 x2 x3 x4 x5 y0 y1)
  | [x0, x1, x2, x3, x4, x5], [y0, y1, y2], c, nl, c2, nl2, _, _, _, _ => w41n (by simp) (u41_63 (okS (shB tB)) tB c nl c2 nl2 x0 x1 x2 x3 x4 x5 y0 y1 y2)
  | [x0, x1, x2, x3, x4, x5], [y0, y1, y2, y3], c, nl, c2, nl2, _, _, _, _ => w41n (by simp) (u41_64 (okS (shB tB)) tB c nl c2 nl2 x0 x1 x2 x3 x4 x5 y0 y1 y2 y3)
  | [x0, x1, x2, x3, x4, x5], [y0, y1, y2, y3, y4], c, nl, c2, nl2, _, _, _, _ => w41n (by simp) (u41_65 (okS (shB tB)) tB c nl c2 nl2 x0 x1 x2 x3 x4 x5 y0 y1 y2 y3 y4)
  | [x0, x1, x2, x3, x4, x5], [y0, y1, y2, y3, y4, y5], c, nl, c2, nl2, _, _, _, _ => w41n (by simp) (u41_66 (okS (shB tB)) tB c nl c2 nl2 x0 x1 x2 x3 x4 x5 y0 y1 y2 y3 y4 y5)
  | [], _, _, _, _, _, h, _, _, _ => absurd h (by simp)
  | _, [], _, _, _, _, _, _, h, _ => absurd h (by simp)
  | _ :: _ :: _ :: _ :: _ :: _ :: _ :: _, _, _, _, _, _, _, h, _, _ => absurd h (by simp)
  | _, _ :: _ :: _ :: _ :: _ :: _ :: _ :: _, _, _, _, _, _, _, _, h => absurd h (by simp)
end Go.Proofs.YtiicbenhhdbnoaaDoor

/- Chapter 09: the product and the disc of the program and of the document. Written by wip/tools/genV1.py. -/
namespace Go.Proofs.YtiicbenhhdbnoaaDoor
open Go Go.AE
set_option maxRecDepth 100000
def hd1 (ds : List DV) : List Int := match ds with
  | [d] => unL d
  | _ => []
section
variable {a : List Int} {c nl : Bool}
end
def w1 (x : Int) : Int := IntKind.wrap .i64 (0 + IntKind.wrap .i64 (1 * x))
noncomputable def evA2 : Ev := ev2 (evT (okS noS) noS) [] [92]
theorem walkF2 {f : FuncId} {fn : Func} {xs : List AV} {h0 h' : List Blk} {v : AV} (h : tget aeF f = some fn) (e : bodyE aeC2 evA2 30 f fn xs h0 (fun v h' => some (v, h')) = some (v, h')) : CallOK Tryd.prog f xs h0 v h' := ae_directF2 (ev2_ok (evT_ok noS) _ _) 30 h e
end Go.Proofs.YtiicbenhhdbnoaaDoor

/- Chapter 09: bounds, their corners, and what is told of all within. Written by wip/tools/genB.py. -/
namespace Go.Proofs.YtiicbenhhdbnoaaDoor
open Go Go.AE
set_option maxRecDepth 100000
def leB : List Int → List Int → Bool
  | x :: r, y :: s => decide (x ≤ y) && leB r s
  | _, _ => true
def leC (good bad : Option DV) : List Int → List Int → Option DV
  | x :: r, y :: s => bif decide (y < x) then bad else leC good bad r s
  | _, _ => good
theorem leC_eq (g b : Option DV) : ∀ x y : List Int, leC g b x y = bif leB x y then g else b
  | [], _ => by cases ‹List Int› <;> rfl
  | _ :: _, [] => rfl
  | x :: r, y :: s => by
    simp only [leC, leB]
    by_cases h : y < x
    · rw [cnd_pos h, decide_eq_false (p := x ≤ y) (by omega)]; rfl
    · rw [cnd_neg h, decide_eq_true (p := x ≤ y) (by omega), leC_eq g b r s]; rfl
/-- What is wrong with bounds. -/
def boundsI (x y : List Int) : Int := if x.length ≠ y.length ∨ x.length < 1 ∨ 6 < x.length then 1 else bif (withinB x && withinB y) && (decide (0 < lastI x) && leB x y) then 0 else 90
theorem boundsI_bad {x y : List Int} (h : x.length ≠ y.length ∨ x.length < 1 ∨ 6 < x.length) : boundsI x y = 1 := if_pos h
theorem boundsI_len {x y : List Int} (h : ¬ (x.length ≠ y.length ∨ x.length < 1 ∨ 6 < x.length)) : boundsI x y = bif (withinB x && withinB y) && (decide (0 < lastI x) && leB x y) then 0 else 90 := if_neg h
theorem boundsI_0 {x y : List Int} (h : boundsI x y = 0) : x.length = y.length ∧ 1 ≤ x.length ∧ x.length ≤ 6 ∧ leB x y = true := by
  by_cases hb : x.length ≠ y.length ∨ x.length < 1 ∨ 6 < x.length
  · rw [boundsI_bad hb] at h; cases h
  · rw [boundsI_len hb] at h
    cases hl : leB x y with
    | true => exact ⟨by omega, by omega, by omega, rfl⟩
    | false => rw [hl] at h; simp at h
def two1 (ds : List DV) : List Int := match ds with
  | d :: _ => unL d
  | _ => []
def two2 (ds : List DV) : List Int := match ds with
  | _ :: d :: _ => unL d
  | _ => []
theorem two1_ls (l : List Int) (n : Nat) (c nl : Bool) (r : List DV) : two1 (.sl (ints l) n 1 c nl :: r) = l := unL_ints l n c nl
theorem two2_ls (l : List Int) (n : Nat) (c nl : Bool) (d : DV) (r : List DV) : two2 (d :: .sl (ints l) n 1 c nl :: r) = l := unL_ints l n c nl
def eQ (ds : List DV) : Int := boundsI (two1 ds) (two2 ds)
noncomputable def bQ (f : Nat) (ds : List DV) : Bool := cond (Nat.beq f 61 || Nat.beq f 29) (steadyW (two1 ds)) (withinB (two1 ds))
def shQ (E : List DV → Int) (B : Nat → List DV → Bool) (Q : DV) : Nat → List DV → DV := fun f ds => match f with
  | 24 => iD (E ds)
  | 21 => Q
  | 23 => Q
  | 25 => Q
  | _ => bD (B f ds)
noncomputable def evQ (ok : Nat → List DV → Bool) (E : List DV → Int) (B : Nat → List DV → Bool) (Q : DV) : Ev := evW [24, 62, 59, 61, 29, 21, 23, 25] ok (shQ E B Q)
noncomputable abbrev okQ (Q : DV) : Nat → List DV → Bool := okS (shQ eQ bQ Q)
section
variable {Q : DV} {a b : List Int} {c nl c2 nl2 : Bool}
theorem q62 (h : a.length ≤ 8) : okQ Q 62 [ls a c nl] = true := okS_is (by show PureOK Tryd.prog 62 [ls a c nl] (bD (withinB (two1 [ls a c nl]))); rw [two1_ls]; exact c62 a c nl h)
theorem q59 (h : a.length ≤ 8) : okQ Q 59 [ls a c nl] = true := okS_is (by show PureOK Tryd.prog 59 [ls a c nl] (bD (withinB (two1 [ls a c nl]))); rw [two1_ls]; exact c59 a c nl h)
theorem q61 (h1 : 1 ≤ a.length) (h : a.length ≤ 6) : okQ Q 61 [ls a c nl] = true := okS_is (by show PureOK Tryd.prog 61 [ls a c nl] (bD (steadyW (two1 [ls a c nl]))); rw [two1_ls]; exact c61 a c nl h1 h)
theorem q29 (h1 : 1 ≤ a.length) (h : a.length ≤ 6) : okQ Q 29 [ls a c nl] = true := okS_is (by show PureOK Tryd.prog 29 [ls a c nl] (bD (steadyW (two1 [ls a c nl]))); rw [two1_ls]; exact c29 a c nl h1 h)
theorem bq62 : bQ 62 [ls a c nl] = withinB a := by show withinB (two1 _) = _; rw [two1_ls]
theorem bq59 : bQ 59 [ls a c nl] = withinB a := by show withinB (two1 _) = _; rw [two1_ls]
theorem bq61 : bQ 61 [ls a c nl] = steadyW a := by show steadyW (two1 _) = _; rw [two1_ls]
theorem bq29 : bQ 29 [ls a c nl] = steadyW a := by show steadyW (two1 _) = _; rw [two1_ls]
theorem eQ_ls : eQ [ls a c nl, ls b c2 nl2] = boundsI a b := by unfold eQ; rw [two1_ls, two2_ls]
theorem walkQ {Q : DV} {f : FuncId} {fn : Func} {ds : List DV} {d : DV} (h : tget aeF f = some fn) (e : pureE aeC (evQ (okQ Q) eQ bQ Q) 30 f fn ds = some d) : PureOK Tryd.prog f ds d := walk h e
end
/-! ### What is wrong with bounds -/
def R24 (ok : Nat → List DV → Bool) (B : Nat → List DV → Bool) (X Y : DV) (u : Int) (x y : List Int) : Option DV :=
  bif ok 62 [X] then (bif !B 62 [X] then some (iD 90) else bif ok 62 [Y] then (bif !B 62 [Y] then some (iD 90) else bif decide (u ≤ 0) then some (iD 90) else leC (some (iD 0)) (some (iD 90)) x y) else none) else none
def R20 (ok : Nat → List DV → Bool) (B : Nat → List DV → Bool) (X Y : DV) (u : Int) (x y : List Int) : Option DV :=
  leC (bif ok 59 [X] then (bif !B 59 [X] then some (iD 90) else bif ok 59 [Y] then (bif !B 59 [Y] then some (iD 90) else bif decide (u ≤ 0) then some (iD 90) else some (iD 0)) else none) else none) (some (iD 90)) x y
theorem k24 : OkSeg Tryd.f24 none [0] := ⟨by kernel_rfl, by kernel_rfl, by decide⟩
theorem k20 : OkSeg Tryd.f20 none [0] := ⟨by kernel_rfl, by kernel_rfl, by decide⟩
theorem d24 (ok : Nat → List DV → Bool) (E : List DV → Int) (B : Nat → List DV → Bool) (Q : DV) (X Y : List DV) (n m : Nat) (c z c2 z2 : Bool) : ∃ r, startS aeC (evQ ok E B Q) 24 0 Tryd.f24 none ⟨envOf 0 [.d (.sl X n 1 c z), .d (.sl Y m 1 c2 z2)], [], []⟩ (doneE aeC Tryd.f24 0 fun v h => freezeV h 4 v) =
    (bif !decide ((n : Int) = (m : Int)) then some (iD 1) else bif decide ((n : Int) < 1) then some (iD 1) else bif decide (6 < (n : Int)) then some (iD 1) else r) :=
  ⟨bif ok 62 [DV.sl X n 1 c z] then (bif !B 62 [DV.sl X n 1 c z] then some (iD 90) else bif ok 62 [DV.sl Y m 1 c2 z2] then (bif !B 62 [DV.sl Y m 1 c2 z2] then some (iD 90) else
    bif inRange (IntKind.wrap IntKind.i64 ((n : Int) - 1)) n then (getI (nth X (Int.toNat (IntKind.wrap IntKind.i64 ((n : Int) - 1)) * 1)) fun x0 => bif decide (x0 ≤ 0) then some (iD 90) else none) else none) else none) else none, by kernel_rfl⟩
theorem d20 (ok : Nat → List DV → Bool) (E : List DV → Int) (B : Nat → List DV → Bool) (Q : DV) (X Y : List DV) (n m : Nat) (c z c2 z2 : Bool) : startS aeC (evQ ok E B Q) 20 0 Tryd.f20 none ⟨envOf 0 [.d (.sl X n 1 c z), .d (.sl Y m 1 c2 z2)], [], []⟩ (doneE aeC Tryd.f20 0 fun v h => freezeV h 4 v) =
    (bif decide ((n : Int) < 1) then some (iD 1) else bif decide (6 < (n : Int)) then some (iD 1) else bif decide ((m : Int) < 1) then some (iD 1) else bif decide (6 < (m : Int)) then some (iD 1) else bif !decide ((n : Int) = (m : Int)) then some (iD 1) else none) := by kernel_rfl
theorem bad24 {x y : List Int} {c z c2 z2 : Bool} (h : x.length ≠ y.length ∨ x.length < 1 ∨ 6 < x.length) : PureOK Tryd.prog 24 [ls x c z, ls y c2 z2] (iD 1) := by
  obtain ⟨r, hr⟩ := d24 (okQ .nilp) eQ bQ .nilp (ints x) (ints y) x.length y.length c z c2 z2
  refine ae_pure (evW_ok _ _) (fn := Tryd.f24) k24 (by kernel_rfl) (by kernel_rfl) (startF_done k24 done_plain (hr.trans ?_))
  by_cases h0 : x.length = y.length
  · rw [decide_eq_true (p := ((x.length : Int) = (y.length : Int))) (by omega)]
    by_cases h1 : x.length < 1
    · exact cnd_pos (by omega)
    · exact (cnd_neg (by omega)).trans (cnd_pos (by omega))
  · rw [decide_eq_false (p := ((x.length : Int) = (y.length : Int))) (by omega)]; rfl
theorem bad20 {x y : List Int} {c z c2 z2 : Bool} (h : x.length ≠ y.length ∨ x.length < 1 ∨ 6 < x.length) : PureOK Tryd.prog 20 [ls x c z, ls y c2 z2] (iD 1) := by
  refine ae_pure (evW_ok _ _) (fn := Tryd.f20) k20 (by kernel_rfl) (by kernel_rfl) (startF_done k20 done_plain ((d20 (okQ .nilp) eQ bQ .nilp (ints x) (ints y) x.length y.length c z c2 z2).trans ?_))
  by_cases h1 : x.length < 1
  · exact cnd_pos (by omega)
  · refine (cnd_neg (by omega)).trans ?_
    by_cases h2 : 6 < x.length
    · exact cnd_pos (by omega)
    · refine (cnd_neg (by omega)).trans ?_
      by_cases h3 : y.length < 1
      · exact cnd_pos (by omega)
      · refine (cnd_neg (by omega)).trans ?_
        by_cases h4 : 6 < y.length
        · exact cnd_pos (by omega)
        · refine (cnd_neg (by omega)).trans ?_
          rw [decide_eq_false (p := ((x.length : Int) = (y.length : Int))) (by omega)]; rfl

theorem u24_1 (ok : Nat → List DV → Bool) (E : List DV → Int) (B : Nat → List DV → Bool) (Q : DV) (c z c2 z2 : Bool) (x0 y0 : Int) : pureE aeC (evQ ok E B Q) 30 24 Tryd.f24 [ls [x0] c z, ls [y0] c2 z2] = R24 ok B (ls [x0] c z) (ls [y0] c2 z2) x0 [x0] [y0] := by kernel_rfl
theorem u20_1 (ok : Nat → List DV → Bool) (E : List DV → Int) (B : Nat → List DV → Bool) (Q : DV) (c z c2 z2 : Bool) (x0 y0 : Int) : pureE aeC (evQ ok E B Q) 30 20 Tryd.f20 [ls [x0] c z, ls [y0] c2 z2] = R20 ok B (ls [x0] c z) (ls [y0] c2 z2) x0 [x0] [y0] := by kernel_rfl
theorem u24_2 (ok : Nat → List DV → Bool) (E : List DV → Int) (B : Nat → List DV → Bool) (Q : DV) (c z c2 z2 : Bool) (x0 x1 y0 y1 : Int) : pureE aeC (evQ ok E B Q) 30 24 Tryd.f24 [ls [x0, x1] c z, ls [y0, y1] c2 z2] = R24 ok B (ls [x0, x1] c z) (ls [y0, y1] c2 z2) x1 [x0, x1] [y0, y1] := by kernel_rfl
theorem u20_2 (ok : Nat → List DV → Bool) (E : List DV → Int) (B : Nat → List DV → Bool) (Q : DV) (c z c2 z2 : Bool) (x0 x1 y0 y1 : Int) : pureE aeC (evQ ok E B Q) 30 20 Tryd.f20 [ls [x0, x1] c z, ls [y0, y1] c2 z2] = R20 ok B (ls [x0, x1] c z) (ls [y0, y1] c2 z2) x1 [x0, x1] [y0, y1] := by kernel_rfl
theorem u24_3 (ok : Nat → List DV → Bool) (E : List DV → Int) (B : Nat → List DV → Bool) (Q : DV) (c z c2 z2 : Bool) (x0 x1 x2 y0 y1 y2 : Int) : pureE aeC (evQ ok E B Q) 30 24 Tryd.f24 [ls [x0, x1, x2] c z, ls [y0, y1, y2] c2 z2] = R24 ok B (ls [x0, x1, x2] c z) (ls [y0, y1, y2] c2 z2) x2 [x0, x1, x2] [y0, y1, y2] := by kernel_rfl
theorem u20_3 (ok : Nat → List DV → Bool) (E : List DV → Int) (B : Nat → List DV → Bool) (Q : DV) (c z c2 z2 : Bool) (x0 x1 x2 y0 y1 y2 : Int) : pureE aeC (evQ ok E B Q) 30 20 Tryd.f20 [ls [x0, x1, x2] c z, ls [y0, y1, y2] c2 z2] = R20 ok B (ls [x0, x1, x2] c z) (ls [y0, y1, y2] c2 z2) x2 [x0, x1, x2] [y0, y1, y2] := by kernel_rfl
theorem u24_4 (ok : Nat → List DV → Bool) (E : List DV → Int) (B : Nat → List DV → Bool) (Q : DV) (c z c2 z2 : Bool) (x0 x1 x2 x3 y0 y1 y2 y3 : Int) : pureE aeC (evQ ok E B Q) 30 24 Tryd.f24 [ls [x0, x1, x2, x3] c z, ls [y0, y1, y2, y3] c2 z2] = R24 ok B (ls [x0, x1, x2, x3] c z) (ls [y0, y1, y2, y3] c2 z2) x3 [x0, x1, x2, x3] [y0, y1, y2, y3] := by kernel_rfl
theorem u20_4 (ok : Nat → List DV → Bool) (E : List DV → Int) (B : Nat → List DV → Bool) (Q : DV) (c z c2 z2 : Bool) (x0 x1 x2 x3 y0 y1 y2 y3 : Int) : pureE aeC (evQ ok E B Q) 30 20 Tryd.f20 [ls [x0, x1, x2, x3] c z, ls [y0, y1, y2, y3] c2 z2] = R20 ok B (ls [x0, x1, x2, x3] c z) (ls [y0, y1, y2, y3] c2 z2) x3 [x0, x1, x2, x3] [y0, y1, y2, y3] := by kernel_rfl
theorem u24_5 (ok : Nat → List DV → Bool) (E : List DV → Int) (B : Nat → List DV → Bool) (Q : DV) (c z c2 z2 : Bool) (x0 x1 x2 x3 x4 y0 y1 y2 y3 y4 : Int) : pureE aeC (evQ ok E B Q) 30 24 Tryd.f24 [ls [x0, x1, x2, x3, x4] c z, ls [y0, y1, y2, y3, y4] c2 z2] = R24 ok B (ls [x0, x1, x2, x3, x4] c z) (ls [y0, y1, y2, y3, y4] c2 z2) x4 [x0, x1, x2, x3, x4] [y0, y1, y2, y3, y4] := by kernel_rfl
theorem u20_5 (ok : Nat → List DV → Bool) (E : List DV → Int) (B : Nat → List DV → Bool) (Q : DV) (c z c2 z2 : Bool) (x0 x1 x2 x3 x4 y0 y1 y2 y3 y4 : Int) : pureE aeC (evQ ok E B Q) 30 20 Tryd.f20 [ls [x0, x1, x2, x3, x4] c z, ls [y0, y1, y2, y3, y4] c2 z2] = R20 ok B (ls [x0, x1, x2, x3, x4] c z) (ls [y0, y1, y2, y3, y4] c2 z2) x4 [x0, x1, x2, x3, x4] [y0, y1, y2, y3, y4] := by kernel_rfl
theorem u24_6 (ok : Nat → List DV → Bool) (E : List DV → Int) (B : Nat → List DV → Bool) (Q : DV) (c z c2 z2 : Bool) (x0 x1 x2 x3 x4 x5 y0 y1 y2 y3 y4 y5 : Int) : pureE aeC (evQ ok E B Q) 30 24 Tryd.f24 [ls [x0, x1, x2, x3, x4, x5] c z, ls [y0, y1, y2, y3, y4, y5] c2 z2] = R24 ok B (ls [x0, x1, x2, x3, x4, x5] c z) (ls [y0, y1, y2, y3, y4, y5] c2 z2) x5 [x0, x1, x2, x3, x4, x5] [y0, y1, y2, y3, y4, y5] := by kernel_rfl
theorem u20_6 (ok : Nat → List DV → Bool) (E : List DV → Int) (B : Nat → List DV → Bool) (Q : DV) (c z c2 z2 : Bool) (x0 x1 x2 x3 x4 x5 y0 y1 y2 y3 y4 y5 : Int) : pureE aeC (evQ ok E B Q) 30 20 Tryd.f20 [ls [x0, x1, x2, x3, x4, x5] c z, ls [y0, y1, y2, y3, y4, y5] c2 z2] = R20 ok B (ls [x0, x1, x2, x3, x4, x5] c z) (ls [y0, y1, y2, y3, y4, y5] c2 z2) x5 [x0, x1, x2, x3, x4, x5] [y0, y1, y2, y3, y4, y5] := by kernel_rfl
theorem v24 (ok : Nat → List DV → Bool) (E : List DV → Int) (B : Nat → List DV → Bool) (Q : DV) (c z c2 z2 : Bool) : ∀ x y : List Int, x.length = y.length → 1 ≤ x.length → x.length ≤ 6 → pureE aeC (evQ ok E B Q) 30 24 Tryd.f24 [ls x c z, ls y c2 z2] = R24 ok B (ls x c z) (ls y c2 z2) (lastI x) x y
  | [x0], [y0], _, _, _ => u24_1 ok E B Q c z c2 z2 x0 y0
  | [x0, x1], [y0, y1], _, _, _ => u24_2 ok E B Q c z c2 z2 x0 x1 y0 y1
  | [x0, x1, x2], [y0, y1, y2], _, _, _ => u24_3 ok E B Q c z c2 z2 x0 x1 x2 y0 y1 y2
  | [x0, x1, x2, x3], [y0, y1, y2, y3], _, _, _ => u24_4 ok E B Q c z c2 z2 x0 x1 x2 x3 y0 y1 y2 y3
  | [x0, x1, x2, x3, x4], [y0, y1, y2, y3, y4], _, _, _ => u24_5 ok E B Q c z c2 z2 x0 x1 x2 x3 x4 y0 y1 y2 y3 y4
  | [x0, x1, x2, x3, x4, x5], [y0, y1, y2, y3, y4, y5], _, _, _ => u24_6 ok E B Q c z c2 z2 x0 x1 x2 x3 x4 x5 y0 y1 y2 y3 y4 y5
  | [], _, _, h1, _ => absurd h1 (by simp)
  | _ :: _ :: _ :: _ :: _ :: _ :: _ :: _, _, _, _, h => absurd h (by simp)
  | [_], [], h, _, _ => by simp at h
  | [_], _ :: _ :: _, h, _, _ => by simp at h
  | [_, _], [], h, _, _ => by simp at h
  | [_, _], [_], h, _, _ => by simp at h
  | [_, _], _ :: _ :: _ :: _, h, _, _ => by simp at h
  | [_, _, _], [], h, _, _ => by simp at h
  | [_, _, _], [_], h, _, _ => by simp at h
  | [_, _, _], [_, _], h, _, _ => by simp at h
  | [_, _, _], _ :: _ :: _ :: _ :: _, h, _, _ => by simp at h
  | [_, _, _, _], [], h, _, _ => by simp at h
  | [_, _, _, _], [_], h, _, _ => by simp at h
  | [_, _, _, _], [_, _], h, _, _ => by simp at h
  | [_, _, _, _], [_, _, _], h, _, _ => by simp at h
  | [_, _, _, _], _ :: _ :: _ :: _ :: _ :: _, h, _, _ => by simp at h
  | [_, _, _, _, _], [], h, _, _ => by simp at h
  | [_, _, _, _, _], [_], h, _, _ => by simp at h
  | [_, _, _, _, _], [_, _], h, _, _ => by simp at h
  | [_, _, _, _, _], [_, _, _], h, _, _ => by simp at h
  | [_, _, _, _, _], [_, _, _, _], h, _, _ => by simp at h
  | [_, _, _, _, _], _ :: _ :: _ :: _ :: _ :: _ :: _, h, _, _ => by simp at h
  | [_, _, _, _, _, _], [], h, _, _ => by simp at h
  | [_, _, _, _, _, _], [_], h, _, _ => by simp at h
  | [_, _, _, _, _, _], [_, _], h, _, _ => by simp at h
  | [_, _, _, _, _, _], [_, _, _], h, _, _ => by simp at h
  | [_, _, _, _, _, _], [_, _, _, _], h, _, _ => by simp at h
  | [_, _, _, _, _, _], [_, _, _, _, _], h, _, _ => by simp at h
  | [_, _, _, _, _, _], _ :: _ :: _ :: _ :: _ :: _ :: _ :: _, h, _, _ => by simp at h
theorem v20 (ok : Nat → List DV → Bool) (E : List DV → Int) (B : Nat → List DV → Bool) (Q : DV) (c z c2 z2 : Bool) : ∀ x y : List Int, x.length = y.length → 1 ≤ x.length → x.length ≤ 6 → pureE aeC (evQ ok E B Q) 30 20 Tryd.f20 [ls x c z, ls y c2 z2] = R20 ok B (ls x c z) (ls y c2 z2) (lastI x) x y
  | [x0], [y0], _, _, _ => u20_1 ok E B Q c z c2 z2 x0 y0
  | [x0, x1], [y0, y1], _, _, _ => u20_2 ok E B Q c z c2 z2 x0 x1 y0 y1
  | [x0, x1, x2], [y0, y1, y2], _, _, _ => u20_3 ok E B Q c z c2 z2 x0 x1 x2 y0 y1 y2
  | [x0, x1, x2, x3], [y0, y1, y2, y3], _, _, _ => u20_4 ok E B Q c z c2 z2 x0 x1 x2 x3 y0 y1 y2 y3
  | [x0, x1, x2, x3, x4], [y0, y1, y2, y3, y4], _, _, _ => u20_5 ok E B Q c z c2 z2 x0 x1 x2 x3 x4 y0 y1 y2 y3 y4
  | [x0, x1, x2, x3, x4, x5], [y0, y1, y2, y3, y4, y5], _, _, _ => u20_6 ok E B Q c z c2 z2 x0 x1 x2 x3 x4 x5 y0 y1 y2 y3 y4 y5
  | [], _, _, h1, _ => absurd h1 (by simp)
  | _ :: _ :: _ :: _ :: _ :: _ :: _ :: _, _, _, _, h => absurd h (by simp)
  | [_], [], h, _, _ => by simp at h
  | [_], _ :: _ :: _, h, _, _ => by simp at h
  | [_, _], [], h, _, _ => by simp at h
  | [_, _], [_], h, _, _ => by simp at h
  | [_, _], _ :: _ :: _ :: _, h, _, _ => by simp at h
  | [_, _, _], [], h, _, _ => by simp at h
  | [_, _, _], [_], h, _, _ => by simp at h
  | [_, _, _], [_, _], h, _, _ => by simp at h
  | [_, _, _], _ :: _ :: _ :: _ :: _, h, _, _ => by simp at h
  | [_, _, _, _], [], h, _, _ => by simp at h
  | [_, _, _, _], [_], h, _, _ => by simp at h
  | [_, _, _, _], [_, _], h, _, _ => by simp at h
  | [_, _, _, _], [_, _, _], h, _, _ => by simp at h
  | [_, _, _, _], _ :: _ :: _ :: _ :: _ :: _, h, _, _ => by simp at h
  | [_, _, _, _, _], [], h, _, _ => by simp at h
  | [_, _, _, _, _], [_], h, _, _ => by simp at h
  | [_, _, _, _, _], [_, _], h, _, _ => by simp at h
  | [_, _, _, _, _], [_, _, _], h, _, _ => by simp at h
  | [_, _, _, _, _], [_, _, _, _], h, _, _ => by simp at h
  | [_, _, _, _, _], _ :: _ :: _ :: _ :: _ :: _ :: _, h, _, _ => by simp at h
  | [_, _, _, _, _, _], [], h, _, _ => by simp at h
  | [_, _, _, _, _, _], [_], h, _, _ => by simp at h
  | [_, _, _, _, _, _], [_, _], h, _, _ => by simp at h
  | [_, _, _, _, _, _], [_, _, _], h, _, _ => by simp at h
  | [_, _, _, _, _, _], [_, _, _, _], h, _, _ => by simp at h
  | [_, _, _, _, _, _], [_, _, _, _, _], h, _, _ => by simp at h
  | [_, _, _, _, _, _], _ :: _ :: _ :: _ :: _ :: _ :: _ :: _, h, _, _ => by simp at h
theorem le0 {u : Int} {R : Type} {a b : R} : (bif decide (u ≤ 0) then a else b) = bif decide (0 < u) then b else a := by
  by_cases h : u ≤ 0
  · rw [decide_eq_true h, decide_eq_false (p := 0 < u) (by omega)]; rfl
  · rw [decide_eq_false h, decide_eq_true (p := 0 < u) (by omega)]; rfl
theorem c24 (x y : List Int) (c z c2 z2 : Bool) : PureOK Tryd.prog 24 [ls x c z, ls y c2 z2] (iD (boundsI x y)) := by
  by_cases hb : x.length ≠ y.length ∨ x.length < 1 ∨ 6 < x.length
  · rw [boundsI_bad hb]; exact bad24 hb
  · refine walkQ (Q := .nilp) (by kernel_rfl : tget aeF 24 = some Tryd.f24) ((v24 _ _ _ _ c z c2 z2 x y (by omega) (by omega) (by omega)).trans ?_)
    rw [boundsI_len hb]
    unfold R24
    rw [q62 (by omega), q62 (by omega), bq62, bq62, leC_eq, le0]
    cases withinB x <;> cases withinB y <;> cases decide (0 < lastI x) <;> cases leB x y <;> rfl
theorem c20 (x y : List Int) (c z c2 z2 : Bool) : PureOK Tryd.prog 20 [ls x c z, ls y c2 z2] (iD (boundsI x y)) := by
  by_cases hb : x.length ≠ y.length ∨ x.length < 1 ∨ 6 < x.length
  · rw [boundsI_bad hb]; exact bad20 hb
  · refine walkQ (Q := .nilp) (by kernel_rfl : tget aeF 20 = some Tryd.f20) ((v20 _ _ _ _ c z c2 z2 x y (by omega) (by omega) (by omega)).trans ?_)
    rw [boundsI_len hb]
    unfold R20
    rw [q59 (by omega), q59 (by omega), bq59, bq59, leC_eq, le0]
    cases withinB x <;> cases withinB y <;> cases decide (0 < lastI x) <;> cases leB x y <;> rfl
/-! ### Corners -/
def pickL : List Bool → List Int → List Int → List Int
  | b :: p, x :: r, y :: s => (bif b then x else y) :: pickL p r s
  | _, _, _ => []
def pat : Nat → List Bool
  | 0 => [true, true, false, false, true, true]
  | 1 => [false, false, true, true, false, false]
  | 2 => [true, false, false, true, true, false]
  | _ => [false, true, true, false, false, true]
def corn (k : Nat) (x y : List Int) : List Int := pickL (pat k) x y
theorem pickL_len : ∀ (p : List Bool) (x y : List Int), x.length = y.length → x.length ≤ p.length → (pickL p x y).length = x.length
  | _, [], y, _, _ => by cases y <;> cases ‹List Bool› <;> rfl
  | [], _ :: _, _, _, h => absurd h (by simp)
  | _ :: _, _ :: _, [], h, _ => by simp at h
  | b :: p, x :: r, y :: s, h, h2 => by
    simp only [pickL, List.length_cons]
    rw [pickL_len p r s (by simpa using h) (by simpa using h2)]
theorem corn_len (k : Nat) {x y : List Int} (h : x.length = y.length) (h6 : x.length ≤ 6) : (corn k x y).length = x.length := pickL_len _ _ _ h (by unfold pat; split <;> simpa using h6)
abbrev z0 : DV := .sl [] 0 0 false true
def cs4 (x y : List Int) : DV := .agg [ls (corn 0 x y) false false, ls (corn 1 x y) false false, ls (corn 2 x y) false false, ls (corn 3 x y) false false]
def R21 (ok : Nat → List DV → Bool) (E : List DV → Int) (X Y cs : DV) : Option DV := bif ok 24 [X, Y] then (bif !decide (E [X, Y] = 0) then some (.tup [.agg [z0, z0, z0, z0], iD (E [X, Y])]) else some (.tup [cs, iD 0])) else none
theorem k21 : OkSeg Tryd.f21 none [0] := ⟨by kernel_rfl, by kernel_rfl, by decide⟩
theorem d21 (ok : Nat → List DV → Bool) (E : List DV → Int) (B : Nat → List DV → Bool) (Q : DV) (X Y : List DV) (n m : Nat) (c z c2 z2 : Bool) : startS aeC (evQ ok E B Q) 21 0 Tryd.f21 none ⟨envOf 0 [.d (.sl X n 1 c z), .d (.sl Y m 1 c2 z2)], [], []⟩ (doneE aeC Tryd.f21 0 fun v h => freezeV h 4 v) =
    bif ok 24 [.sl X n 1 c z, .sl Y m 1 c2 z2] then (bif !decide (E [.sl X n 1 c z, .sl Y m 1 c2 z2] = 0) then some (.tup [.agg [z0, z0, z0, z0], iD (E [.sl X n 1 c z, .sl Y m 1 c2 z2])]) else none) else none := by kernel_rfl
theorem u21_1 (ok : Nat → List DV → Bool) (E : List DV → Int) (B : Nat → List DV → Bool) (Q : DV) (c z c2 z2 : Bool) (x0 y0 : Int) : pureE aeC (evQ ok E B Q) 30 21 Tryd.f21 [ls [x0] c z, ls [y0] c2 z2] = R21 ok E (ls [x0] c z) (ls [y0] c2 z2) (cs4 [x0] [y0]) := by kernel_rfl
theorem u25_1 (ok : Nat → List DV → Bool) (E : List DV → Int) (B : Nat → List DV → Bool) (Q : DV) (c z c2 z2 : Bool) (x0 y0 : Int) : pureE aeC (evQ ok E B Q) 30 25 Tryd.f25 [ls [x0] c z, ls [y0] c2 z2] = some (cs4 [x0] [y0]) := by kernel_rfl
theorem u21_2 (ok : Nat → List DV → Bool) (E : List DV → Int) (B : Nat → List DV → Bool) (Q : DV) (c z c2 z2 : Bool) (x0 x1 y0 y1 : Int) : pureE aeC (evQ ok E B Q) 30 21 Tryd.f21 [ls [x0, x1] c z, ls [y0, y1] c2 z2] = R21 ok E (ls [x0, x1] c z) (ls [y0, y1] c2 z2) (cs4 [x0, x1] [y0, y1]) := by kernel_rfl
theorem u25_2 (ok : Nat → List DV → Bool) (E : List DV → Int) (B : Nat → List DV → Bool) (Q : DV) (c z c2 z2 : Bool) (x0 x1 y0 y1 : Int) : pureE aeC (evQ ok E B Q) 30 25 Tryd.f25 [ls [x0, x1] c z, ls [y0, y1] c2 z2] = some (cs4 [x0, x1] [y0, y1]) := by kernel_rfl
theorem u21_3 (ok : Nat → List DV → Bool) (E : List DV → Int) (B : Nat → List DV → Bool) (Q : DV) (c z c2 z2 : Bool) (x0 x1 x2 y0 y1 y2 : Int) : pureE aeC (evQ ok E B Q) 30 21 Tryd.f21 [ls [x0, x1, x2] c z, ls [y0, y1, y2] c2 z2] = R21 ok E (ls [x0, x1, x2] c z) (ls [y0, y1, y2] c2 z2) (cs4 [x0, x1, x2] [y0, y1, y2]) := by kernel_rfl
theorem u25_3 (ok : Nat → List DV → Bool) (E : List DV → Int) (B : Nat → List DV → Bool) (Q : DV) (c z c2 z2 : Bool) (x0 x1 x2 y0 y1 y2 : Int) : pureE aeC (evQ ok E B Q) 30 25 Tryd.f25 [ls [x0, x1, x2] c z, ls [y0, y1, y2] c2 z2] = some (cs4 [x0, x1, x2] [y0, y1, y2]) := by kernel_rfl
theorem u21_4 (ok : Nat → List DV → Bool) (E : List DV → Int) (B : Nat → List DV → Bool) (Q : DV) (c z c2 z2 : Bool) (x0 x1 x2 x3 y0 y1 y2 y3 : Int) : pureE aeC (evQ ok E B Q) 30 21 Tryd.f21 [ls [x0, x1, x2, x3] c z, ls [y0, y1, y2, y3] c2 z2] = R21 ok E (ls [x0, x1, x2, x3] c z) (ls [y0, y1, y2, y3] c2 z2) (cs4 [x0, x1, x2, x3] [y0, y1, y2, y3]) := by kernel_rfl
theorem u25_4 (ok : Nat → List DV → Bool) (E : List DV → Int) (B : Nat → List DV → Bool) (Q : DV) (c z c2 z2 : Bool) (x0 x1 x2 x3 y0 y1 y2 y3 : Int) : pureE aeC (evQ ok E B Q) 30 25 Tryd.f25 [ls [x0, x1, x2, x3] c z, ls [y0, y1, y2, y3] c2 z2] = some (cs4 [x0, x1, x2, x3] [y0, y1, y2, y3]) := by kernel_rfl
theorem u21_5 (ok : Nat → List DV → Bool) (E : List DV → Int) (B : Nat → List DV → Bool) (Q : DV) (c z c2 z2 : Bool) (x0 x1 x2 x3 x4 y0 y1 y2 y3 y4 : Int) : pureE aeC (evQ ok E B Q) 30 21 Tryd.f21 [ls [x0, x1, x2, x3, x4] c z, ls [y0, y1, y2, y3, y4] c2 z2] = R21 ok E (ls [x0, x1, x2, x3, x4] c z) (ls [y0, y1, y2, y3, y4] c2 z2) (cs4 [x0, x1, x2, x3, x4] [y0, y1, y2, y3, y4]) := by kernel_rfl
theorem u25_5 (ok : Nat → List DV → Bool) (E : List DV → Int) (B : Nat → List DV → Bool) (Q : DV) (c z c2 z2 : Bool) (x0 x1 x2 x3 x4 y0 y1 y2 y3 y4 : Int) : pureE aeC (evQ ok E B Q) 30 25 Tryd.f25 [ls [x0, x1, x2, x3, x4] c z, ls [y0, y1, y2, y3, y4] c2 z2] = some (cs4 [x0, x1, x2, x3, x4] [y0, y1, y2, y3, y4]) := by kernel_rfl
theorem u21_6 (ok : Nat → List DV → Bool) (E : List DV → Int) (B : Nat → List DV → Bool) (Q : DV) (c z c2 z2 : Bool) (x0 x1 x2 x3 x4 x5 y0 y1 y2 y3 y4 y5 : Int) : pureE aeC (evQ ok E B Q) 30 21 Tryd.f21 [ls [x0, x1, x2, x3, x4, x5] c z, ls [y0, y1, y2, y3, y4, y5] c2 z2] = R21 ok E (ls [x0, x1, x2, x3, x4, x5] c z) (ls [y0, y1, y2, y3, y4, y5] c2 z2) (cs4 [x0, x1, x2, x3, x4, x5] [y0, y1, y2, y3, y4, y5]) := by kernel_rfl
theorem u25_6 (ok : Nat → List DV → Bool) (E : List DV → Int) (B : Nat → List DV → Bool) (Q : DV) (c z c2 z2 : Bool) (x0 x1 x2 x3 x4 x5 y0 y1 y2 y3 y4 y5 : Int) : pureE aeC (evQ ok E B Q) 30 25 Tryd.f25 [ls [x0, x1, x2, x3, x4, x5] c z, ls [y0, y1, y2, y3, y4, y5] c2 z2] = some (cs4 [x0, x1, x2, x3, x4, x5] [y0, y1, y2, y3, y4, y5]) := by kernel_rfl
theorem v21 (ok : Nat → List DV → Bool) (E : List DV → Int) (B : Nat → List DV → Bool) (Q : DV) (c z c2 z2 : Bool) : ∀ x y : List Int, x.length = y.length → 1 ≤ x.length → x.length ≤ 6 → pureE aeC (evQ ok E B Q) 30 21 Tryd.f21 [ls x c z, ls y c2 z2] = R21 ok E (ls x c z) (ls y c2 z2) (cs4 x y)
  | [x0], [y0], _, _, _ => u21_1 ok E B Q c z c2 z2 x0 y0
  | [x0, x1], [y0, y1], _, _, _ => u21_2 ok E B Q c z c2 z2 x0 x1 y0 y1
  | [x0, x1, x2], [y0, y1, y2], _, _, _ => u21_3 ok E B Q c z c2 z2 x0 x1 x2 y0 y1 y2
  | [x0, x1, x2, x3], [y0, y1, y2, y3], _, _, _ => u21_4 ok E B Q c z c2 z2 x0 x1 x2 x3 y0 y1 y2 y3
  | [x0, x1, x2, x3, x4], [y0, y1, y2, y3, y4], _, _, _ => u21_5 ok E B Q c z c2 z2 x0 x1 x2 x3 x4 y0 y1 y2 y3 y4
  | [x0, x1, x2, x3, x4, x5], [y0, y1, y2, y3, y4, y5], _, _, _ => u21_6 ok E B Q c z c2 z2 x0 x1 x2 x3 x4 x5 y0 y1 y2 y3 y4 y5
  | [], _, _, h1, _ => absurd h1 (by simp)
  | _ :: _ :: _ :: _ :: _ :: _ :: _ :: _, _, _, _, h => absurd h (by simp)
  | [_], [], h, _, _ => by simp at h
  | [_], _ :: _ :: _, h, _, _ => by simp at h
  | [_, _], [], h, _, _ => by simp at h
  | [_, _], [_], h, _, _ => by simp at h
  | [_, _], _ :: _ :: _ :: _, h, _, _ => by simp at h
  | [_, _, _], [], h, _, _ => by simp at h
  | [_, _, _], [_], h, _, _ => by simp at h
  | [_, _, _], [_, _], h, _, _ => by simp at h
  | [_, _, _], _ :: _ :: _ :: _ :: _, h, _, _ => by simp at h
  | [_, _, _, _], [], h, _, _ => by simp at h
  | [_, _, _, _], [_], h, _, _ => by simp at h
  | [_, _, _, _], [_, _], h, _, _ => by simp at h
  | [_, _, _, _], [_, _, _], h, _, _ => by simp at h
  | [_, _, _, _], _ :: _ :: _ :: _ :: _ :: _, h, _, _ => by simp at h
  | [_, _, _, _, _], [], h, _, _ => by simp at h
  | [_, _, _, _, _], [_], h, _, _ => by simp at h
  | [_, _, _, _, _], [_, _], h, _, _ => by simp at h
  | [_, _, _, _, _], [_, _, _], h, _, _ => by simp at h
  | [_, _, _, _, _], [_, _, _, _], h, _, _ => by simp at h
  | [_, _, _, _, _], _ :: _ :: _ :: _ :: _ :: _ :: _, h, _, _ => by simp at h
  | [_, _, _, _, _, _], [], h, _, _ => by simp at h
  | [_, _, _, _, _, _], [_], h, _, _ => by simp at h
  | [_, _, _, _, _, _], [_, _], h, _, _ => by simp at h
  | [_, _, _, _, _, _], [_, _, _], h, _, _ => by simp at h
  | [_, _, _, _, _, _], [_, _, _, _], h, _, _ => by simp at h
  | [_, _, _, _, _, _], [_, _, _, _, _], h, _, _ => by simp at h
  | [_, _, _, _, _, _], _ :: _ :: _ :: _ :: _ :: _ :: _ :: _, h, _, _ => by simp at h
theorem v25 (ok : Nat → List DV → Bool) (E : List DV → Int) (B : Nat → List DV → Bool) (Q : DV) (c z c2 z2 : Bool) : ∀ x y : List Int, x.length = y.length → 1 ≤ x.length → x.length ≤ 6 → pureE aeC (evQ ok E B Q) 30 25 Tryd.f25 [ls x c z, ls y c2 z2] = some (cs4 x y)
  | [x0], [y0], _, _, _ => u25_1 ok E B Q c z c2 z2 x0 y0
  | [x0, x1], [y0, y1], _, _, _ => u25_2 ok E B Q c z c2 z2 x0 x1 y0 y1
  | [x0, x1, x2], [y0, y1, y2], _, _, _ => u25_3 ok E B Q c z c2 z2 x0 x1 x2 y0 y1 y2
  | [x0, x1, x2, x3], [y0, y1, y2, y3], _, _, _ => u25_4 ok E B Q c z c2 z2 x0 x1 x2 x3 y0 y1 y2 y3
  | [x0, x1, x2, x3, x4], [y0, y1, y2, y3, y4], _, _, _ => u25_5 ok E B Q c z c2 z2 x0 x1 x2 x3 x4 y0 y1 y2 y3 y4
  | [x0, x1, x2, x3, x4, x5], [y0, y1, y2, y3, y4, y5], _, _, _ => u25_6 ok E B Q c z c2 z2 x0 x1 x2 x3 x4 x5 y0 y1 y2 y3 y4 y5
  | [], _, _, h1, _ => absurd h1 (by simp)
  | _ :: _ :: _ :: _ :: _ :: _ :: _ :: _, _, _, _, h => absurd h (by simp)
  | [_], [], h, _, _ => by simp at h
  | [_], _ :: _ :: _, h, _, _ => by simp at h
  | [_, _], [], h, _, _ => by simp at h
  | [_, _], [_], h, _, _ => by simp at h
  | [_, _], _ :: _ :: _ :: _, h, _, _ => by simp at h
  | [_, _, _], [], h, _, _ => by simp at h
  | [_, _, _], [_], h, _, _ => by simp at h
  | [_, _, _], [_, _], h, _, _ => by simp at h
  | [_, _, _], _ :: _ :: _ :: _ :: _, h, _, _ => by simp at h
  | [_, _, _, _], [], h, _, _ => by simp at h
  | [_, _, _, _], [_], h, _, _ => by simp at h
  | [_, _, _, _], [_, _], h, _, _ => by simp at h
  | [_, _, _, _], [_, _, _], h, _, _ => by simp at h
  | [_, _, _, _], _ :: _ :: _ :: _ :: _ :: _, h, _, _ => by simp at h
  | [_, _, _, _, _], [], h, _, _ => by simp at h
  | [_, _, _, _, _], [_], h, _, _ => by simp at h
  | [_, _, _, _, _], [_, _], h, _, _ => by simp at h
  | [_, _, _, _, _], [_, _, _], h, _, _ => by simp at h
  | [_, _, _, _, _], [_, _, _, _], h, _, _ => by simp at h
  | [_, _, _, _, _], _ :: _ :: _ :: _ :: _ :: _ :: _, h, _, _ => by simp at h
  | [_, _, _, _, _, _], [], h, _, _ => by simp at h
  | [_, _, _, _, _, _], [_], h, _, _ => by simp at h
  | [_, _, _, _, _, _], [_, _], h, _, _ => by simp at h
  | [_, _, _, _, _, _], [_, _, _], h, _, _ => by simp at h
  | [_, _, _, _, _, _], [_, _, _, _], h, _, _ => by simp at h
  | [_, _, _, _, _, _], [_, _, _, _, _], h, _, _ => by simp at h
  | [_, _, _, _, _, _], _ :: _ :: _ :: _ :: _ :: _ :: _ :: _, h, _, _ => by simp at h
theorem q24 {Q : DV} {x y : List Int} {c z c2 z2 : Bool} : okQ Q 24 [ls x c z, ls y c2 z2] = true := okS_is (by show PureOK Tryd.prog 24 [ls x c z, ls y c2 z2] (iD (eQ [ls x c z, ls y c2 z2])); rw [eQ_ls]; exact c24 x y c z c2 z2)
theorem c21 (x y : List Int) (c z c2 z2 : Bool) (h : boundsI x y = 0) : PureOK Tryd.prog 21 [ls x c z, ls y c2 z2] (.tup [cs4 x y, iD 0]) := by
  obtain ⟨h1, h2, h3, _⟩ := boundsI_0 h
  refine walkQ (Q := .nilp) (by kernel_rfl : tget aeF 21 = some Tryd.f21) ((v21 _ _ _ _ c z c2 z2 x y h1 h2 h3).trans ?_)
  unfold R21
  rw [q24, eQ_ls, h]
  rfl
theorem c21n (x y : List Int) (c z c2 z2 : Bool) (h : boundsI x y ≠ 0) : PureOK Tryd.prog 21 [ls x c z, ls y c2 z2] (.tup [.agg [z0, z0, z0, z0], iD (boundsI x y)]) := by
  refine ae_pure (evW_ok _ _) (fn := Tryd.f21) k21 (by kernel_rfl) (by kernel_rfl) (startF_done k21 done_plain ((d21 (okQ .nilp) eQ bQ .nilp (ints x) (ints y) x.length y.length c z c2 z2).trans ?_))
  rw [q24, eQ_ls, decide_eq_false h]
  rfl
theorem c25 (x y : List Int) (c z c2 z2 : Bool) (h : boundsI x y = 0) : PureOK Tryd.prog 25 [ls x c z, ls y c2 z2] (cs4 x y) := by
  obtain ⟨h1, h2, h3, _⟩ := boundsI_0 h
  exact walkQ (Q := .nilp) (by kernel_rfl : tget aeF 25 = some Tryd.f25) (v25 _ _ _ _ c z c2 z2 x y h1 h2 h3)
/-! ### All within, and what is not -/
noncomputable def allB (x y : List Int) : Bool := steadyW (corn 0 x y) && (steadyW (corn 1 x y) && (steadyW (corn 2 x y) && steadyW (corn 3 x y)))
/-- Which corner is the first that is not. -/
noncomputable def faultK (x y : List Int) : Nat := bif !steadyW (corn 0 x y) then 0 else bif !steadyW (corn 1 x y) then 1 else bif !steadyW (corn 2 x y) then 2 else 3
noncomputable def faultD (x y : List Int) : DV := bif allB x y then .tup [z0, bD false, iD 0] else .tup [ls (corn (faultK x y) x y) false false, bD true, iD 0]
theorem faultK_not {x y : List Int} (h : allB x y = false) : steadyW (corn (faultK x y) x y) = false := by
  unfold allB at h
  unfold faultK
  cases h0 : steadyW (corn 0 x y) with
  | false => exact h0
  | true =>
    cases h1 : steadyW (corn 1 x y) with
    | false => exact h1
    | true =>
      cases h2 : steadyW (corn 2 x y) with
      | false => exact h2
      | true => rw [h0, h1, h2] at h; simpa using h
theorem u23 (ok : Nat → List DV → Bool) (E : List DV → Int) (B : Nat → List DV → Bool) (A0 A1 A2 A3 : List DV) (n0 n1 n2 n3 : Nat) (X Y : DV) : pureE aeC (evQ ok E B (.tup [.agg [.sl A0 n0 1 false false, .sl A1 n1 1 false false, .sl A2 n2 1 false false, .sl A3 n3 1 false false], iD 0])) 30 23 Tryd.f23 [X, Y] =
  bif ok 21 [X, Y] then (bif ok 61 [.sl A0 n0 1 false false] then (bif !B 61 [.sl A0 n0 1 false false] then some (.tup [.sl A0 n0 1 false false, bD true, iD 0]) else
    bif ok 61 [.sl A1 n1 1 false false] then (bif !B 61 [.sl A1 n1 1 false false] then some (.tup [.sl A1 n1 1 false false, bD true, iD 0]) else
    bif ok 61 [.sl A2 n2 1 false false] then (bif !B 61 [.sl A2 n2 1 false false] then some (.tup [.sl A2 n2 1 false false, bD true, iD 0]) else
    bif ok 61 [.sl A3 n3 1 false false] then (bif !B 61 [.sl A3 n3 1 false false] then some (.tup [.sl A3 n3 1 false false, bD true, iD 0]) else some (.tup [z0, bD false, iD 0]))
    else none) else none) else none) else none) else none := by kernel_rfl
theorem u23n (ok : Nat → List DV → Bool) (E : List DV → Int) (B : Nat → List DV → Bool) (e : Int) (X Y : DV) : startS aeC (evQ ok E B (.tup [.agg [z0, z0, z0, z0], iD e])) 23 0 Tryd.f23 none ⟨envOf 0 [.d X, .d Y], [], []⟩ (doneE aeC Tryd.f23 0 fun v h => freezeV h 4 v) =
  bif ok 21 [X, Y] then (bif !decide (e = 0) then some (.tup [z0, bD false, iD e]) else none) else none := by kernel_rfl
theorem k23 : OkSeg Tryd.f23 none [0] := ⟨by kernel_rfl, by kernel_rfl, by decide⟩
theorem c23 (x y : List Int) (c z c2 z2 : Bool) (h : boundsI x y = 0) : PureOK Tryd.prog 23 [ls x c z, ls y c2 z2] (faultD x y) := by
  obtain ⟨h1, h2, h3, _⟩ := boundsI_0 h
  have hl := fun k => corn_len k h1 h3
  have g21 : okQ (.tup [cs4 x y, iD 0]) 21 [ls x c z, ls y c2 z2] = true := okS_is (c21 x y c z c2 z2 h)
  refine walkQ (Q := .tup [cs4 x y, iD 0]) (by kernel_rfl : tget aeF 23 = some Tryd.f23) ((u23 _ _ _ _ _ _ _ _ _ _ _ _ _).trans ?_)
  rw [g21, q61 (a := corn 0 x y) (by rw [hl]; exact h2) (by rw [hl]; exact h3), q61 (a := corn 1 x y) (by rw [hl]; exact h2) (by rw [hl]; exact h3), q61 (a := corn 2 x y) (by rw [hl]; exact h2) (by rw [hl]; exact h3), q61 (a := corn 3 x y) (by rw [hl]; exact h2) (by rw [hl]; exact h3), bq61, bq61, bq61, bq61]
  unfold faultD allB faultK
  cases steadyW (corn 0 x y) <;> cases steadyW (corn 1 x y) <;> cases steadyW (corn 2 x y) <;> cases steadyW (corn 3 x y) <;> rfl
theorem c23n (x y : List Int) (c z c2 z2 : Bool) (h : boundsI x y ≠ 0) : PureOK Tryd.prog 23 [ls x c z, ls y c2 z2] (.tup [z0, bD false, iD (boundsI x y)]) := by
  have g21 : okQ (.tup [.agg [z0, z0, z0, z0], iD (boundsI x y)]) 21 [ls x c z, ls y c2 z2] = true := okS_is (c21n x y c z c2 z2 h)
  refine ae_pure (evW_ok _ _) (fn := Tryd.f23) k23 (by kernel_rfl) (by kernel_rfl) (startF_done k23 done_plain ((u23n (okQ (.tup [.agg [z0, z0, z0, z0], iD (boundsI x y)])) eQ bQ (boundsI x y) (ls x c z) (ls y c2 z2)).trans ?_))
  rw [g21, decide_eq_false h]
  rfl
theorem u22 (ok : Nat → List DV → Bool) (E : List DV → Int) (B : Nat → List DV → Bool) (A0 : List DV) (n s : Nat) (c nl : Bool) (b : Bool) (e : Int) (X Y : DV) : pureE aeC (evQ ok E B (.tup [.sl A0 n s c nl, bD b, iD e])) 30 22 Tryd.f22 [X, Y] =
  bif ok 23 [X, Y] then (bif nl || Nat.beq s 1 then (bif !b then some (.tup [bD (decide (e = 0)), iD e]) else some (.tup [bD false, iD e])) else none) else none := by kernel_rfl
theorem c22 (x y : List Int) (c z c2 z2 : Bool) (h : boundsI x y = 0) : PureOK Tryd.prog 22 [ls x c z, ls y c2 z2] (.tup [bD (allB x y), iD 0]) := by
  have h23 := c23 x y c z c2 z2 h
  unfold faultD at h23
  cases ha : allB x y with
  | true =>
    rw [ha] at h23
    have g : okQ (.tup [z0, bD false, iD 0]) 23 [ls x c z, ls y c2 z2] = true := okS_is h23
    exact walkQ (by kernel_rfl : tget aeF 22 = some Tryd.f22) ((u22 _ _ _ _ _ _ _ _ _ _ _ _).trans (by rw [g]; rfl))
  | false =>
    rw [ha] at h23
    have g : okQ (.tup [ls (corn (faultK x y) x y) false false, bD true, iD 0]) 23 [ls x c z, ls y c2 z2] = true := okS_is h23
    exact walkQ (by kernel_rfl : tget aeF 22 = some Tryd.f22) ((u22 _ _ _ _ _ _ _ _ _ _ _ _).trans (by rw [g]; rfl))
theorem c22n (x y : List Int) (c z c2 z2 : Bool) (h : boundsI x y ≠ 0) : PureOK Tryd.prog 22 [ls x c z, ls y c2 z2] (.tup [bD false, iD (boundsI x y)]) := by
  have g : okQ (.tup [z0, bD false, iD (boundsI x y)]) 23 [ls x c z, ls y c2 z2] = true := okS_is (c23n x y c z c2 z2 h)
  exact walkQ (by kernel_rfl : tget aeF 22 = some Tryd.f22) ((u22 _ _ _ _ _ _ _ _ _ _ _ _).trans (by rw [g, decide_eq_false h]; rfl))
theorem u27 (ok : Nat → List DV → Bool) (E : List DV → Int) (B : Nat → List DV → Bool) (A0 A1 A2 A3 : List DV) (n0 n1 n2 n3 : Nat) (X Y : DV) : pureE aeC (evQ ok E B (.agg [.sl A0 n0 1 false false, .sl A1 n1 1 false false, .sl A2 n2 1 false false, .sl A3 n3 1 false false])) 30 27 Tryd.f27 [X, Y] =
  bif ok 25 [X, Y] then (bif ok 29 [.sl A0 n0 1 false false] then (bif B 29 [.sl A0 n0 1 false false] then
    (bif ok 29 [.sl A1 n1 1 false false] then (bif B 29 [.sl A1 n1 1 false false] then
    (bif ok 29 [.sl A2 n2 1 false false] then (bif B 29 [.sl A2 n2 1 false false] then
    (bif ok 29 [.sl A3 n3 1 false false] then some (bD (B 29 [.sl A3 n3 1 false false])) else none)
    else some (bD false)) else none) else some (bD false)) else none) else some (bD false)) else none) else none := by kernel_rfl
theorem c27 (x y : List Int) (c z c2 z2 : Bool) (h : boundsI x y = 0) : PureOK Tryd.prog 27 [ls x c z, ls y c2 z2] (bD (allB x y)) := by
  obtain ⟨h1, h2, h3, _⟩ := boundsI_0 h
  have hl := fun k => corn_len k h1 h3
  have g25 : okQ (cs4 x y) 25 [ls x c z, ls y c2 z2] = true := okS_is (c25 x y c z c2 z2 h)
  refine walkQ (Q := cs4 x y) (by kernel_rfl : tget aeF 27 = some Tryd.f27) ((u27 _ _ _ _ _ _ _ _ _ _ _ _ _).trans ?_)
  rw [g25, q29 (a := corn 0 x y) (by rw [hl]; exact h2) (by rw [hl]; exact h3), q29 (a := corn 1 x y) (by rw [hl]; exact h2) (by rw [hl]; exact h3), q29 (a := corn 2 x y) (by rw [hl]; exact h2) (by rw [hl]; exact h3), q29 (a := corn 3 x y) (by rw [hl]; exact h2) (by rw [hl]; exact h3), bq29, bq29, bq29, bq29]
  unfold allB
  cases steadyW (corn 0 x y) <;> cases steadyW (corn 1 x y) <;> cases steadyW (corn 2 x y) <;> cases steadyW (corn 3 x y) <;> rfl
/-! ### Within -/
def wiC : List Int → List Int → List Int → Option DV
  | x :: r, y :: s, p :: q => bif decide (p < x) then some (bD false) else bif decide (y < p) then some (bD false) else wiC r s q
  | _, _, _ => some (bD true)
theorem wiC_pick : ∀ (p : List Bool) (x y : List Int), leB x y = true → wiC x y (pickL p x y) = some (bD true)
  | _, [], y, _ => by cases y <;> cases ‹List Bool› <;> rfl
  | _, _ :: _, [], _ => by cases ‹List Bool› <;> rfl
  | [], _ :: _, _ :: _, _ => rfl
  | b :: p, x :: r, y :: s, h => by
    simp only [leB, Bool.and_eq_true, decide_eq_true_eq] at h
    simp only [pickL, wiC]
    cases b with
    | true => exact (cnd_neg (by show ¬ x < x; omega)).trans ((cnd_neg (by show ¬ y < x; omega)).trans (wiC_pick p r s h.2))
    | false => exact (cnd_neg (by show ¬ y < x; omega)).trans ((cnd_neg (by show ¬ y < y; omega)).trans (wiC_pick p r s h.2))
theorem u28_1 (ok : Nat → List DV → Bool) (E : List DV → Int) (B : Nat → List DV → Bool) (Q : DV) (c z c2 z2 : Bool) (x0 y0 p0 : Int) : pureE aeC (evQ ok E B Q) 30 28 Tryd.f28 [ls [x0] c z, ls [y0] c2 z2, ls [p0] false false] = wiC [x0] [y0] [p0] := by kernel_rfl
theorem u28_2 (ok : Nat → List DV → Bool) (E : List DV → Int) (B : Nat → List DV → Bool) (Q : DV) (c z c2 z2 : Bool) (x0 x1 y0 y1 p0 p1 : Int) : pureE aeC (evQ ok E B Q) 30 28 Tryd.f28 [ls [x0, x1] c z, ls [y0, y1] c2 z2, ls [p0, p1] false false] = wiC [x0, x1] [y0, y1] [p0, p1] := by kernel_rfl
theorem u28_3 (ok : Nat → List DV → Bool) (E : List DV → Int) (B : Nat → List DV → Bool) (Q : DV) (c z c2 z2 : Bool) (x0 x1 x2 y0 y1 y2 p0 p1 p2 : Int) : pureE aeC (evQ ok E B Q) 30 28 Tryd.f28 [ls [x0, x1, x2] c z, ls [y0, y1, y2] c2 z2, ls [p0, p1, p2] false false] = wiC [x0, x1, x2] [y0, y1, y2] [p0, p1, p2] := by kernel_rfl
theorem u28_4 (ok : Nat → List DV → Bool) (E : List DV → Int) (B : Nat → List DV → Bool) (Q : DV) (c z c2 z2 : Bool) (x0 x1 x2 x3 y0 y1 y2 y3 p0 p1 p2 p3 : Int) : pureE aeC (evQ ok E B Q) 30 28 Tryd.f28 [ls [x0, x1, x2, x3] c z, ls [y0, y1, y2, y3] c2 z2, ls [p0, p1, p2, p3] false false] = wiC [x0, x1, x2, x3] [y0, y1, y2, y3] [p0, p1, p2, p3] := by kernel_rfl
theorem u28_5 (ok : Nat → List DV → Bool) (E : List DV → Int) (B : Nat → List DV → Bool) (Q : DV) (c z c2 z2 : Bool) (x0 x1 x2 x3 x4 y0 y1 y2 y3 y4 p0 p1 p2 p3 p4 : Int) : pureE aeC (evQ ok E B Q) 30 28 Tryd.f28 [ls [x0, x1, x2, x3, x4] c z, ls [y0, y1, y2, y3, y4] c2 z2, ls [p0, p1, p2, p3, p4] false false] = wiC [x0, x1, x2, x3, x4] [y0, y1, y2, y3, y4] [p0, p1, p2, p3, p4] := by kernel_rfl
theorem u28_6 (ok : Nat → List DV → Bool) (E : List DV → Int) (B : Nat → List DV → Bool) (Q : DV) (c z c2 z2 : Bool) (x0 x1 x2 x3 x4 x5 y0 y1 y2 y3 y4 y5 p0 p1 p2 p3 p4 p5 : Int) : pureE aeC (evQ ok E B Q) 30 28 Tryd.f28 [ls [x0, x1, x2, x3, x4, x5] c z, ls [y0, y1, y2, y3, y4, y5] c2 z2, ls [p0, p1, p2, p3, p4, p5] false false] = wiC [x0, x1, x2, x3, x4, x5] [y0, y1, y2, y3, y4, y5] [p0, p1, p2, p3, p4, p5] := by kernel_rfl
theorem v28 (ok : Nat → List DV → Bool) (E : List DV → Int) (B : Nat → List DV → Bool) (Q : DV) (c z c2 z2 : Bool) : ∀ x y p : List Int, x.length = y.length → p.length = x.length → 1 ≤ x.length → x.length ≤ 6 → pureE aeC (evQ ok E B Q) 30 28 Tryd.f28 [ls x c z, ls y c2 z2, ls p false false] = wiC x y p := by
  intro x y p h1 h2 h3 h4
  have all : ∀ (n : Nat) (l : List Int), l.length = n → n ≤ 6 → 1 ≤ n → (∃ a, l = [a]) ∨ (∃ a b, l = [a, b]) ∨ (∃ a b c, l = [a, b, c]) ∨ (∃ a b c d, l = [a, b, c, d]) ∨ (∃ a b c d e, l = [a, b, c, d, e]) ∨ (∃ a b c d e f, l = [a, b, c, d, e, f]) := by
    intro n l h1 h2 h3
    match l with
    | [] => simp at h1; omega
    | [a] => exact .inl ⟨a, rfl⟩
    | [a, b] => exact .inr (.inl ⟨a, b, rfl⟩)
    | [a, b, c] => exact .inr (.inr (.inl ⟨a, b, c, rfl⟩))
    | [a, b, c, d] => exact .inr (.inr (.inr (.inl ⟨a, b, c, d, rfl⟩)))
    | [a, b, c, d, e] => exact .inr (.inr (.inr (.inr (.inl ⟨a, b, c, d, e, rfl⟩))))
    | [a, b, c, d, e, f] => exact .inr (.inr (.inr (.inr (.inr ⟨a, b, c, d, e, f, rfl⟩))))
    | _ :: _ :: _ :: _ :: _ :: _ :: _ :: _ => simp at h1; omega
  have hx := all _ x rfl h4 h3
  have hy := all _ y h1.symm h4 h3
  have hp := all _ p h2 h4 h3
  rcases hx with ⟨x0, rfl⟩ | ⟨x0, x1, rfl⟩ | ⟨x0, x1, x2, rfl⟩ | ⟨x0, x1, x2, x3, rfl⟩ | ⟨x0, x1, x2, x3, x4, rfl⟩ | ⟨x0, x1, x2, x3, x4, x5, rfl⟩
  · rcases hy with ⟨y0, rfl⟩ | ⟨y0, y1, rfl⟩ | ⟨y0, y1, y2, rfl⟩ | ⟨y0, y1, y2, y3, rfl⟩ | ⟨y0, y1, y2, y3, y4, rfl⟩ | ⟨y0, y1, y2, y3, y4, y5, rfl⟩ <;> first | (simp at h1; done) | skip
    rcases hp with ⟨p0, rfl⟩ | ⟨p0, p1, rfl⟩ | ⟨p0, p1, p2, rfl⟩ | ⟨p0, p1, p2, p3, rfl⟩ | ⟨p0, p1, p2, p3, p4, rfl⟩ | ⟨p0, p1, p2, p3, p4, p5, rfl⟩ <;> first | (simp at h2; done) | skip
    exact u28_1 ok E B Q c z c2 z2 x0 y0 p0
  · rcases hy with ⟨y0, rfl⟩ | ⟨y0, y1, rfl⟩ | ⟨y0, y1, y2, rfl⟩ | ⟨y0, y1, y2, y3, rfl⟩ | ⟨y0, y1, y2, y3, y4, rfl⟩ | ⟨y0, y1, y2, y3, y4, y5, rfl⟩ <;> first | (simp at h1; done) | skip
    rcases hp with ⟨p0, rfl⟩ | ⟨p0, p1, rfl⟩ | ⟨p0, p1, p2, rfl⟩ | ⟨p0, p1, p2, p3, rfl⟩ | ⟨p0, p1, p2, p3, p4, rfl⟩ | ⟨p0, p1, p2, p3, p4, p5, rfl⟩ <;> first | (simp at h2; done) | skip
    exact u28_2 ok E B Q c z c2 z2 x0 x1 y0 y1 p0 p1
  · rcases hy with ⟨y0, rfl⟩ | ⟨y0, y1, rfl⟩ | ⟨y0, y1, y2, rfl⟩ | ⟨y0, y1, y2, y3, rfl⟩ | ⟨y0, y1, y2, y3, y4, rfl⟩ | ⟨y0, y1, y2, y3, y4, y5, rfl⟩ <;> first | (simp at h1; done) | skip
    rcases hp with ⟨p0, rfl⟩ | ⟨p0, p1, rfl⟩ | ⟨p0, p1, p2, rfl⟩ | ⟨p0, p1, p2, p3, rfl⟩ | ⟨p0, p1, p2, p3, p4, rfl⟩ | ⟨p0, p1, p2, p3, p4, p5, rfl⟩ <;> first | (simp at h2; done) | skip
    exact u28_3 ok E B Q c z c2 z2 x0 x1 x2 y0 y1 y2 p0 p1 p2
  · rcases hy with ⟨y0, rfl⟩ | ⟨y0, y1, rfl⟩ | ⟨y0, y1, y2, rfl⟩ | ⟨y0, y1, y2, y3, rfl⟩ | ⟨y0, y1, y2, y3, y4, rfl⟩ | ⟨y0, y1, y2, y3, y4, y5, rfl⟩ <;> first | (simp at h1; done) | skip
    rcases hp with ⟨p0, rfl⟩ | ⟨p0, p1, rfl⟩ | ⟨p0, p1, p2, rfl⟩ | ⟨p0, p1, p2, p3, rfl⟩ | ⟨p0, p1, p2, p3, p4, rfl⟩ | ⟨p0, p1, p2, p3, p4, p5, rfl⟩ <;> first | (simp at h2; done) | skip
    exact u28_4 ok E B Q c z c2 z2 x0 x1 x2 x3 y0 y1 y2 y3 p0 p1 p2 p3
  · rcases hy with ⟨y0, rfl⟩ | ⟨y0, y1, rfl⟩ | ⟨y0, y1, y2, rfl⟩ | ⟨y0, y1, y2, y3, rfl⟩ | ⟨y0, y1, y2, y3, y4, rfl⟩ | ⟨y0, y1, y2, y3, y4, y5, rfl⟩ <;> first | (simp at h1; done) | skip
    rcases hp with ⟨p0, rfl⟩ | ⟨p0, p1, rfl⟩ | ⟨p0, p1, p2, rfl⟩ | ⟨p0, p1, p2, p3, rfl⟩ | ⟨p0, p1, p2, p3, p4, rfl⟩ | ⟨p0, p1, p2, p3, p4, p5, rfl⟩ <;> first | (simp at h2; done) | skip
    exact u28_5 ok E B Q c z c2 z2 x0 x1 x2 x3 x4 y0 y1 y2 y3 y4 p0 p1 p2 p3 p4
  · rcases hy with ⟨y0, rfl⟩ | ⟨y0, y1, rfl⟩ | ⟨y0, y1, y2, rfl⟩ | ⟨y0, y1, y2, y3, rfl⟩ | ⟨y0, y1, y2, y3, y4, rfl⟩ | ⟨y0, y1, y2, y3, y4, y5, rfl⟩ <;> first | (simp at h1; done) | skip
    rcases hp with ⟨p0, rfl⟩ | ⟨p0, p1, rfl⟩ | ⟨p0, p1, p2, rfl⟩ | ⟨p0, p1, p2, p3, rfl⟩ | ⟨p0, p1, p2, p3, p4, rfl⟩ | ⟨p0, p1, p2, p3, p4, p5, rfl⟩ <;> first | (simp at h2; done) | skip
    exact u28_6 ok E B Q c z c2 z2 x0 x1 x2 x3 x4 x5 y0 y1 y2 y3 y4 y5 p0 p1 p2 p3 p4 p5
theorem c28 (x y : List Int) (c z c2 z2 : Bool) (k : Nat) (h : boundsI x y = 0) : PureOK Tryd.prog 28 [ls x c z, ls y c2 z2, ls (corn k x y) false false] (bD true) := by
  obtain ⟨h1, h2, h3, h4⟩ := boundsI_0 h
  exact walkQ (Q := .nilp) (by kernel_rfl : tget aeF 28 = some Tryd.f28) ((v28 _ _ _ _ c z c2 z2 x y (corn k x y) h1 (corn_len k h1 h3) h2 h3).trans (wiC_pick _ _ _ h4))
end Go.Proofs.YtiicbenhhdbnoaaDoor

/- Chapter 09: law 8: its calls, first round. Written by wip/tools/genT8.py. -/
namespace Go.Proofs.YtiicbenhhdbnoaaDoor
open Go Go.AE
set_option maxRecDepth 100000

structure Tb8 where
  O : List DV → Bool
  P : List DV → List DV
  N : List DV → Nat
  T : List DV → Bool
  W : List DV → Bool
  D : List DV → List DV
  M : List DV → Nat
end Go.Proofs.YtiicbenhhdbnoaaDoor

/- Chapter 09: law 8: its calls, second round. Written by wip/tools/genT8.py. -/
namespace Go.Proofs.YtiicbenhhdbnoaaDoor
open Go Go.AE
set_option maxRecDepth 100000

end Go.Proofs.YtiicbenhhdbnoaaDoor

/- Chapter 09: law 8: its loops. Written by wip/tools/genT8.py. -/
namespace Go.Proofs.YtiicbenhhdbnoaaDoor
open Go Go.AE
set_option maxRecDepth 100000

end Go.Proofs.YtiicbenhhdbnoaaDoor

/- Chapter 09: awake. -/
namespace Go.Proofs.YtiicbenhhdbnoaaDoor
open Go Go.AE
set_option maxRecDepth 100000
noncomputable def evD (ok : Nat → List DV → Bool) : Ev := evW [82] ok (sh77 tM)

theorem v13 (ok : Nat → List DV → Bool) : pureE aeC (evD ok) 30 13 Tryd.f13 [.sl [iD 1, iD 2, iD 3, iD 1] 4 1 true false] =
  some (DV.tup [DV.sl [DV.sl [iD 1, iD 1, iD 2, iD 1] 2 2 false false, DV.sl [iD 3, iD 1, iD 1, iD 1] 2 2 false false, DV.sl [iD 5, iD 3] 1 2 false false, DV.sl [iD 1, iD 1] 1 2 false false] 4 1 false false, iD 0]) := by kernel_rfl

theorem a13 : PureOK Tryd.prog 13 [.sl [iD 1, iD 2, iD 3, iD 1] 4 1 true false] (DV.tup [DV.sl [DV.sl [iD 1, iD 1, iD 2, iD 1] 2 2 false false, DV.sl [iD 3, iD 1, iD 1, iD 1] 2 2 false false, DV.sl [iD 5, iD 3] 1 2 false false, DV.sl [iD 1, iD 1] 1 2 false false] 4 1 false false, iD 0]) := by
  refine walk (fs := [82]) (shape := sh77 tM) (by kernel_rfl : tget aeF 13 = some Tryd.f13) ((v13 (okS (sh77 tM))).trans ?_)
  rfl

theorem v13b (ok : Nat → List DV → Bool) : pureE aeC (evD ok) 30 13 Tryd.f13 [.sl [iD 1, iD 0, iD 1] 3 1 true false] =
  some (DV.tup [DV.sl [] 0 0 false true, iD 4]) := by kernel_rfl

theorem a13b : PureOK Tryd.prog 13 [.sl [iD 1, iD 0, iD 1] 3 1 true false] (DV.tup [DV.sl [] 0 0 false true, iD 4]) := by
  refine walk (fs := [82]) (shape := sh77 tM) (by kernel_rfl : tget aeF 13 = some Tryd.f13) ((v13b (okS (sh77 tM))).trans ?_)
  rfl

theorem v14 (ok : Nat → List DV → Bool) : pureE aeC (evD ok) 30 14 Tryd.f14 [.sl [iD 6, iD 1, iD 1, iD 1] 4 1 true false] =
  some (DV.tup [iD 2, iD 0]) := by kernel_rfl

theorem a14 : PureOK Tryd.prog 14 [.sl [iD 6, iD 1, iD 1, iD 1] 4 1 true false] (DV.tup [iD 2, iD 0]) := by
  refine walk (fs := [82]) (shape := sh77 tM) (by kernel_rfl : tget aeF 14 = some Tryd.f14) ((v14 (okS (sh77 tM))).trans ?_)
  rfl

theorem v32 (ok : Nat → List DV → Bool) : pureE aeC (evD ok) 30 32 Tryd.f32 [.sl [iD 1, iD 2, iD 3, iD 1] 4 1 true false] =
  bif ok 82 [DV.sl [DV.sl [iD 3] 1 1 false false] 1 1 false false] then
    bif ok 82 [DV.sl [DV.sl [iD 3, iD 1] 2 1 false false, DV.sl [iD 1, iD 2] 2 1 false false] 2 1 false false] then
      bif ok 82 [DV.sl [DV.sl [iD 3, iD 1, iD 0] 3 1 false false, DV.sl [iD 1, iD 2, iD 0] 3 1 false false, DV.sl [iD 0, iD 3, iD 1] 3 1 false false] 3 1 false false] then
        some (DV.tup [bD true, iD 0])
      else
        none
    else
      none
  else
    none := by kernel_rfl

theorem a32 : PureOK Tryd.prog 32 [.sl [iD 1, iD 2, iD 3, iD 1] 4 1 true false] (DV.tup [bD true, iD 0]) := by
  refine walk (fs := [82]) (shape := sh77 tM) (by kernel_rfl : tget aeF 32 = some Tryd.f32) ((v32 (okS (sh77 tM))).trans ?_)
  refine (cond_is (g82 (det82_1 [3] rfl) (by kernel_rfl))).trans ?_
  refine (cond_is (g82 (det82_2 [3, 1] [1, 2] ⟨rfl, rfl⟩) (by kernel_rfl))).trans ?_
  refine (cond_is (g82 (det82_3 [3, 1, 0] [1, 2, 0] [0, 3, 1] ⟨rfl, rfl, rfl⟩) (by kernel_rfl))).trans ?_
  rfl

theorem v33 (ok : Nat → List DV → Bool) : pureE aeC (evD ok) 30 33 Tryd.f33 [.sl [iD 1, iD 2, iD 3, iD 1] 4 1 true false] =
  bif ok 82 [DV.sl [DV.sl [iD 3] 1 1 false false] 1 1 false false] then
    bif ok 82 [DV.sl [DV.sl [iD 3, iD 1] 2 1 false false, DV.sl [iD 1, iD 2] 2 1 false false] 2 1 false false] then
      bif ok 82 [DV.sl [DV.sl [iD 3, iD 1, iD 0] 3 1 false false, DV.sl [iD 1, iD 2, iD 0] 3 1 false false, DV.sl [iD 0, iD 3, iD 1] 3 1 false false] 3 1 false false] then
        some (DV.tup [DV.sl [iD 3, iD 5, iD 5] 3 1 false false, iD 0])
      else
        none
    else
      none
  else
    none := by kernel_rfl

theorem a33 : PureOK Tryd.prog 33 [.sl [iD 1, iD 2, iD 3, iD 1] 4 1 true false] (DV.tup [DV.sl [iD 3, iD 5, iD 5] 3 1 false false, iD 0]) := by
  refine walk (fs := [82]) (shape := sh77 tM) (by kernel_rfl : tget aeF 33 = some Tryd.f33) ((v33 (okS (sh77 tM))).trans ?_)
  refine (cond_is (g82 (det82_1 [3] rfl) (by kernel_rfl))).trans ?_
  refine (cond_is (g82 (det82_2 [3, 1] [1, 2] ⟨rfl, rfl⟩) (by kernel_rfl))).trans ?_
  refine (cond_is (g82 (det82_3 [3, 1, 0] [1, 2, 0] [0, 3, 1] ⟨rfl, rfl, rfl⟩) (by kernel_rfl))).trans ?_
  rfl

theorem v22 (ok : Nat → List DV → Bool) : pureE aeC (evD ok) 30 22 Tryd.f22 [.sl [iD 1, iD 1, iD 1] 3 1 true false, .sl [iD 2, iD 2, iD 2] 3 1 true false] =
  bif ok 82 [DV.sl [DV.sl [iD 1] 1 1 false false] 1 1 false false] then
    bif ok 82 [DV.sl [DV.sl [iD 1, iD 0] 2 1 false false, DV.sl [iD 2, iD 1] 2 1 false false] 2 1 false false] then
      bif ok 82 [DV.sl [DV.sl [iD 2] 1 1 false false] 1 1 false false] then
        bif ok 82 [DV.sl [DV.sl [iD 2, iD 0] 2 1 false false, DV.sl [iD 1, iD 2] 2 1 false false] 2 1 false false] then
          bif ok 82 [DV.sl [DV.sl [iD 2] 1 1 false false] 1 1 false false] then
            bif ok 82 [DV.sl [DV.sl [iD 2, iD 0] 2 1 false false, DV.sl [iD 2, iD 1] 2 1 false false] 2 1 false false] then
              bif ok 82 [DV.sl [DV.sl [iD 1] 1 1 false false] 1 1 false false] then
                bif ok 82 [DV.sl [DV.sl [iD 1, iD 0] 2 1 false false, DV.sl [iD 1, iD 2] 2 1 false false] 2 1 false false] then
                  some (DV.tup [bD true, iD 0])
                else
                  none
              else
                none
            else
              none
          else
            none
        else
          none
      else
        none
    else
      none
  else
    none := by kernel_rfl

theorem a22 : PureOK Tryd.prog 22 [.sl [iD 1, iD 1, iD 1] 3 1 true false, .sl [iD 2, iD 2, iD 2] 3 1 true false] (DV.tup [bD true, iD 0]) := by
  refine walk (fs := [82]) (shape := sh77 tM) (by kernel_rfl : tget aeF 22 = some Tryd.f22) ((v22 (okS (sh77 tM))).trans ?_)
  refine (cond_is (g82 (det82_1 [1] rfl) (by kernel_rfl))).trans ?_
  refine (cond_is (g82 (det82_2 [1, 0] [2, 1] ⟨rfl, rfl⟩) (by kernel_rfl))).trans ?_
  refine (cond_is (g82 (det82_1 [2] rfl) (by kernel_rfl))).trans ?_
  refine (cond_is (g82 (det82_2 [2, 0] [1, 2] ⟨rfl, rfl⟩) (by kernel_rfl))).trans ?_
  refine (cond_is (g82 (det82_1 [2] rfl) (by kernel_rfl))).trans ?_
  refine (cond_is (g82 (det82_2 [2, 0] [2, 1] ⟨rfl, rfl⟩) (by kernel_rfl))).trans ?_
  refine (cond_is (g82 (det82_1 [1] rfl) (by kernel_rfl))).trans ?_
  refine (cond_is (g82 (det82_2 [1, 0] [1, 2] ⟨rfl, rfl⟩) (by kernel_rfl))).trans ?_
  rfl

theorem v23 (ok : Nat → List DV → Bool) : pureE aeC (evD ok) 30 23 Tryd.f23 [.sl [iD 1, iD 1, iD 1] 3 1 true false, .sl [iD 2, iD 2, iD 2] 3 1 true false] =
  bif ok 82 [DV.sl [DV.sl [iD 1] 1 1 false false] 1 1 false false] then
    bif ok 82 [DV.sl [DV.sl [iD 1, iD 0] 2 1 false false, DV.sl [iD 2, iD 1] 2 1 false false] 2 1 false false] then
      bif ok 82 [DV.sl [DV.sl [iD 2] 1 1 false false] 1 1 false false] then
        bif ok 82 [DV.sl [DV.sl [iD 2, iD 0] 2 1 false false, DV.sl [iD 1, iD 2] 2 1 false false] 2 1 false false] then
          bif ok 82 [DV.sl [DV.sl [iD 2] 1 1 false false] 1 1 false false] then
            bif ok 82 [DV.sl [DV.sl [iD 2, iD 0] 2 1 false false, DV.sl [iD 2, iD 1] 2 1 false false] 2 1 false false] then
              bif ok 82 [DV.sl [DV.sl [iD 1] 1 1 false false] 1 1 false false] then
                bif ok 82 [DV.sl [DV.sl [iD 1, iD 0] 2 1 false false, DV.sl [iD 1, iD 2] 2 1 false false] 2 1 false false] then
                  some (DV.tup [DV.sl [] 0 0 false true, bD false, iD 0])
                else
                  none
              else
                none
            else
              none
          else
            none
        else
          none
      else
        none
    else
      none
  else
    none := by kernel_rfl

theorem a23 : PureOK Tryd.prog 23 [.sl [iD 1, iD 1, iD 1] 3 1 true false, .sl [iD 2, iD 2, iD 2] 3 1 true false] (DV.tup [DV.sl [] 0 0 false true, bD false, iD 0]) := by
  refine walk (fs := [82]) (shape := sh77 tM) (by kernel_rfl : tget aeF 23 = some Tryd.f23) ((v23 (okS (sh77 tM))).trans ?_)
  refine (cond_is (g82 (det82_1 [1] rfl) (by kernel_rfl))).trans ?_
  refine (cond_is (g82 (det82_2 [1, 0] [2, 1] ⟨rfl, rfl⟩) (by kernel_rfl))).trans ?_
  refine (cond_is (g82 (det82_1 [2] rfl) (by kernel_rfl))).trans ?_
  refine (cond_is (g82 (det82_2 [2, 0] [1, 2] ⟨rfl, rfl⟩) (by kernel_rfl))).trans ?_
  refine (cond_is (g82 (det82_1 [2] rfl) (by kernel_rfl))).trans ?_
  refine (cond_is (g82 (det82_2 [2, 0] [2, 1] ⟨rfl, rfl⟩) (by kernel_rfl))).trans ?_
  refine (cond_is (g82 (det82_1 [1] rfl) (by kernel_rfl))).trans ?_
  refine (cond_is (g82 (det82_2 [1, 0] [1, 2] ⟨rfl, rfl⟩) (by kernel_rfl))).trans ?_
  rfl

/-- What the seven calls tell. -/
def shE7 : Nat → List DV → DV := fun f ds => match f, ds with
  | 13, [.sl _ n _ _ _] => match n with
    | 4 => DV.tup [DV.sl [DV.sl [iD 1, iD 1, iD 2, iD 1] 2 2 false false, DV.sl [iD 3, iD 1, iD 1, iD 1] 2 2 false false, DV.sl [iD 5, iD 3] 1 2 false false, DV.sl [iD 1, iD 1] 1 2 false false] 4 1 false false, iD 0]
    | _ => DV.tup [DV.sl [] 0 0 false true, iD 4]
  | 14, _ => DV.tup [iD 2, iD 0]
  | 32, _ => DV.tup [bD true, iD 0]
  | 33, _ => DV.tup [DV.sl [iD 3, iD 5, iD 5] 3 1 false false, iD 0]
  | 22, _ => DV.tup [bD true, iD 0]
  | 23, _ => DV.tup [DV.sl [] 0 0 false true, bD false, iD 0]
  | _, _ => .nilp
noncomputable def evF (ok : Nat → List DV → Bool) : Ev := evW [13, 14, 32, 33, 22, 23] ok shE7
theorem u18 (ok : Nat → List DV → Bool) : pureE aeC (evF ok) 30 18 Tryd.f18 [] =
  bif ok 32 [DV.sl [iD 1, iD 2, iD 3, iD 1] 4 1 true false] then
    bif ok 13 [DV.sl [iD 1, iD 2, iD 3, iD 1] 4 1 true false] then
      bif ok 14 [DV.sl [iD 6, iD 1, iD 1, iD 1] 4 1 true false] then
        bif ok 33 [DV.sl [iD 1, iD 2, iD 3, iD 1] 4 1 true false] then
          bif ok 22 [DV.sl [iD 1, iD 1, iD 1] 3 1 true false, DV.sl [iD 2, iD 2, iD 2] 3 1 true false] then
            bif ok 23 [DV.sl [iD 1, iD 1, iD 1] 3 1 true false, DV.sl [iD 2, iD 2, iD 2] 3 1 true false] then
              bif ok 13 [DV.sl [iD 1, iD 0, iD 1] 3 1 true false] then
                some (bD true)
              else
                none
            else
              none
          else
            none
        else
          none
      else
        none
    else
      none
  else
    none := by kernel_rfl

theorem awake_ok : PureOK Tryd.prog 18 [] (bD true) := by
  refine walk (fs := [13, 14, 32, 33, 22, 23]) (shape := shE7) (by kernel_rfl : tget aeF 18 = some Tryd.f18) ((u18 (okS shE7)).trans ?_)
  refine (cond_is (okS_is a32)).trans ?_
  refine (cond_is (okS_is a13)).trans ?_
  refine (cond_is (okS_is a14)).trans ?_
  refine (cond_is (okS_is a33)).trans ?_
  refine (cond_is (okS_is a22)).trans ?_
  refine (cond_is (okS_is a23)).trans ?_
  refine (cond_is (okS_is a13b)).trans ?_
  rfl
end Go.Proofs.YtiicbenhhdbnoaaDoor

/- Chapter 09: law 8 on data. Written by wip/tools/genT8.py. -/
namespace Go.Proofs.YtiicbenhhdbnoaaDoor
open Go Go.AE
set_option maxRecDepth 100000

def okA (pre : List DV) (a : List Int) : Prop := polyB a = true ∧ (pre = [] ∨ (a.length = 6 ∧ pre.length = 1))

theorem c12F_0 (c nl : Bool) : ∃ pre a, okA pre a ∧ CallOK Tryd.prog 12 [.d (.sl [] 0 1 c nl)] [] (.row 0 pre.length a.length a.length 1 false) [.dc (pre ++ ints a)] ∧ CallOK Tryd.prog 12 [.d (.sl [] 0 1 c nl)] [.dead] (.row 1 pre.length a.length a.length 1 false) [.dead, .dc (pre ++ ints a)] := by
  exact ⟨[], [1], ⟨by decide, .inl rfl⟩, walkF2 (by kernel_rfl : tget aeF 12 = some Tryd.f12) (by kernel_rfl), walkF2 (by kernel_rfl : tget aeF 12 = some Tryd.f12) (by kernel_rfl)⟩
theorem c12F_1 (x0 : Int) (c nl : Bool) : ∃ pre a, okA pre a ∧ CallOK Tryd.prog 12 [.d (.sl [iD x0] 1 1 c nl)] [] (.row 0 pre.length a.length a.length 1 false) [.dc (pre ++ ints a)] ∧ CallOK Tryd.prog 12 [.d (.sl [iD x0] 1 1 c nl)] [.dead] (.row 1 pre.length a.length a.length 1 false) [.dead, .dc (pre ++ ints a)] := by
  have h0 : bodyE aeC2 evA2 30 12 Tryd.f12 [.d (.sl [iD x0] 1 1 c nl)] [] (fun v h' => some (v, h')) = (bif decide (tv x0 = 0) then some (AV.row 0 0 2 2 1 false, [.dc [iD (tv x0), iD (1)]]) else some (AV.row 0 0 1 1 1 false, [.dc [iD (tv x0)]])) := by kernel_rfl
  have h1 : bodyE aeC2 evA2 30 12 Tryd.f12 [.d (.sl [iD x0] 1 1 c nl)] [.dead] (fun v h' => some (v, h')) = (bif decide (tv x0 = 0) then some (AV.row 1 0 2 2 1 false, [.dead, .dc [iD (tv x0), iD (1)]]) else some (AV.row 1 0 1 1 1 false, [.dead, .dc [iD (tv x0)]])) := by kernel_rfl
  by_cases z : tv x0 = 0
  · exact ⟨[], [tv x0, 1], ⟨polyB_mk (by simp) (by simp) (by intro x hx; simp only [List.mem_cons, List.not_mem_nil, or_false] at hx; rcases hx with rfl|rfl <;> first | exact tv_b _ | omega) (by show (1 : Int) ≠ 0; decide), .inl rfl⟩, walkF2 (by kernel_rfl : tget aeF 12 = some Tryd.f12) (h0.trans (cnd_pos z)), walkF2 (by kernel_rfl : tget aeF 12 = some Tryd.f12) (h1.trans (cnd_pos z))⟩
  · exact ⟨[], [tv x0], ⟨polyB_mk (by simp) (by simp) (by intro x hx; simp only [List.mem_cons, List.not_mem_nil, or_false] at hx; rcases hx with rfl <;> first | exact tv_b _ | omega) (by show tv x0 ≠ 0; exact z), .inl rfl⟩, walkF2 (by kernel_rfl : tget aeF 12 = some Tryd.f12) (h0.trans (cnd_neg z)), walkF2 (by kernel_rfl : tget aeF 12 = some Tryd.f12) (h1.trans (cnd_neg z))⟩

theorem c12F_2 (x0 x1 : Int) (c nl : Bool) : ∃ pre a, okA pre a ∧ CallOK Tryd.prog 12 [.d (.sl [iD x0, iD x1] 2 1 c nl)] [] (.row 0 pre.length a.length a.length 1 false) [.dc (pre ++ ints a)] ∧ CallOK Tryd.prog 12 [.d (.sl [iD x0, iD x1] 2 1 c nl)] [.dead] (.row 1 pre.length a.length a.length 1 false) [.dead, .dc (pre ++ ints a)] := by
  have h0 : bodyE aeC2 evA2 30 12 Tryd.f12 [.d (.sl [iD x0, iD x1] 2 1 c nl)] [] (fun v h' => some (v, h')) = (bif decide (tv x1 = 0) then some (AV.row 0 0 3 3 1 false, [.dc [iD (tv x0), iD (tv x1), iD (1)]]) else some (AV.row 0 0 2 2 1 false, [.dc [iD (tv x0), iD (tv x1)]])) := by kernel_rfl
  have h1 : bodyE aeC2 evA2 30 12 Tryd.f12 [.d (.sl [iD x0, iD x1] 2 1 c nl)] [.dead] (fun v h' => some (v, h')) = (bif decide (tv x1 = 0) then some (AV.row 1 0 3 3 1 false, [.dead, .dc [iD (tv x0), iD (tv x1), iD (1)]]) else some (AV.row 1 0 2 2 1 false, [.dead, .dc [iD (tv x0), iD (tv x1)]])) := by kernel_rfl
  by_cases z : tv x1 = 0
  · exact ⟨[], [tv x0, tv x1, 1], ⟨polyB_mk (by simp) (by simp) (by intro x hx; simp only [List.mem_cons, List.not_mem_nil, or_false] at hx; rcases hx with rfl|rfl|rfl <;> first | exact tv_b _ | omega) (by show (1 : Int) ≠ 0; decide), .inl rfl⟩, walkF2 (by kernel_rfl : tget aeF 12 = some Tryd.f12) (h0.trans (cnd_pos z)), walkF2 (by kernel_rfl : tget aeF 12 = some Tryd.f12) (h1.trans (cnd_pos z))⟩
  · exact ⟨[], [tv x0, tv x1], ⟨polyB_mk (by simp) (by simp) (by intro x hx; simp only [List.mem_cons, List.not_mem_nil, or_false] at hx; rcases hx with rfl|rfl <;> first | exact tv_b _ | omega) (by show tv x1 ≠ 0; exact z), .inl rfl⟩, walkF2 (by kernel_rfl : tget aeF 12 = some Tryd.f12) (h0.trans (cnd_neg z)), walkF2 (by kernel_rfl : tget aeF 12 = some Tryd.f12) (h1.trans (cnd_neg z))⟩

theorem c12F_3 (x0 x1 x2 : Int) (c nl : Bool) : ∃ pre a, okA pre a ∧ CallOK Tryd.prog 12 [.d (.sl [iD x0, iD x1, iD x2] 3 1 c nl)] [] (.row 0 pre.length a.length a.length 1 false) [.dc (pre ++ ints a)] ∧ CallOK Tryd.prog 12 [.d (.sl [iD x0, iD x1, iD x2] 3 1 c nl)] [.dead] (.row 1 pre.length a.length a.length 1 false) [.dead, .dc (pre ++ ints a)] := by
  have h0 : bodyE aeC2 evA2 30 12 Tryd.f12 [.d (.sl [iD x0, iD x1, iD x2] 3 1 c nl)] [] (fun v h' => some (v, h')) = (bif decide (tv x2 = 0) then some (AV.row 0 0 4 4 1 false, [.dc [iD (tv x0), iD (tv x1), iD (tv x2), iD (1)]]) else some (AV.row 0 0 3 3 1 false, [.dc [iD (tv x0), iD (tv x1), iD (tv x2)]])) := by kernel_rfl
  have h1 : bodyE aeC2 evA2 30 12 Tryd.f12 [.d (.sl [iD x0, iD x1, iD x2] 3 1 c nl)] [.dead] (fun v h' => some (v, h')) = (bif decide (tv x2 = 0) then some (AV.row 1 0 4 4 1 false, [.dead, .dc [iD (tv x0), iD (tv x1), iD (tv x2), iD (1)]]) else some (AV.row 1 0 3 3 1 false, [.dead, .dc [iD (tv x0), iD (tv x1), iD (tv x2)]])) := by kernel_rfl
  by_cases z : tv x2 = 0
  · exact ⟨[], [tv x0, tv x1, tv x2, 1], ⟨polyB_mk (by simp) (by simp) (by intro x hx; simp only [List.mem_cons, List.not_mem_nil, or_false] at hx; rcases hx with rfl|rfl|rfl|rfl <;> first | exact tv_b _ | omega) (by show (1 : Int) ≠ 0; decide), .inl rfl⟩, walkF2 (by kernel_rfl : tget aeF 12 = some Tryd.f12) (h0.trans (cnd_pos z)), walkF2 (by kernel_rfl : tget aeF 12 = some Tryd.f12) (h1.trans (cnd_pos z))⟩
  · exact ⟨[], [tv x0, tv x1, tv x2], ⟨polyB_mk (by simp) (by simp) (by intro x hx; simp only [List.mem_cons, List.not_mem_nil, or_false] at hx; rcases hx with rfl|rfl|rfl <;> first | exact tv_b _ | omega) (by show tv x2 ≠ 0; exact z), .inl rfl⟩, walkF2 (by kernel_rfl : tget aeF 12 = some Tryd.f12) (h0.trans (cnd_neg z)), walkF2 (by kernel_rfl : tget aeF 12 = some Tryd.f12) (h1.trans (cnd_neg z))⟩

theorem c12F_4 (x0 x1 x2 x3 : Int) (c nl : Bool) : ∃ pre a, okA pre a ∧ CallOK Tryd.prog 12 [.d (.sl [iD x0, iD x1, iD x2, iD x3] 4 1 c nl)] [] (.row 0 pre.length a.length a.length 1 false) [.dc (pre ++ ints a)] ∧ CallOK Tryd.prog 12 [.d (.sl [iD x0, iD x1, iD x2, iD x3] 4 1 c nl)] [.dead] (.row 1 pre.length a.length a.length 1 false) [.dead, .dc (pre ++ ints a)] := by
  have h0 : bodyE aeC2 evA2 30 12 Tryd.f12 [.d (.sl [iD x0, iD x1, iD x2, iD x3] 4 1 c nl)] [] (fun v h' => some (v, h')) = (bif decide (tv x3 = 0) then some (AV.row 0 0 5 5 1 false, [.dc [iD (tv x0), iD (tv x1), iD (tv x2), iD (tv x3), iD (1)]]) else some (AV.row 0 0 4 4 1 false, [.dc [iD (tv x0), iD (tv x1), iD (tv x2), iD (tv x3)]])) := by kernel_rfl
  have h1 : bodyE aeC2 evA2 30 12 Tryd.f12 [.d (.sl [iD x0, iD x1, iD x2, iD x3] 4 1 c nl)] [.dead] (fun v h' => some (v, h')) = (bif decide (tv x3 = 0) then some (AV.row 1 0 5 5 1 false, [.dead, .dc [iD (tv x0), iD (tv x1), iD (tv x2), iD (tv x3), iD (1)]]) else some (AV.row 1 0 4 4 1 false, [.dead, .dc [iD (tv x0), iD (tv x1), iD (tv x2), iD (tv x3)]])) := by kernel_rfl
  by_cases z : tv x3 = 0
  · exact ⟨[], [tv x0, tv x1, tv x2, tv x3, 1], ⟨polyB_mk (by simp) (by simp) (by intro x hx; simp only [List.mem_cons, List.not_mem_nil, or_false] at hx; rcases hx with rfl|rfl|rfl|rfl|rfl <;> first | exact tv_b _ | omega) (by show (1 : Int) ≠ 0; decide), .inl rfl⟩, walkF2 (by kernel_rfl : tget aeF 12 = some Tryd.f12) (h0.trans (cnd_pos z)), walkF2 (by kernel_rfl : tget aeF 12 = some Tryd.f12) (h1.trans (cnd_pos z))⟩
  · exact ⟨[], [tv x0, tv x1, tv x2, tv x3], ⟨polyB_mk (by simp) (by simp) (by intro x hx; simp only [List.mem_cons, List.not_mem_nil, or_false] at hx; rcases hx with rfl|rfl|rfl|rfl <;> first | exact tv_b _ | omega) (by show tv x3 ≠ 0; exact z), .inl rfl⟩, walkF2 (by kernel_rfl : tget aeF 12 = some Tryd.f12) (h0.trans (cnd_neg z)), walkF2 (by kernel_rfl : tget aeF 12 = some Tryd.f12) (h1.trans (cnd_neg z))⟩

theorem c12F_5 (x0 x1 x2 x3 x4 : Int) (c nl : Bool) : ∃ pre a, okA pre a ∧ CallOK Tryd.prog 12 [.d (.sl [iD x0, iD x1, iD x2, iD x3, iD x4] 5 1 c nl)] [] (.row 0 pre.length a.length a.length 1 false) [.dc (pre ++ ints a)] ∧ CallOK Tryd.prog 12 [.d (.sl [iD x0, iD x1, iD x2, iD x3, iD x4] 5 1 c nl)] [.dead] (.row 1 pre.length a.length a.length 1 false) [.dead, .dc (pre ++ ints a)] := by
  have h0 : bodyE aeC2 evA2 30 12 Tryd.f12 [.d (.sl [iD x0, iD x1, iD x2, iD x3, iD x4] 5 1 c nl)] [] (fun v h' => some (v, h')) = (bif decide (tv x4 = 0) then some (AV.row 0 0 6 6 1 false, [.dc [iD (tv x0), iD (tv x1), iD (tv x2), iD (tv x3), iD (tv x4), iD (1)]]) else some (AV.row 0 0 5 5 1 false, [.dc [iD (tv x0), iD (tv x1), iD (tv x2), iD (tv x3), iD (tv x4)]])) := by kernel_rfl
  have h1 : bodyE aeC2 evA2 30 12 Tryd.f12 [.d (.sl [iD x0, iD x1, iD x2, iD x3, iD x4] 5 1 c nl)] [.dead] (fun v h' => some (v, h')) = (bif decide (tv x4 = 0) then some (AV.row 1 0 6 6 1 false, [.dead, .dc [iD (tv x0), iD (tv x1), iD (tv x2), iD (tv x3), iD (tv x4), iD (1)]]) else some (AV.row 1 0 5 5 1 false, [.dead, .dc [iD (tv x0), iD (tv x1), iD (tv x2), iD (tv x3), iD (tv x4)]])) := by kernel_rfl
  by_cases z : tv x4 = 0
  · exact ⟨[], [tv x0, tv x1, tv x2, tv x3, tv x4, 1], ⟨polyB_mk (by simp) (by simp) (by intro x hx; simp only [List.mem_cons, List.not_mem_nil, or_false] at hx; rcases hx with rfl|rfl|rfl|rfl|rfl|rfl <;> first | exact tv_b _ | omega) (by show (1 : Int) ≠ 0; decide), .inl rfl⟩, walkF2 (by kernel_rfl : tget aeF 12 = some Tryd.f12) (h0.trans (cnd_pos z)), walkF2 (by kernel_rfl : tget aeF 12 = some Tryd.f12) (h1.trans (cnd_pos z))⟩
  · exact ⟨[], [tv x0, tv x1, tv x2, tv x3, tv x4], ⟨polyB_mk (by simp) (by simp) (by intro x hx; simp only [List.mem_cons, List.not_mem_nil, or_false] at hx; rcases hx with rfl|rfl|rfl|rfl|rfl <;> first | exact tv_b _ | omega) (by show tv x4 ≠ 0; exact z), .inl rfl⟩, walkF2 (by kernel_rfl : tget aeF 12 = some Tryd.f12) (h0.trans (cnd_neg z)), walkF2 (by kernel_rfl : tget aeF 12 = some Tryd.f12) (h1.trans (cnd_neg z))⟩

theorem c12F_6 (x0 x1 x2 x3 x4 x5 : Int) (R : List DV) (m : Nat) (hm : 6 ≤ m) (c nl : Bool) : ∃ pre a, okA pre a ∧ CallOK Tryd.prog 12 [.d (.sl (iD x0 :: iD x1 :: iD x2 :: iD x3 :: iD x4 :: iD x5 :: R) m 1 c nl)] [] (.row 0 pre.length a.length a.length 1 false) [.dc (pre ++ ints a)] ∧ CallOK Tryd.prog 12 [.d (.sl (iD x0 :: iD x1 :: iD x2 :: iD x3 :: iD x4 :: iD x5 :: R) m 1 c nl)] [.dead] (.row 1 pre.length a.length a.length 1 false) [.dead, .dc (pre ++ ints a)] := by
  have h0 : bodyE aeC2 evA2 30 12 Tryd.f12 [.d (.sl (iD x0 :: iD x1 :: iD x2 :: iD x3 :: iD x4 :: iD x5 :: R) m 1 c nl)] [] (fun v h' => some (v, h')) = (bif decide (0 < (m : Int)) then (bif inRange 0 m then (bif decide (1 < (m : Int)) then (bif inRange 1 m then (bif decide (2 < (m : Int)) then (bif inRange 2 m then (bif decide (3 < (m : Int)) then (bif inRange 3 m then (bif decide (4 < (m : Int)) then (bif inRange 4 m then (bif decide (5 < (m : Int)) then (bif inRange 5 m then (bif decide (6 < (m : Int)) then (bif decide (tv x5 = 0) then some (AV.row 0 1 6 6 1 false, [.dc [iD (tv x0), iD (tv x1), iD (tv x2), iD (tv x3), iD (tv x4), iD (tv x5), iD (1)]]) else some (AV.row 0 0 6 6 1 false, [.dc [iD (tv x0), iD (tv x1), iD (tv x2), iD (tv x3), iD (tv x4), iD (tv x5)]])) else (bif decide (tv x5 = 0) then some (AV.row 0 1 6 6 1 false, [.dc [iD (tv x0), iD (tv x1), iD (tv x2), iD (tv x3), iD (tv x4), iD (tv x5), iD (1)]]) else some (AV.row 0 0 6 6 1 false, [.dc [iD (tv x0), iD (tv x1), iD (tv x2), iD (tv x3), iD (tv x4), iD (tv x5)]]))) else none) else (bif decide (tv x4 = 0) then some (AV.row 0 0 6 6 1 false, [.dc [iD (tv x0), iD (tv x1), iD (tv x2), iD (tv x3), iD (tv x4), iD (1)]]) else some (AV.row 0 0 5 5 1 false, [.dc [iD (tv x0), iD (tv x1), iD (tv x2), iD (tv x3), iD (tv x4)]]))) else none) else (bif decide (tv x3 = 0) then some (AV.row 0 0 5 5 1 false, [.dc [iD (tv x0), iD (tv x1), iD (tv x2), iD (tv x3), iD (1)]]) else some (AV.row 0 0 4 4 1 false, [.dc [iD (tv x0), iD (tv x1), iD (tv x2), iD (tv x3)]]))) else none) else (bif decide (tv x2 = 0) then some (AV.row 0 0 4 4 1 false, [.dc [iD (tv x0), iD (tv x1), iD (tv x2), iD (1)]]) else some (AV.row 0 0 3 3 1 false, [.dc [iD (tv x0), iD (tv x1), iD (tv x2)]]))) else none) else (bif decide (tv x1 = 0) then some (AV.row 0 0 3 3 1 false, [.dc [iD (tv x0), iD (tv x1), iD (1)]]) else some (AV.row 0 0 2 2 1 false, [.dc [iD (tv x0), iD (tv x1)]]))) else none) else (bif decide (tv x0 = 0) then some (AV.row 0 0 2 2 1 false, [.dc [iD (tv x0), iD (1)]]) else some (AV.row 0 0 1 1 1 false, [.dc [iD (tv x0)]]))) else none) else some (AV.row 0 0 1 1 1 false, [.dc [iD (1)]])) := by kernel_rfl
  replace h0 := h0.trans <| (cnd_pos (by omega)).trans <| (inR_at (j := 0) rfl (by omega)).trans <| (cnd_pos (by omega)).trans <| (inR_at (j := 1) rfl (by omega)).trans <| (cnd_pos (by omega)).trans <| (inR_at (j := 2) rfl (by omega)).trans <| (cnd_pos (by omega)).trans <| (inR_at (j := 3) rfl (by omega)).trans <| (cnd_pos (by omega)).trans <| (inR_at (j := 4) rfl (by omega)).trans <| (cnd_pos (by omega)).trans <| (inR_at (j := 5) rfl (by omega)).trans <| cond_same
  have h1 : bodyE aeC2 evA2 30 12 Tryd.f12 [.d (.sl (iD x0 :: iD x1 :: iD x2 :: iD x3 :: iD x4 :: iD x5 :: R) m 1 c nl)] [.dead] (fun v h' => some (v, h')) = (bif decide (0 < (m : Int)) then (bif inRange 0 m then (bif decide (1 < (m : Int)) then (bif inRange 1 m then (bif decide (2 < (m : Int)) then (bif inRange 2 m then (bif decide (3 < (m : Int)) then (bif inRange 3 m then (bif decide (4 < (m : Int)) then (bif inRange 4 m then (bif decide (5 < (m : Int)) then (bif inRange 5 m then (bif decide (6 < (m : Int)) then (bif decide (tv x5 = 0) then some (AV.row 1 1 6 6 1 false, [.dead, .dc [iD (tv x0), iD (tv x1), iD (tv x2), iD (tv x3), iD (tv x4), iD (tv x5), iD (1)]]) else some (AV.row 1 0 6 6 1 false, [.dead, .dc [iD (tv x0), iD (tv x1), iD (tv x2), iD (tv x3), iD (tv x4), iD (tv x5)]])) else (bif decide (tv x5 = 0) then some (AV.row 1 1 6 6 1 false, [.dead, .dc [iD (tv x0), iD (tv x1), iD (tv x2), iD (tv x3), iD (tv x4), iD (tv x5), iD (1)]]) else some (AV.row 1 0 6 6 1 false, [.dead, .dc [iD (tv x0), iD (tv x1), iD (tv x2), iD (tv x3), iD (tv x4), iD (tv x5)]]))) else none) else (bif decide (tv x4 = 0) then some (AV.row 1 0 6 6 1 false, [.dead, .dc [iD (tv x0), iD (tv x1), iD (tv x2), iD (tv x3), iD (tv x4), iD (1)]]) else some (AV.row 1 0 5 5 1 false, [.dead, .dc [iD (tv x0), iD (tv x1), iD (tv x2), iD (tv x3), iD (tv x4)]]))) else none) else (bif decide (tv x3 = 0) then some (AV.row 1 0 5 5 1 false, [.dead, .dc [iD (tv x0), iD (tv x1), iD (tv x2), iD (tv x3), iD (1)]]) else some (AV.row 1 0 4 4 1 false, [.dead, .dc [iD (tv x0), iD (tv x1), iD (tv x2), iD (tv x3)]]))) else none) else (bif decide (tv x2 = 0) then some (AV.row 1 0 4 4 1 false, [.dead, .dc [iD (tv x0), iD (tv x1), iD (tv x2), iD (1)]]) else some (AV.row 1 0 3 3 1 false, [.dead, .dc [iD (tv x0), iD (tv x1), iD (tv x2)]]))) else none) else (bif decide (tv x1 = 0) then some (AV.row 1 0 3 3 1 false, [.dead, .dc [iD (tv x0), iD (tv x1), iD (1)]]) else some (AV.row 1 0 2 2 1 false, [.dead, .dc [iD (tv x0), iD (tv x1)]]))) else none) else (bif decide (tv x0 = 0) then some (AV.row 1 0 2 2 1 false, [.dead, .dc [iD (tv x0), iD (1)]]) else some (AV.row 1 0 1 1 1 false, [.dead, .dc [iD (tv x0)]]))) else none) else some (AV.row 1 0 1 1 1 false, [.dead, .dc [iD (1)]])) := by kernel_rfl
  replace h1 := h1.trans <| (cnd_pos (by omega)).trans <| (inR_at (j := 0) rfl (by omega)).trans <| (cnd_pos (by omega)).trans <| (inR_at (j := 1) rfl (by omega)).trans <| (cnd_pos (by omega)).trans <| (inR_at (j := 2) rfl (by omega)).trans <| (cnd_pos (by omega)).trans <| (inR_at (j := 3) rfl (by omega)).trans <| (cnd_pos (by omega)).trans <| (inR_at (j := 4) rfl (by omega)).trans <| (cnd_pos (by omega)).trans <| (inR_at (j := 5) rfl (by omega)).trans <| cond_same
  by_cases z : tv x5 = 0
  · exact ⟨[iD (tv x0)], [tv x1, tv x2, tv x3, tv x4, tv x5, 1], ⟨polyB_mk (by simp) (by simp) (by intro x hx; simp only [List.mem_cons, List.not_mem_nil, or_false] at hx; rcases hx with rfl|rfl|rfl|rfl|rfl|rfl <;> first | exact tv_b _ | omega) (by show (1 : Int) ≠ 0; decide), .inr ⟨rfl, rfl⟩⟩, walkF2 (by kernel_rfl : tget aeF 12 = some Tryd.f12) (h0.trans (cnd_pos z)), walkF2 (by kernel_rfl : tget aeF 12 = some Tryd.f12) (h1.trans (cnd_pos z))⟩
  · exact ⟨[], [tv x0, tv x1, tv x2, tv x3, tv x4, tv x5], ⟨polyB_mk (by simp) (by simp) (by intro x hx; simp only [List.mem_cons, List.not_mem_nil, or_false] at hx; rcases hx with rfl|rfl|rfl|rfl|rfl|rfl <;> first | exact tv_b _ | omega) (by show tv x5 ≠ 0; exact z), .inl rfl⟩, walkF2 (by kernel_rfl : tget aeF 12 = some Tryd.f12) (h0.trans (cnd_neg z)), walkF2 (by kernel_rfl : tget aeF 12 = some Tryd.f12) (h1.trans (cnd_neg z))⟩

theorem c12F : ∀ (l : List Int) (c nl : Bool), ∃ pre a, okA pre a ∧ CallOK Tryd.prog 12 [.d (ls l c nl)] [] (.row 0 pre.length a.length a.length 1 false) [.dc (pre ++ ints a)] ∧ CallOK Tryd.prog 12 [.d (ls l c nl)] [.dead] (.row 1 pre.length a.length a.length 1 false) [.dead, .dc (pre ++ ints a)]
  | [], c, nl => c12F_0  c nl
  | [x0], c, nl => c12F_1 x0 c nl
  | [x0, x1], c, nl => c12F_2 x0 x1 c nl
  | [x0, x1, x2], c, nl => c12F_3 x0 x1 x2 c nl
  | [x0, x1, x2, x3], c, nl => c12F_4 x0 x1 x2 x3 c nl
  | [x0, x1, x2, x3, x4], c, nl => c12F_5 x0 x1 x2 x3 x4 c nl
  | x0 :: x1 :: x2 :: x3 :: x4 :: x5 :: r, c, nl => c12F_6 x0 x1 x2 x3 x4 x5 (ints r) (x0 :: x1 :: x2 :: x3 :: x4 :: x5 :: r).length (by simp) c nl

theorem okA_cases : ∀ {pre : List DV} {a : List Int}, okA pre a → (∃ x0, pre = [] ∧ a = [x0]) ∨ (∃ x0 x1, pre = [] ∧ a = [x0, x1]) ∨ (∃ x0 x1 x2, pre = [] ∧ a = [x0, x1, x2]) ∨ (∃ x0 x1 x2 x3, pre = [] ∧ a = [x0, x1, x2, x3]) ∨ (∃ x0 x1 x2 x3 x4, pre = [] ∧ a = [x0, x1, x2, x3, x4]) ∨ (∃ x0 x1 x2 x3 x4 x5, pre = [] ∧ a = [x0, x1, x2, x3, x4, x5]) ∨ (∃ u0 x0 x1 x2 x3 x4 x5, pre = [u0] ∧ a = [x0, x1, x2, x3, x4, x5])
  | [], [x0], _ => .inl ⟨x0, rfl, rfl⟩
  | [], [x0, x1], _ => .inr (.inl ⟨x0, x1, rfl, rfl⟩)
  | [], [x0, x1, x2], _ => .inr (.inr (.inl ⟨x0, x1, x2, rfl, rfl⟩))
  | [], [x0, x1, x2, x3], _ => .inr (.inr (.inr (.inl ⟨x0, x1, x2, x3, rfl, rfl⟩)))
  | [], [x0, x1, x2, x3, x4], _ => .inr (.inr (.inr (.inr (.inl ⟨x0, x1, x2, x3, x4, rfl, rfl⟩))))
  | [], [x0, x1, x2, x3, x4, x5], _ => .inr (.inr (.inr (.inr (.inr (.inl ⟨x0, x1, x2, x3, x4, x5, rfl, rfl⟩)))))
  | [u0], [x0, x1, x2, x3, x4, x5], _ => .inr (.inr (.inr (.inr (.inr (.inr (⟨u0, x0, x1, x2, x3, x4, x5, rfl, rfl⟩))))))
  | _ :: _ :: _, _, h => by rcases h.2 with h | ⟨_, h⟩ <;> simp at h
  | _, [], h => absurd h.1 (by decide)
  | _, _ :: _ :: _ :: _ :: _ :: _ :: _ :: _, h => absurd (polyB_at h.1).2.1 (by simp)
  | [_], [_], h => by rcases h.2 with h | ⟨h, _⟩ <;> simp at h
  | [_], [_, _], h => by rcases h.2 with h | ⟨h, _⟩ <;> simp at h
  | [_], [_, _, _], h => by rcases h.2 with h | ⟨h, _⟩ <;> simp at h
  | [_], [_, _, _, _], h => by rcases h.2 with h | ⟨h, _⟩ <;> simp at h
  | [_], [_, _, _, _, _], h => by rcases h.2 with h | ⟨h, _⟩ <;> simp at h
end Go.Proofs.YtiicbenhhdbnoaaDoor

/- Chapter 09: bounds made of any numbers. Written by wip/tools/genB4.py. -/
namespace Go.Proofs.YtiicbenhhdbnoaaDoor
open Go Go.AE
set_option maxRecDepth 100000
noncomputable def ev30 (F : List (Nat × RuleF)) : Ev := evK [] F
def s30 (na oa : Nat) (W : List DV) (n : Nat) (c nl : Bool) (X H : List DV) (i : Int) : St := ⟨[(1, .d (.sl W n 1 c nl)), (6, AV.row 0 oa na na 1 false), (7, AV.grow 1 1 false), (8, .d (iD i))], [.dc X, .dc H], []⟩
def up9 (x w : Int) : Int := if IntKind.wrap IntKind.i64 (x + IntKind.wrap IntKind.i64 (Int.tmod (IntKind.wrap IntKind.u64 w) 9)) < 30 then IntKind.wrap IntKind.i64 (x + IntKind.wrap IntKind.i64 (Int.tmod (IntKind.wrap IntKind.u64 w) 9)) else 30
def R30 {R : Type} (W H : List DV) (n i : Nat) (x : Int) (K : Int → Option R) : Option R :=
  bif decide ((i : Int) < (n : Int)) then (bif inRange (i : Int) n then (getI (nth W i) fun w => bif Nat.ble (lenOf 1 H.length + 1) 1048576 then K (up9 x w) else none) else none)
  else bif Nat.ble (lenOf 1 H.length + 1) 1048576 then K x else none
theorem up9_b {x : Int} (w : Int) (hx : -30 ≤ x ∧ x ≤ 30) : x ≤ up9 x w ∧ up9 x w ≤ 30 := by
  have h0 : 0 ≤ IntKind.wrap .u64 w := by rw [wrapU_eq]; omega
  have h1 : Int.tmod (IntKind.wrap .u64 w) 9 = (IntKind.wrap .u64 w) % 9 := Int.tmod_eq_emod_of_nonneg h0
  unfold up9
  rw [h1, wrap64_o (n := IntKind.wrap .u64 w % 9) (by omega) (by omega), wrap64_o (by omega) (by omega)]
  split <;> omega
theorem R30_ok {R : Type} {w : List Int} {H : List DV} {i : Nat} {x : Int} {K : Int → Option R} (hx : -30 ≤ x ∧ x ≤ 30) (hH : H.length ≤ 10) : ∃ v, (x ≤ v ∧ v ≤ 30) ∧ R30 (ints w) H w.length i x K = K v := by
  have hb : Nat.ble (lenOf 1 H.length + 1) 1048576 = true := Nat.ble_eq_true_of_le (by show H.length + 1 ≤ _; omega)
  unfold R30
  rw [hb]
  by_cases h : i < w.length
  · exact ⟨up9 x (w.getD i 0), up9_b _ hx, (cnd_pos (by omega)).trans ((inR_pos (by omega) (by omega)).trans (by rw [nth_ints_o h]; rfl))⟩
  · exact ⟨x, ⟨Int.le_refl _, hx.2⟩, cnd_neg (by omega)⟩
theorem k30 : OkSeg Tryd.f30 none [0] := ⟨by kernel_rfl, by kernel_rfl, by decide⟩
theorem k30_0 : OkSeg Tryd.f30 (some 0) [] := ⟨by kernel_rfl, by kernel_rfl, by decide⟩
/-- Bounds: the lesser ones are a polynomial with a last coefficient greater than 0; the others are at least these, and at most 30. -/
def bndB (lo hi : List Int) : Prop := polyB lo = true ∧ 0 < lastI lo ∧ hi.length = lo.length ∧ leB lo hi = true ∧ ∀ v ∈ hi, v ≤ 30
theorem neg_b {x : Int} (h : -30 ≤ x ∧ x ≤ 30) : IntKind.wrap .i64 (0 - x) = -x := by rw [wrap64_o (by omega) (by omega)]; omega

theorem r30h_10 (l : DV) (W : List DV) (n : Nat) (c nl : Bool) (x0 : Int) : startS aeC2 (ev30 [(12, oneF [.d l] [] (.row 0 0 1 1 1 false) [.dc [iD x0]])]) 30 0 Tryd.f30 none ⟨envOf 0 [.d l, .d (.sl W n 1 c nl)], [], []⟩ (heldD aeC2 30 0) = bif isAt [AV.d l] [.d l] && isAt ([] : List Blk) [] then (bif decide (x0 < 0) then some (0, s30 1 0 W n c nl [iD (IntKind.wrap .i64 (0 - x0))] [] 0) else some (0, s30 1 0 W n c nl [iD x0] [] 0)) else none := by kernel_rfl
theorem r30_10_0 (F : List (Nat × RuleF)) (W H : List DV) (n : Nat) (c nl : Bool) (x0 : Int) : startS aeC2 (ev30 F) 30 0 Tryd.f30 (some 0) (s30 1 0 W n c nl [iD x0] H 0) (roundD aeC2 30 0 0) = R30 W H n 0 x0 fun v => some (.norm, s30 1 0 W n c nl [iD x0] (H ++ [iD v]) 1) := by kernel_rfl
theorem r30_10_x (F : List (Nat × RuleF)) (W H : List DV) (n : Nat) (c nl : Bool) (x0 : Int) : startS aeC2 (ev30 F) 30 0 Tryd.f30 (some 0) (s30 1 0 W n c nl [iD x0] H 1) (roundD aeC2 30 0 0) = some (.exit 0, ⟨[(6, AV.row 0 0 1 1 1 false), (7, AV.grow 1 1 false)], [.dc [iD x0], .dc H], []⟩) := by kernel_rfl
theorem r30_10_z (F : List (Nat × RuleF)) (x0 v0 : Int) : nextS aeC2 (ev30 F) 30 0 Tryd.f30 none 0 (.exit 0) ⟨[(6, AV.row 0 0 1 1 1 false), (7, AV.grow 1 1 false)], [.dc [iD x0], .dc [iD v0]], []⟩ (doneE aeC2 Tryd.f30 0 fun v h => freezeV h 4 v) = some (.tup [ls [x0] false false, ls [v0] false false]) := by kernel_rfl
theorem G30_10 (F : List (Nat × RuleF)) (w : List Int) (c nl : Bool) (x0 : Int) (hx : ∀ q ∈ [x0], -30 ≤ q ∧ q ≤ 30) : ∃ hi : List Int, hi.length = 1 ∧ leB [x0] hi = true ∧ (∀ q ∈ hi, q ≤ 30) ∧ ∃ S, LoopAt aeC2 (ev30 F) 30 0 Tryd.f30 0 (s30 1 0 (ints w) w.length c nl [iD x0] [] 0) (.exit 0) S ∧ nextS aeC2 (ev30 F) 30 0 Tryd.f30 none 0 (.exit 0) S (doneE aeC2 Tryd.f30 0 fun v h => freezeV h 4 v) = some (.tup [ls [x0] false false, ls hi false false]) := by
  obtain ⟨v0, h0, e0⟩ := R30_ok (w := w) (H := []) (i := 0) (x := x0) (K := fun v => some (Ex.norm, s30 1 0 (ints w) w.length c nl [iD x0] ([] ++ [iD v]) 1)) (hx _ (by simp)) (by simp)
  refine ⟨[v0], rfl, by simp only [leB, Bool.and_true, Bool.and_eq_true, decide_eq_true_eq]; exact h0.1, ?_, _, .next k30_0 ((r30_10_0 F (ints w) [] w.length c nl x0).trans e0) (.out k30_0 (by simp) (r30_10_x F (ints w) [iD v0] w.length c nl x0)), r30_10_z F x0 v0⟩
  intro q hq; simp only [List.mem_cons, List.not_mem_nil, or_false] at hq; rcases hq with rfl <;> first | exact h0.2
theorem c30_10 (l w : List Int) (c nl c2 nl2 : Bool) (x0 : Int) (hp : polyB [x0] = true) (h12 : CallOK Tryd.prog 12 [.d (ls l c nl)] [] (.row 0 0 1 1 1 false) [.dc [iD x0]]) : ∃ lo hi, bndB lo hi ∧ PureOK Tryd.prog 30 [ls l c nl, ls w c2 nl2] (.tup [ls lo false false, ls hi false false]) := by
  obtain ⟨_, _, hx, hl⟩ := polyB_at hp
  have hE : EvOK Tryd.prog (ev30 [(12, oneF [.d (ls l c nl)] [] (.row 0 0 1 1 1 false) [.dc [iD x0]])]) := evK_ok trivial ⟨oneF_ok h12, trivial⟩
  have hg : (isAt [AV.d (ls l c nl)] [.d (ls l c nl)] && isAt ([] : List Blk) []) = true := by rw [isAt_self, isAt_self]; rfl
  have hb : -30 ≤ x0 ∧ x0 ≤ 30 := hx _ (by simp)
  have hl' : x0 ≠ 0 := hl
  by_cases hn : x0 < 0
  · have hx' : ∀ q ∈ [(IntKind.wrap .i64 (0 - x0))], -30 ≤ q ∧ q ≤ 30 := by
      intro q hq
      simp only [List.mem_cons, List.not_mem_nil, or_false] at hq
      rcases hq with rfl <;> first | (rw [neg_b hb]; omega) | exact hx _ (by simp)
    obtain ⟨hi, g1, g2, g3, S, g4, g5⟩ := G30_10 [(12, oneF [.d (ls l c nl)] [] (.row 0 0 1 1 1 false) [.dc [iD x0]])] w c2 nl2  (IntKind.wrap .i64 (0 - x0)) hx'
    refine ⟨[(IntKind.wrap .i64 (0 - x0))], hi, ⟨polyB_mk (by simp) (by simp) hx' (by show IntKind.wrap .i64 (0 - x0) ≠ 0; rw [neg_b hb]; omega), (by show 0 < IntKind.wrap .i64 (0 - x0); rw [neg_b hb]; omega), g1, g2, g3⟩, ?_⟩
    exact ae_pure2 hE (fn := Tryd.f30) k30 (by kernel_rfl) (by kernel_rfl) ((startF_seg k30 ((r30h_10 (ls l c nl) (ints w) w.length c2 nl2 x0).trans ((cond_is hg).trans (cnd_pos hn))) g4).trans (nextF_done k30 done_plain g5))
  · obtain ⟨hi, g1, g2, g3, S, g4, g5⟩ := G30_10 [(12, oneF [.d (ls l c nl)] [] (.row 0 0 1 1 1 false) [.dc [iD x0]])] w c2 nl2 x0 hx
    refine ⟨[x0], hi, ⟨hp, (by show 0 < x0; omega), g1, g2, g3⟩, ?_⟩
    exact ae_pure2 hE (fn := Tryd.f30) k30 (by kernel_rfl) (by kernel_rfl) ((startF_seg k30 ((r30h_10 (ls l c nl) (ints w) w.length c2 nl2 x0).trans ((cond_is hg).trans (cnd_neg hn))) g4).trans (nextF_done k30 done_plain g5))
theorem r30h_20 (l : DV) (W : List DV) (n : Nat) (c nl : Bool) (x0 x1 : Int) : startS aeC2 (ev30 [(12, oneF [.d l] [] (.row 0 0 2 2 1 false) [.dc [iD x0, iD x1]])]) 30 0 Tryd.f30 none ⟨envOf 0 [.d l, .d (.sl W n 1 c nl)], [], []⟩ (heldD aeC2 30 0) = bif isAt [AV.d l] [.d l] && isAt ([] : List Blk) [] then (bif decide (x1 < 0) then some (0, s30 2 0 W n c nl [iD x0, iD (IntKind.wrap .i64 (0 - x1))] [] 0) else some (0, s30 2 0 W n c nl [iD x0, iD x1] [] 0)) else none := by kernel_rfl
theorem r30_20_0 (F : List (Nat × RuleF)) (W H : List DV) (n : Nat) (c nl : Bool) (x0 x1 : Int) : startS aeC2 (ev30 F) 30 0 Tryd.f30 (some 0) (s30 2 0 W n c nl [iD x0, iD x1] H 0) (roundD aeC2 30 0 0) = R30 W H n 0 x0 fun v => some (.norm, s30 2 0 W n c nl [iD x0, iD x1] (H ++ [iD v]) 1) := by kernel_rfl
theorem r30_20_1 (F : List (Nat × RuleF)) (W H : List DV) (n : Nat) (c nl : Bool) (x0 x1 : Int) : startS aeC2 (ev30 F) 30 0 Tryd.f30 (some 0) (s30 2 0 W n c nl [iD x0, iD x1] H 1) (roundD aeC2 30 0 0) = R30 W H n 1 x1 fun v => some (.norm, s30 2 0 W n c nl [iD x0, iD x1] (H ++ [iD v]) 2) := by kernel_rfl
theorem r30_20_x (F : List (Nat × RuleF)) (W H : List DV) (n : Nat) (c nl : Bool) (x0 x1 : Int) : startS aeC2 (ev30 F) 30 0 Tryd.f30 (some 0) (s30 2 0 W n c nl [iD x0, iD x1] H 2) (roundD aeC2 30 0 0) = some (.exit 0, ⟨[(6, AV.row 0 0 2 2 1 false), (7, AV.grow 1 1 false)], [.dc [iD x0, iD x1], .dc H], []⟩) := by kernel_rfl
theorem r30_20_z (F : List (Nat × RuleF)) (x0 x1 v0 v1 : Int) : nextS aeC2 (ev30 F) 30 0 Tryd.f30 none 0 (.exit 0) ⟨[(6, AV.row 0 0 2 2 1 false), (7, AV.grow 1 1 false)], [.dc [iD x0, iD x1], .dc [iD v0, iD v1]], []⟩ (doneE aeC2 Tryd.f30 0 fun v h => freezeV h 4 v) = some (.tup [ls [x0, x1] false false, ls [v0, v1] false false]) := by kernel_rfl
theorem G30_20 (F : List (Nat × RuleF)) (w : List Int) (c nl : Bool) (x0 x1 : Int) (hx : ∀ q ∈ [x0, x1], -30 ≤ q ∧ q ≤ 30) : ∃ hi : List Int, hi.length = 2 ∧ leB [x0, x1] hi = true ∧ (∀ q ∈ hi, q ≤ 30) ∧ ∃ S, LoopAt aeC2 (ev30 F) 30 0 Tryd.f30 0 (s30 2 0 (ints w) w.length c nl [iD x0, iD x1] [] 0) (.exit 0) S ∧ nextS aeC2 (ev30 F) 30 0 Tryd.f30 none 0 (.exit 0) S (doneE aeC2 Tryd.f30 0 fun v h => freezeV h 4 v) = some (.tup [ls [x0, x1] false false, ls hi false false]) := by
  obtain ⟨v0, h0, e0⟩ := R30_ok (w := w) (H := []) (i := 0) (x := x0) (K := fun v => some (Ex.norm, s30 2 0 (ints w) w.length c nl [iD x0, iD x1] ([] ++ [iD v]) 1)) (hx _ (by simp)) (by simp)
  obtain ⟨v1, h1, e1⟩ := R30_ok (w := w) (H := [iD v0]) (i := 1) (x := x1) (K := fun v => some (Ex.norm, s30 2 0 (ints w) w.length c nl [iD x0, iD x1] ([iD v0] ++ [iD v]) 2)) (hx _ (by simp)) (by simp)
  refine ⟨[v0, v1], rfl, by simp only [leB, Bool.and_true, Bool.and_eq_true, decide_eq_true_eq]; exact ⟨h0.1 , h1.1⟩, ?_, _, .next k30_0 ((r30_20_0 F (ints w) [] w.length c nl x0 x1).trans e0) (.next k30_0 ((r30_20_1 F (ints w) [iD v0] w.length c nl x0 x1).trans e1) (.out k30_0 (by simp) (r30_20_x F (ints w) [iD v0, iD v1] w.length c nl x0 x1))), r30_20_z F x0 x1 v0 v1⟩
  intro q hq; simp only [List.mem_cons, List.not_mem_nil, or_false] at hq; rcases hq with rfl|rfl <;> first | exact h0.2 | exact h1.2
theorem c30_20 (l w : List Int) (c nl c2 nl2 : Bool) (x0 x1 : Int) (hp : polyB [x0, x1] = true) (h12 : CallOK Tryd.prog 12 [.d (ls l c nl)] [] (.row 0 0 2 2 1 false) [.dc [iD x0, iD x1]]) : ∃ lo hi, bndB lo hi ∧ PureOK Tryd.prog 30 [ls l c nl, ls w c2 nl2] (.tup [ls lo false false, ls hi false false]) := by
  obtain ⟨_, _, hx, hl⟩ := polyB_at hp
  have hE : EvOK Tryd.prog (ev30 [(12, oneF [.d (ls l c nl)] [] (.row 0 0 2 2 1 false) [.dc [iD x0, iD x1]])]) := evK_ok trivial ⟨oneF_ok h12, trivial⟩
  have hg : (isAt [AV.d (ls l c nl)] [.d (ls l c nl)] && isAt ([] : List Blk) []) = true := by rw [isAt_self, isAt_self]; rfl
  have hb : -30 ≤ x1 ∧ x1 ≤ 30 := hx _ (by simp)
  have hl' : x1 ≠ 0 := hl
  by_cases hn : x1 < 0
  · have hx' : ∀ q ∈ [x0, (IntKind.wrap .i64 (0 - x1))], -30 ≤ q ∧ q ≤ 30 := by
      intro q hq
      simp only [List.mem_cons, List.not_mem_nil, or_false] at hq
      rcases hq with rfl|rfl <;> first | (rw [neg_b hb]; omega) | exact hx _ (by simp)
    obtain ⟨hi, g1, g2, g3, S, g4, g5⟩ := G30_20 [(12, oneF [.d (ls l c nl)] [] (.row 0 0 2 2 1 false) [.dc [iD x0, iD x1]])] w c2 nl2 x0 (IntKind.wrap .i64 (0 - x1)) hx'
    refine ⟨[x0, (IntKind.wrap .i64 (0 - x1))], hi, ⟨polyB_mk (by simp) (by simp) hx' (by show IntKind.wrap .i64 (0 - x1) ≠ 0; rw [neg_b hb]; omega), (by show 0 < IntKind.wrap .i64 (0 - x1); rw [neg_b hb]; omega), g1, g2, g3⟩, ?_⟩
    exact ae_pure2 hE (fn := Tryd.f30) k30 (by kernel_rfl) (by kernel_rfl) ((startF_seg k30 ((r30h_20 (ls l c nl) (ints w) w.length c2 nl2 x0 x1).trans ((cond_is hg).trans (cnd_pos hn))) g4).trans (nextF_done k30 done_plain g5))
  · obtain ⟨hi, g1, g2, g3, S, g4, g5⟩ := G30_20 [(12, oneF [.d (ls l c nl)] [] (.row 0 0 2 2 1 false) [.dc [iD x0, iD x1]])] w c2 nl2 x0 x1 hx
    refine ⟨[x0, x1], hi, ⟨hp, (by show 0 < x1; omega), g1, g2, g3⟩, ?_⟩
    exact ae_pure2 hE (fn := Tryd.f30) k30 (by kernel_rfl) (by kernel_rfl) ((startF_seg k30 ((r30h_20 (ls l c nl) (ints w) w.length c2 nl2 x0 x1).trans ((cond_is hg).trans (cnd_neg hn))) g4).trans (nextF_done k30 done_plain g5))
theorem r30h_30 (l : DV) (W : List DV) (n : Nat) (c nl : Bool) (x0 x1 x2 : Int) : startS aeC2 (ev30 [(12, oneF [.d l] [] (.row 0 0 3 3 1 false) [.dc [iD x0, iD x1, iD x2]])]) 30 0 Tryd.f30 none ⟨envOf 0 [.d l, .d (.sl W n 1 c nl)], [], []⟩ (heldD aeC2 30 0) = bif isAt [AV.d l] [.d l] && isAt ([] : List Blk) [] then (bif decide (x2 < 0) then some (0, s30 3 0 W n c nl [iD x0, iD x1, iD (IntKind.wrap .i64 (0 - x2))] [] 0) else some (0, s30 3 0 W n c nl [iD x0, iD x1, iD x2] [] 0)) else none := by kernel_rfl
theorem r30_30_0 (F : List (Nat × RuleF)) (W H : List DV) (n : Nat) (c nl : Bool) (x0 x1 x2 : Int) : startS aeC2 (ev30 F) 30 0 Tryd.f30 (some 0) (s30 3 0 W n c nl [iD x0, iD x1, iD x2] H 0) (roundD aeC2 30 0 0) = R30 W H n 0 x0 fun v => some (.norm, s30 3 0 W n c nl [iD x0, iD x1, iD x2] (H ++ [iD v]) 1) := by kernel_rfl
theorem r30_30_1 (F : List (Nat × RuleF)) (W H : List DV) (n : Nat) (c nl : Bool) (x0 x1 x2 : Int) : startS aeC2 (ev30 F) 30 0 Tryd.f30 (some 0) (s30 3 0 W n c nl [iD x0, iD x1, iD x2] H 1) (roundD aeC2 30 0 0) = R30 W H n 1 x1 fun v => some (.norm, s30 3 0 W n c nl [iD x0, iD x1, iD x2] (H ++ [iD v]) 2) := by kernel_rfl
theorem r30_30_2 (F : List (Nat × RuleF)) (W H : List DV) (n : Nat) (c nl : Bool) (x0 x1 x2 : Int) : startS aeC2 (ev30 F) 30 0 Tryd.f30 (some 0) (s30 3 0 W n c nl [iD x0, iD x1, iD x2] H 2) (roundD aeC2 30 0 0) = R30 W H n 2 x2 fun v => some (.norm, s30 3 0 W n c nl [iD x0, iD x1, iD x2] (H ++ [iD v]) 3) := by kernel_rfl
theorem r30_30_x (F : List (Nat × RuleF)) (W H : List DV) (n : Nat) (c nl : Bool) (x0 x1 x2 : Int) : startS aeC2 (ev30 F) 30 0 Tryd.f30 (some 0) (s30 3 0 W n c nl [iD x0, iD x1, iD x2] H 3) (roundD aeC2 30 0 0) = some (.exit 0, ⟨[(6, AV.row 0 0 3 3 1 false), (7, AV.grow 1 1 false)], [.dc [iD x0, iD x1, iD x2], .dc H], []⟩) := by kernel_rfl
theorem r30_30_z (F : List (Nat × RuleF)) (x0 x1 x2 v0 v1 v2 : Int) : nextS aeC2 (ev30 F) 30 0 Tryd.f30 none 0 (.exit 0) ⟨[(6, AV.row 0 0 3 3 1 false), (7, AV.grow 1 1 false)], [.dc [iD x0, iD x1, iD x2], .dc [iD v0, iD v1, iD v2]], []⟩ (doneE aeC2 Tryd.f30 0 fun v h => freezeV h 4 v) = some (.tup [ls [x0, x1, x2] false false, ls [v0, v1, v2] false false]) := by kernel_rfl
theorem G30_30 (F : List (Nat × RuleF)) (w : List Int) (c nl : Bool) (x0 x1 x2 : Int) (hx : ∀ q ∈ [x0, x1, x2], -30 ≤ q ∧ q ≤ 30) : ∃ hi : List Int, hi.length = 3 ∧ leB [x0, x1, x2] hi = true ∧ (∀ q ∈ hi, q ≤ 30) ∧ ∃ S, LoopAt aeC2 (ev30 F) 30 0 Tryd.f30 0 (s30 3 0 (ints w) w.length c nl [iD x0, iD x1, iD x2] [] 0) (.exit 0) S ∧ nextS aeC2 (ev30 F) 30 0 Tryd.f30 none 0 (.exit 0) S (doneE aeC2 Tryd.f30 0 fun v h => freezeV h 4 v) = some (.tup [ls [x0, x1, x2] false false, ls hi false false]) := by
  obtain ⟨v0, h0, e0⟩ := R30_ok (w := w) (H := []) (i := 0) (x := x0) (K := fun v => some (Ex.norm, s30 3 0 (ints w) w.length c nl [iD x0, iD x1, iD x2] ([] ++ [iD v]) 1)) (hx _ (by simp)) (by simp)
  obtain ⟨v1, h1, e1⟩ := R30_ok (w := w) (H := [iD v0]) (i := 1) (x := x1) (K := fun v => some (Ex.norm, s30 3 0 (ints w) w.length c nl [iD x0, iD x1, iD x2] ([iD v0] ++ [iD v]) 2)) (hx _ (by simp)) (by simp)
  obtain ⟨v2, h2, e2⟩ := R30_ok (w := w) (H := [iD v0, iD v1]) (i := 2) (x := x2) (K := fun v => some (Ex.norm, s30 3 0 (ints w) w.length c nl [iD x0, iD x1, iD x2] ([iD v0, iD v1] ++ [iD v]) 3)) (hx _ (by simp)) (by simp)
  refine ⟨[v0, v1, v2], rfl, by simp only [leB, Bool.and_true, Bool.and_eq_true, decide_eq_true_eq]; exact ⟨h0.1 , h1.1 , h2.1⟩, ?_, _, .next k30_0 ((r30_30_0 F (ints w) [] w.length c nl x0 x1 x2).trans e0) (.next k30_0 ((r30_30_1 F (ints w) [iD v0] w.length c nl x0 x1 x2).trans e1) (.next k30_0 ((r30_30_2 F (ints w) [iD v0, iD v1] w.length c nl x0 x1 x2).trans e2) (.out k30_0 (by simp) (r30_30_x F (ints w) [iD v0, iD v1, iD v2] w.length c nl x0 x1 x2)))), r30_30_z F x0 x1 x2 v0 v1 v2⟩
  intro q hq; simp only [List.mem_cons, List.not_mem_nil, or_false] at hq; rcases hq with rfl|rfl|rfl <;> first | exact h0.2 | exact h1.2 | exact h2.2
theorem c30_30 (l w : List Int) (c nl c2 nl2 : Bool) (x0 x1 x2 : Int) (hp : polyB [x0, x1, x2] = true) (h12 : CallOK Tryd.prog 12 [.d (ls l c nl)] [] (.row 0 0 3 3 1 false) [.dc [iD x0, iD x1, iD x2]]) : ∃ lo hi, bndB lo hi ∧ PureOK Tryd.prog 30 [ls l c nl, ls w c2 nl2] (.tup [ls lo false false, ls hi false false]) := by
  obtain ⟨_, _, hx, hl⟩ := polyB_at hp
  have hE : EvOK Tryd.prog (ev30 [(12, oneF [.d (ls l c nl)] [] (.row 0 0 3 3 1 false) [.dc [iD x0, iD x1, iD x2]])]) := evK_ok trivial ⟨oneF_ok h12, trivial⟩
  have hg : (isAt [AV.d (ls l c nl)] [.d (ls l c nl)] && isAt ([] : List Blk) []) = true := by rw [isAt_self, isAt_self]; rfl
  have hb : -30 ≤ x2 ∧ x2 ≤ 30 := hx _ (by simp)
  have hl' : x2 ≠ 0 := hl
  by_cases hn : x2 < 0
  · have hx' : ∀ q ∈ [x0, x1, (IntKind.wrap .i64 (0 - x2))], -30 ≤ q ∧ q ≤ 30 := by
      intro q hq
      simp only [List.mem_cons, List.not_mem_nil, or_false] at hq
      rcases hq with rfl|rfl|rfl <;> first | (rw [neg_b hb]; omega) | exact hx _ (by simp)
    obtain ⟨hi, g1, g2, g3, S, g4, g5⟩ := G30_30 [(12, oneF [.d (ls l c nl)] [] (.row 0 0 3 3 1 false) [.dc [iD x0, iD x1, iD x2]])] w c2 nl2 x0 x1 (IntKind.wrap .i64 (0 - x2)) hx'
    refine ⟨[x0, x1, (IntKind.wrap .i64 (0 - x2))], hi, ⟨polyB_mk (by simp) (by simp) hx' (by show IntKind.wrap .i64 (0 - x2) ≠ 0; rw [neg_b hb]; omega), (by show 0 < IntKind.wrap .i64 (0 - x2); rw [neg_b hb]; omega), g1, g2, g3⟩, ?_⟩
    exact ae_pure2 hE (fn := Tryd.f30) k30 (by kernel_rfl) (by kernel_rfl) ((startF_seg k30 ((r30h_30 (ls l c nl) (ints w) w.length c2 nl2 x0 x1 x2).trans ((cond_is hg).trans (cnd_pos hn))) g4).trans (nextF_done k30 done_plain g5))
  · obtain ⟨hi, g1, g2, g3, S, g4, g5⟩ := G30_30 [(12, oneF [.d (ls l c nl)] [] (.row 0 0 3 3 1 false) [.dc [iD x0, iD x1, iD x2]])] w c2 nl2 x0 x1 x2 hx
    refine ⟨[x0, x1, x2], hi, ⟨hp, (by show 0 < x2; omega), g1, g2, g3⟩, ?_⟩
    exact ae_pure2 hE (fn := Tryd.f30) k30 (by kernel_rfl) (by kernel_rfl) ((startF_seg k30 ((r30h_30 (ls l c nl) (ints w) w.length c2 nl2 x0 x1 x2).trans ((cond_is hg).trans (cnd_neg hn))) g4).trans (nextF_done k30 done_plain g5))
theorem r30h_40 (l : DV) (W : List DV) (n : Nat) (c nl : Bool) (x0 x1 x2 x3 : Int) : startS aeC2 (ev30 [(12, oneF [.d l] [] (.row 0 0 4 4 1 false) [.dc [iD x0, iD x1, iD x2, iD x3]])]) 30 0 Tryd.f30 none ⟨envOf 0 [.d l, .d (.sl W n 1 c nl)], [], []⟩ (heldD aeC2 30 0) = bif isAt [AV.d l] [.d l] && isAt ([] : List Blk) [] then (bif decide (x3 < 0) then some (0, s30 4 0 W n c nl [iD x0, iD x1, iD x2, iD (IntKind.wrap .i64 (0 - x3))] [] 0) else some (0, s30 4 0 W n c nl [iD x0, iD x1, iD x2, iD x3] [] 0)) else none := by kernel_rfl
theorem r30_40_0 (F : List (Nat × RuleF)) (W H : List DV) (n : Nat) (c nl : Bool) (x0 x1 x2 x3 : Int) : startS aeC2 (ev30 F) 30 0 Tryd.f30 (some 0) (s30 4 0 W n c nl [iD x0, iD x1, iD x2, iD x3] H 0) (roundD aeC2 30 0 0) = R30 W H n 0 x0 fun v => some (.norm, s30 4 0 W n c nl [iD x0, iD x1, iD x2, iD x3] (H ++ [iD v]) 1) := by kernel_rfl
theorem r30_40_1 (F : List (Nat × RuleF)) (W H : List DV) (n : Nat) (c nl : Bool) (x0 x1 x2 x3 : Int) : startS aeC2 (ev30 F) 30 0 Tryd.f30 (some 0) (s30 4 0 W n c nl [iD x0, iD x1, iD x2, iD x3] H 1) (roundD aeC2 30 0 0) = R30 W H n 1 x1 fun v => some (.norm, s30 4 0 W n c nl [iD x0, iD x1, iD x2, iD x3] (H ++ [iD v]) 2) := by kernel_rfl
theorem r30_40_2 (F : List (Nat × RuleF)) (W H : List DV) (n : Nat) (c nl : Bool) (x0 x1 x2 x3 : Int) : startS aeC2 (ev30 F) 30 0 Tryd.f30 (some 0) (s30 4 0 W n c nl [iD x0, iD x1, iD x2, iD x3] H 2) (roundD aeC2 30 0 0) = R30 W H n 2 x2 fun v => some (.norm, s30 4 0 W n c nl [iD x0, iD x1, iD x2, iD x3] (H ++ [iD v]) 3) := by kernel_rfl
theorem r30_40_3 (F : List (Nat × RuleF)) (W H : List DV) (n : Nat) (c nl : Bool) (x0 x1 x2 x3 : Int) : startS aeC2 (ev30 F) 30 0 Tryd.f30 (some 0) (s30 4 0 W n c nl [iD x0, iD x1, iD x2, iD x3] H 3) (roundD aeC2 30 0 0) = R30 W H n 3 x3 fun v => some (.norm, s30 4 0 W n c nl [iD x0, iD x1, iD x2, iD x3] (H ++ [iD v]) 4) := by kernel_rfl
theorem r30_40_x (F : List (Nat × RuleF)) (W H : List DV) (n : Nat) (c nl : Bool) (x0 x1 x2 x3 : Int) : startS aeC2 (ev30 F) 30 0 Tryd.f30 (some 0) (s30 4 0 W n c nl [iD x0, iD x1, iD x2, iD x3] H 4) (roundD aeC2 30 0 0) = some (.exit 0, ⟨[(6, AV.row 0 0 4 4 1 false), (7, AV.grow 1 1 false)], [.dc [iD x0, iD x1, iD x2, iD x3], .dc H], []⟩) := by kernel_rfl
theorem r30_40_z (F : List (Nat × RuleF)) (x0 x1 x2 x3 v0 v1 v2 v3 : Int) : nextS aeC2 (ev30 F) 30 0 Tryd.f30 none 0 (.exit 0) ⟨[(6, AV.row 0 0 4 4 1 false), (7, AV.grow 1 1 false)], [.dc [iD x0, iD x1, iD x2, iD x3], .dc [iD v0, iD v1, iD v2, iD v3]], []⟩ (doneE aeC2 Tryd.f30 0 fun v h => freezeV h 4 v) = some (.tup [ls [x0, x1, x2, x3] false false, ls [v0, v1, v2, v3] false false]) := by kernel_rfl
theorem G30_40 (F : List (Nat × RuleF)) (w : List Int) (c nl : Bool) (x0 x1 x2 x3 : Int) (hx : ∀ q ∈ [x0, x1, x2, x3], -30 ≤ q ∧ q ≤ 30) : ∃ hi : List Int, hi.length = 4 ∧ leB [x0, x1, x2, x3] hi = true ∧ (∀ q ∈ hi, q ≤ 30) ∧ ∃ S, LoopAt aeC2 (ev30 F) 30 0 Tryd.f30 0 (s30 4 0 (ints w) w.length c nl [iD x0, iD x1, iD x2, iD x3] [] 0) (.exit 0) S ∧ nextS aeC2 (ev30 F) 30 0 Tryd.f30 none 0 (.exit 0) S (doneE aeC2 Tryd.f30 0 fun v h => freezeV h 4 v) = some (.tup [ls [x0, x1, x2, x3] false false, ls hi false false]) := by
  obtain ⟨v0, h0, e0⟩ := R30_ok (w := w) (H := []) (i := 0) (x := x0) (K := fun v => some (Ex.norm, s30 4 0 (ints w) w.length c nl [iD x0, iD x1, iD x2, iD x3] ([] ++ [iD v]) 1)) (hx _ (by simp)) (by simp)
  obtain ⟨v1, h1, e1⟩ := R30_ok (w := w) (H := [iD v0]) (i := 1) (x := x1) (K := fun v => some (Ex.norm, s30 4 0 (ints w) w.length c nl [iD x0, iD x1, iD x2, iD x3] ([iD v0] ++ [iD v]) 2)) (hx _ (by simp)) (by simp)
  obtain ⟨v2, h2, e2⟩ := R30_ok (w := w) (H := [iD v0, iD v1]) (i := 2) (x := x2) (K := fun v => some (Ex.norm, s30 4 0 (ints w) w.length c nl [iD x0, iD x1, iD x2, iD x3] ([iD v0, iD v1] ++ [iD v]) 3)) (hx _ (by simp)) (by simp)
  obtain ⟨v3, h3, e3⟩ := R30_ok (w := w) (H := [iD v0, iD v1, iD v2]) (i := 3) (x := x3) (K := fun v => some (Ex.norm, s30 4 0 (ints w) w.length c nl [iD x0, iD x1, iD x2, iD x3] ([iD v0, iD v1, iD v2] ++ [iD v]) 4)) (hx _ (by simp)) (by simp)
  refine ⟨[v0, v1, v2, v3], rfl, by simp only [leB, Bool.and_true, Bool.and_eq_true, decide_eq_true_eq]; exact ⟨h0.1 , h1.1 , h2.1 , h3.1⟩, ?_, _, .next k30_0 ((r30_40_0 F (ints w) [] w.length c nl x0 x1 x2 x3).trans e0) (.next k30_0 ((r30_40_1 F (ints w) [iD v0] w.length c nl x0 x1 x2 x3).trans e1) (.next k30_0 ((r30_40_2 F (ints w) [iD v0, iD v1] w.length c nl x0 x1 x2 x3).trans e2) (.next k30_0 ((r30_40_3 F (ints w) [iD v0, iD v1, iD v2] w.length c nl x0 x1 x2 x3).trans e3) (.out k30_0 (by simp) (r30_40_x F (ints w) [iD v0, iD v1, iD v2, iD v3] w.length c nl x0 x1 x2 x3))))), r30_40_z F x0 x1 x2 x3 v0 v1 v2 v3⟩
  intro q hq; simp only [List.mem_cons, List.not_mem_nil, or_false] at hq; rcases hq with rfl|rfl|rfl|rfl <;> first | exact h0.2 | exact h1.2 | exact h2.2 | exact h3.2
theorem c30_40 (l w : List Int) (c nl c2 nl2 : Bool) (x0 x1 x2 x3 : Int) (hp : polyB [x0, x1, x2, x3] = true) (h12 : CallOK Tryd.prog 12 [.d (ls l c nl)] [] (.row 0 0 4 4 1 false) [.dc [iD x0, iD x1, iD x2, iD x3]]) : ∃ lo hi, bndB lo hi ∧ PureOK Tryd.prog 30 [ls l c nl, ls w c2 nl2] (.tup [ls lo false false, ls hi false false]) := by
  obtain ⟨_, _, hx, hl⟩ := polyB_at hp
  have hE : EvOK Tryd.prog (ev30 [(12, oneF [.d (ls l c nl)] [] (.row 0 0 4 4 1 false) [.dc [iD x0, iD x1, iD x2, iD x3]])]) := evK_ok trivial ⟨oneF_ok h12, trivial⟩
  have hg : (isAt [AV.d (ls l c nl)] [.d (ls l c nl)] && isAt ([] : List Blk) []) = true := by rw [isAt_self, isAt_self]; rfl
  have hb : -30 ≤ x3 ∧ x3 ≤ 30 := hx _ (by simp)
  have hl' : x3 ≠ 0 := hl
  by_cases hn : x3 < 0
  · have hx' : ∀ q ∈ [x0, x1, x2, (IntKind.wrap .i64 (0 - x3))], -30 ≤ q ∧ q ≤ 30 := by
      intro q hq
      simp only [List.mem_cons, List.not_mem_nil, or_false] at hq
      rcases hq with rfl|rfl|rfl|rfl <;> first | (rw [neg_b hb]; omega) | exact hx _ (by simp)
    obtain ⟨hi, g1, g2, g3, S, g4, g5⟩ := G30_40 [(12, oneF [.d (ls l c nl)] [] (.row 0 0 4 4 1 false) [.dc [iD x0, iD x1, iD x2, iD x3]])] w c2 nl2 x0 x1 x2 (IntKind.wrap .i64 (0 - x3)) hx'
    refine ⟨[x0, x1, x2, (IntKind.wrap .i64 (0 - x3))], hi, ⟨polyB_mk (by simp) (by simp) hx' (by show IntKind.wrap .i64 (0 - x3) ≠ 0; rw [neg_b hb]; omega), (by show 0 < IntKind.wrap .i64 (0 - x3); rw [neg_b hb]; omega), g1, g2, g3⟩, ?_⟩
    exact ae_pure2 hE (fn := Tryd.f30) k30 (by kernel_rfl) (by kernel_rfl) ((startF_seg k30 ((r30h_40 (ls l c nl) (ints w) w.length c2 nl2 x0 x1 x2 x3).trans ((cond_is hg).trans (cnd_pos hn))) g4).trans (nextF_done k30 done_plain g5))
  · obtain ⟨hi, g1, g2, g3, S, g4, g5⟩ := G30_40 [(12, oneF [.d (ls l c nl)] [] (.row 0 0 4 4 1 false) [.dc [iD x0, iD x1, iD x2, iD x3]])] w c2 nl2 x0 x1 x2 x3 hx
    refine ⟨[x0, x1, x2, x3], hi, ⟨hp, (by show 0 < x3; omega), g1, g2, g3⟩, ?_⟩
    exact ae_pure2 hE (fn := Tryd.f30) k30 (by kernel_rfl) (by kernel_rfl) ((startF_seg k30 ((r30h_40 (ls l c nl) (ints w) w.length c2 nl2 x0 x1 x2 x3).trans ((cond_is hg).trans (cnd_neg hn))) g4).trans (nextF_done k30 done_plain g5))
theorem r30h_50 (l : DV) (W : List DV) (n : Nat) (c nl : Bool) (x0 x1 x2 x3 x4 : Int) : startS aeC2 (ev30 [(12, oneF [.d l] [] (.row 0 0 5 5 1 false) [.dc [iD x0, iD x1, iD x2, iD x3, iD x4]])]) 30 0 Tryd.f30 none ⟨envOf 0 [.d l, .d (.sl W n 1 c nl)], [], []⟩ (heldD aeC2 30 0) = bif isAt [AV.d l] [.d l] && isAt ([] : List Blk) [] then (bif decide (x4 < 0) then some (0, s30 5 0 W n c nl [iD x0, iD x1, iD x2, iD x3, iD (IntKind.wrap .i64 (0 - x4))] [] 0) else some (0, s30 5 0 W n c nl [iD x0, iD x1, iD x2, iD x3, iD x4] [] 0)) else none := by kernel_rfl
theorem r30_50_0 (F : List (Nat × RuleF)) (W H : List DV) (n : Nat) (c nl : Bool) (x0 x1 x2 x3 x4 : Int) : startS aeC2 (ev30 F) 30 0 Tryd.f30 (some 0) (s30 5 0 W n c nl [iD x0, iD x1, iD x2, iD x3, iD x4] H 0) (roundD aeC2 30 0 0) = R30 W H n 0 x0 fun v => some (.norm, s30 5 0 W n c nl [iD x0, iD x1, iD x2, iD x3, iD x4] (H ++ [iD v]) 1) := by kernel_rfl
theorem r30_50_1 (F : List (Nat × RuleF)) (W H : List DV) (n : Nat) (c nl : Bool) (x0 x1 x2 x3 x4 : Int) : startS aeC2 (ev30 F) 30 0 Tryd.f30 (some 0) (s30 5 0 W n c nl [iD x0, iD x1, iD x2, iD x3, iD x4] H 1) (roundD aeC2 30 0 0) = R30 W H n 1 x1 fun v => some (.norm, s30 5 0 W n c nl [iD x0, iD x1, iD x2, iD x3, iD x4] (H ++ [iD v]) 2) := by kernel_rfl
theorem r30_50_2 (F : List (Nat × RuleF)) (W H : List DV) (n : Nat) (c nl : Bool) (x0 x1 x2 x3 x4 : Int) : startS aeC2 (ev30 F) 30 0 Tryd.f30 (some 0) (s30 5 0 W n c nl [iD x0, iD x1, iD x2, iD x3, iD x4] H 2) (roundD aeC2 30 0 0) = R30 W H n 2 x2 fun v => some (.norm, s30 5 0 W n c nl [iD x0, iD x1, iD x2, iD x3, iD x4] (H ++ [iD v]) 3) := by kernel_rfl
theorem r30_50_3 (F : List (Nat × RuleF)) (W H : List DV) (n : Nat) (c nl : Bool) (x0 x1 x2 x3 x4 : Int) : startS aeC2 (ev30 F) 30 0 Tryd.f30 (some 0) (s30 5 0 W n c nl [iD x0, iD x1, iD x2, iD x3, iD x4] H 3) (roundD aeC2 30 0 0) = R30 W H n 3 x3 fun v => some (.norm, s30 5 0 W n c nl [iD x0, iD x1, iD x2, iD x3, iD x4] (H ++ [iD v]) 4) := by kernel_rfl
theorem r30_50_4 (F : List (Nat × RuleF)) (W H : List DV) (n : Nat) (c nl : Bool) (x0 x1 x2 x3 x4 : Int) : startS aeC2 (ev30 F) 30 0 Tryd.f30 (some 0) (s30 5 0 W n c nl [iD x0, iD x1, iD x2, iD x3, iD x4] H 4) (roundD aeC2 30 0 0) = R30 W H n 4 x4 fun v => some (.norm, s30 5 0 W n c nl [iD x0, iD x1, iD x2, iD x3, iD x4] (H ++ [iD v]) 5) := by kernel_rfl
theorem r30_50_x (F : List (Nat × RuleF)) (W H : List DV) (n : Nat) (c nl : Bool) (x0 x1 x2 x3 x4 : Int) : startS aeC2 (ev30 F) 30 0 Tryd.f30 (some 0) (s30 5 0 W n c nl [iD x0, iD x1, iD x2, iD x3, iD x4] H 5) (roundD aeC2 30 0 0) = some (.exit 0, ⟨[(6, AV.row 0 0 5 5 1 false), (7, AV.grow 1 1 false)], [.dc [iD x0, iD x1, iD x2, iD x3, iD x4], .dc H], []⟩) := by kernel_rfl
theorem r30_50_z (F : List (Nat × RuleF)) (x0 x1 x2 x3 x4 v0 v1 v2 v3 v4 : Int) : nextS aeC2 (ev30 F) 30 0 Tryd.f30 none 0 (.exit 0) ⟨[(6, AV.row 0 0 5 5 1 false), (7, AV.grow 1 1 false)], [.dc [iD x0, iD x1, iD x2, iD x3, iD x4], .dc [iD v0, iD v1, iD v2, iD v3, iD v4]], []⟩ (doneE aeC2 Tryd.f30 0 fun v h => freezeV h 4 v) = some (.tup [ls [x0, x1, x2, x3, x4] false false, ls [v0, v1, v2, v3, v4] false false]) := by kernel_rfl
theorem G30_50 (F : List (Nat × RuleF)) (w : List Int) (c nl : Bool) (x0 x1 x2 x3 x4 : Int) (hx : ∀ q ∈ [x0, x1, x2, x3, x4], -30 ≤ q ∧ q ≤ 30) : ∃ hi : List Int, hi.length = 5 ∧ leB [x0, x1, x2, x3, x4] hi = true ∧ (∀ q ∈ hi, q ≤ 30) ∧ ∃ S, LoopAt aeC2 (ev30 F) 30 0 Tryd.f30 0 (s30 5 0 (ints w) w.length c nl [iD x0, iD x1, iD x2, iD x3, iD x4] [] 0) (.exit 0) S ∧ nextS aeC2 (ev30 F) 30 0 Tryd.f30 none 0 (.exit 0) S (doneE aeC2 Tryd.f30 0 fun v h => freezeV h 4 v) = some (.tup [ls [x0, x1, x2, x3, x4] false false, ls hi false false]) := by
  obtain ⟨v0, h0, e0⟩ := R30_ok (w := w) (H := []) (i := 0) (x := x0) (K := fun v => some (Ex.norm, s30 5 0 (ints w) w.length c nl [iD x0, iD x1, iD x2, iD x3, iD x4] ([] ++ [iD v]) 1)) (hx _ (by simp)) (by simp)
  obtain ⟨v1, h1, e1⟩ := R30_ok (w := w) (H := [iD v0]) (i := 1) (x := x1) (K := fun v => some (Ex.norm, s30 5 0 (ints w) w.length c nl [iD x0, iD x1, iD x2, iD x3, iD x4] ([iD v0] ++ [iD v]) 2)) (hx _ (by simp)) (by simp)
  obtain ⟨v2, h2, e2⟩ := R30_ok (w := w) (H := [iD v0, iD v1]) (i := 2) (x := x2) (K := fun v => some (Ex.norm, s30 5 0 (ints w) w.length c nl [iD x0, iD x1, iD x2, iD x3, iD x4] ([iD v0, iD v1] ++ [iD v]) 3)) (hx _ (by simp)) (by simp)
  obtain ⟨v3, h3, e3⟩ := R30_ok (w := w) (H := [iD v0, iD v1, iD v2]) (i := 3) (x := x3) (K := fun v => some (Ex.norm, s30 5 0 (ints w) w.length c nl [iD x0, iD x1, iD x2, iD x3, iD x4] ([iD v0, iD v1, iD v2] ++ [iD v]) 4)) (hx _ (by simp)) (by simp)
  obtain ⟨v4, h4, e4⟩ := R30_ok (w := w) (H := [iD v0, iD v1, iD v2, iD v3]) (i := 4) (x := x4) (K := fun v => some (Ex.norm, s30 5 0 (ints w) w.length c nl [iD x0, iD x1, iD x2, iD x3, iD x4] ([iD v0, iD v1, iD v2, iD v3] ++ [iD v]) 5)) (hx _ (by simp)) (by simp)
  refine ⟨[v0, v1, v2, v3, v4], rfl, by simp only [leB, Bool.and_true, Bool.and_eq_true, decide_eq_true_eq]; exact ⟨h0.1 , h1.1 , h2.1 , h3.1 , h4.1⟩, ?_, _, .next k30_0 ((r30_50_0 F (ints w) [] w.length c nl x0 x1 x2 x3 x4).trans e0) (.next k30_0 ((r30_50_1 F (ints w) [iD v0] w.length c nl x0 x1 x2 x3 x4).trans e1) (.next k30_0 ((r30_50_2 F (ints w) [iD v0, iD v1] w.length c nl x0 x1 x2 x3 x4).trans e2) (.next k30_0 ((r30_50_3 F (ints w) [iD v0, iD v1, iD v2] w.length c nl x0 x1 x2 x3 x4).trans e3) (.next k30_0 ((r30_50_4 F (ints w) [iD v0, iD v1, iD v2, iD v3] w.length c nl x0 x1 x2 x3 x4).trans e4) (.out k30_0 (by simp) (r30_50_x F (ints w) [iD v0, iD v1, iD v2, iD v3, iD v4] w.length c nl x0 x1 x2 x3 x4)))))), r30_50_z F x0 x1 x2 x3 x4 v0 v1 v2 v3 v4⟩
  intro q hq; simp only [List.mem_cons, List.not_mem_nil, or_false] at hq; rcases hq with rfl|rfl|rfl|rfl|rfl <;> first | exact h0.2 | exact h1.2 | exact h2.2 | exact h3.2 | exact h4.2
theorem c30_50 (l w : List Int) (c nl c2 nl2 : Bool) (x0 x1 x2 x3 x4 : Int) (hp : polyB [x0, x1, x2, x3, x4] = true) (h12 : CallOK Tryd.prog 12 [.d (ls l c nl)] [] (.row 0 0 5 5 1 false) [.dc [iD x0, iD x1, iD x2, iD x3, iD x4]]) : ∃ lo hi, bndB lo hi ∧ PureOK Tryd.prog 30 [ls l c nl, ls w c2 nl2] (.tup [ls lo false false, ls hi false false]) := by
  obtain ⟨_, _, hx, hl⟩ := polyB_at hp
  have hE : EvOK Tryd.prog (ev30 [(12, oneF [.d (ls l c nl)] [] (.row 0 0 5 5 1 false) [.dc [iD x0, iD x1, iD x2, iD x3, iD x4]])]) := evK_ok trivial ⟨oneF_ok h12, trivial⟩
  have hg : (isAt [AV.d (ls l c nl)] [.d (ls l c nl)] && isAt ([] : List Blk) []) = true := by rw [isAt_self, isAt_self]; rfl
  have hb : -30 ≤ x4 ∧ x4 ≤ 30 := hx _ (by simp)
  have hl' : x4 ≠ 0 := hl
  by_cases hn : x4 < 0
  · have hx' : ∀ q ∈ [x0, x1, x2, x3, (IntKind.wrap .i64 (0 - x4))], -30 ≤ q ∧ q ≤ 30 := by
      intro q hq
      simp only [List.mem_cons, List.not_mem_nil, or_false] at hq
      rcases hq with rfl|rfl|rfl|rfl|rfl <;> first | (rw [neg_b hb]; omega) | exact hx _ (by simp)
    obtain ⟨hi, g1, g2, g3, S, g4, g5⟩ := G30_50 [(12, oneF [.d (ls l c nl)] [] (.row 0 0 5 5 1 false) [.dc [iD x0, iD x1, iD x2, iD x3, iD x4]])] w c2 nl2 x0 x1 x2 x3 (IntKind.wrap .i64 (0 - x4)) hx'
    refine ⟨[x0, x1, x2, x3, (IntKind.wrap .i64 (0 - x4))], hi, ⟨polyB_mk (by simp) (by simp) hx' (by show IntKind.wrap .i64 (0 - x4) ≠ 0; rw [neg_b hb]; omega), (by show 0 < IntKind.wrap .i64 (0 - x4); rw [neg_b hb]; omega), g1, g2, g3⟩, ?_⟩
    exact ae_pure2 hE (fn := Tryd.f30) k30 (by kernel_rfl) (by kernel_rfl) ((startF_seg k30 ((r30h_50 (ls l c nl) (ints w) w.length c2 nl2 x0 x1 x2 x3 x4).trans ((cond_is hg).trans (cnd_pos hn))) g4).trans (nextF_done k30 done_plain g5))
  · obtain ⟨hi, g1, g2, g3, S, g4, g5⟩ := G30_50 [(12, oneF [.d (ls l c nl)] [] (.row 0 0 5 5 1 false) [.dc [iD x0, iD x1, iD x2, iD x3, iD x4]])] w c2 nl2 x0 x1 x2 x3 x4 hx
    refine ⟨[x0, x1, x2, x3, x4], hi, ⟨hp, (by show 0 < x4; omega), g1, g2, g3⟩, ?_⟩
    exact ae_pure2 hE (fn := Tryd.f30) k30 (by kernel_rfl) (by kernel_rfl) ((startF_seg k30 ((r30h_50 (ls l c nl) (ints w) w.length c2 nl2 x0 x1 x2 x3 x4).trans ((cond_is hg).trans (cnd_neg hn))) g4).trans (nextF_done k30 done_plain g5))
theorem r30h_60 (l : DV) (W : List DV) (n : Nat) (c nl : Bool) (x0 x1 x2 x3 x4 x5 : Int) : startS aeC2 (ev30 [(12, oneF [.d l] [] (.row 0 0 6 6 1 false) [.dc [iD x0, iD x1, iD x2, iD x3, iD x4, iD x5]])]) 30 0 Tryd.f30 none ⟨envOf 0 [.d l, .d (.sl W n 1 c nl)], [], []⟩ (heldD aeC2 30 0) = bif isAt [AV.d l] [.d l] && isAt ([] : List Blk) [] then (bif decide (x5 < 0) then some (0, s30 6 0 W n c nl [iD x0, iD x1, iD x2, iD x3, iD x4, iD (IntKind.wrap .i64 (0 - x5))] [] 0) else some (0, s30 6 0 W n c nl [iD x0, iD x1, iD x2, iD x3, iD x4, iD x5] [] 0)) else none := by kernel_rfl
theorem r30_60_0 (F : List (Nat × RuleF)) (W H : List DV) (n : Nat) (c nl : Bool) (x0 x1 x2 x3 x4 x5 : Int) : startS aeC2 (ev30 F) 30 0 Tryd.f30 (some 0) (s30 6 0 W n c nl [iD x0, iD x1, iD x2, iD x3, iD x4, iD x5] H 0) (roundD aeC2 30 0 0) = R30 W H n 0 x0 fun v => some (.norm, s30 6 0 W n c nl [iD x0, iD x1, iD x2, iD x3, iD x4, iD x5] (H ++ [iD v]) 1) := by kernel_rfl
theorem r30_60_1 (F : List (Nat × RuleF)) (W H : List DV) (n : Nat) (c nl : Bool) (x0 x1 x2 x3 x4 x5 : Int) : startS aeC2 (ev30 F) 30 0 Tryd.f30 (some 0) (s30 6 0 W n c nl [iD x0, iD x1, iD x2, iD x3, iD x4, iD x5] H 1) (roundD aeC2 30 0 0) = R30 W H n 1 x1 fun v => some (.norm, s30 6 0 W n c nl [iD x0, iD x1, iD x2, iD x3, iD x4, iD x5] (H ++ [iD v]) 2) := by kernel_rfl
theorem r30_60_2 (F : List (Nat × RuleF)) (W H : List DV) (n : Nat) (c nl : Bool) (x0 x1 x2 x3 x4 x5 : Int) : startS aeC2 (ev30 F) 30 0 Tryd.f30 (some 0) (s30 6 0 W n c nl [iD x0, iD x1, iD x2, iD x3, iD x4, iD x5] H 2) (roundD aeC2 30 0 0) = R30 W H n 2 x2 fun v => some (.norm, s30 6 0 W n c nl [iD x0, iD x1, iD x2, iD x3, iD x4, iD x5] (H ++ [iD v]) 3) := by kernel_rfl
theorem r30_60_3 (F : List (Nat × RuleF)) (W H : List DV) (n : Nat) (c nl : Bool) (x0 x1 x2 x3 x4 x5 : Int) : startS aeC2 (ev30 F) 30 0 Tryd.f30 (some 0) (s30 6 0 W n c nl [iD x0, iD x1, iD x2, iD x3, iD x4, iD x5] H 3) (roundD aeC2 30 0 0) = R30 W H n 3 x3 fun v => some (.norm, s30 6 0 W n c nl [iD x0, iD x1, iD x2, iD x3, iD x4, iD x5] (H ++ [iD v]) 4) := by kernel_rfl
theorem r30_60_4 (F : List (Nat × RuleF)) (W H : List DV) (n : Nat) (c nl : Bool) (x0 x1 x2 x3 x4 x5 : Int) : startS aeC2 (ev30 F) 30 0 Tryd.f30 (some 0) (s30 6 0 W n c nl [iD x0, iD x1, iD x2, iD x3, iD x4, iD x5] H 4) (roundD aeC2 30 0 0) = R30 W H n 4 x4 fun v => some (.norm, s30 6 0 W n c nl [iD x0, iD x1, iD x2, iD x3, iD x4, iD x5] (H ++ [iD v]) 5) := by kernel_rfl
theorem r30_60_5 (F : List (Nat × RuleF)) (W H : List DV) (n : Nat) (c nl : Bool) (x0 x1 x2 x3 x4 x5 : Int) : startS aeC2 (ev30 F) 30 0 Tryd.f30 (some 0) (s30 6 0 W n c nl [iD x0, iD x1, iD x2, iD x3, iD x4, iD x5] H 5) (roundD aeC2 30 0 0) = R30 W H n 5 x5 fun v => some (.norm, s30 6 0 W n c nl [iD x0, iD x1, iD x2, iD x3, iD x4, iD x5] (H ++ [iD v]) 6) := by kernel_rfl
theorem r30_60_x (F : List (Nat × RuleF)) (W H : List DV) (n : Nat) (c nl : Bool) (x0 x1 x2 x3 x4 x5 : Int) : startS aeC2 (ev30 F) 30 0 Tryd.f30 (some 0) (s30 6 0 W n c nl [iD x0, iD x1, iD x2, iD x3, iD x4, iD x5] H 6) (roundD aeC2 30 0 0) = some (.exit 0, ⟨[(6, AV.row 0 0 6 6 1 false), (7, AV.grow 1 1 false)], [.dc [iD x0, iD x1, iD x2, iD x3, iD x4, iD x5], .dc H], []⟩) := by kernel_rfl
theorem r30_60_z (F : List (Nat × RuleF)) (x0 x1 x2 x3 x4 x5 v0 v1 v2 v3 v4 v5 : Int) : nextS aeC2 (ev30 F) 30 0 Tryd.f30 none 0 (.exit 0) ⟨[(6, AV.row 0 0 6 6 1 false), (7, AV.grow 1 1 false)], [.dc [iD x0, iD x1, iD x2, iD x3, iD x4, iD x5], .dc [iD v0, iD v1, iD v2, iD v3, iD v4, iD v5]], []⟩ (doneE aeC2 Tryd.f30 0 fun v h => freezeV h 4 v) = some (.tup [ls [x0, x1, x2, x3, x4, x5] false false, ls [v0, v1, v2, v3, v4, v5] false false]) := by kernel_rfl
theorem G30_60 (F : List (Nat × RuleF)) (w : List Int) (c nl : Bool) (x0 x1 x2 x3 x4 x5 : Int) (hx : ∀ q ∈ [x0, x1, x2, x3, x4, x5], -30 ≤ q ∧ q ≤ 30) : ∃ hi : List Int, hi.length = 6 ∧ leB [x0, x1, x2, x3, x4, x5] hi = true ∧ (∀ q ∈ hi, q ≤ 30) ∧ ∃ S, LoopAt aeC2 (ev30 F) 30 0 Tryd.f30 0 (s30 6 0 (ints w) w.length c nl [iD x0, iD x1, iD x2, iD x3, iD x4, iD x5] [] 0) (.exit 0) S ∧ nextS aeC2 (ev30 F) 30 0 Tryd.f30 none 0 (.exit 0) S (doneE aeC2 Tryd.f30 0 fun v h => freezeV h 4 v) = some (.tup [ls [x0, x1, x2, x3, x4, x5] false false, ls hi false false]) := by
  obtain ⟨v0, h0, e0⟩ := R30_ok (w := w) (H := []) (i := 0) (x := x0) (K := fun v => some (Ex.norm, s30 6 0 (ints w) w.length c nl [iD x0, iD x1, iD x2, iD x3, iD x4, iD x5] ([] ++ [iD v]) 1)) (hx _ (by simp)) (by simp)
  obtain ⟨v1, h1, e1⟩ := R30_ok (w := w) (H := [iD v0]) (i := 1) (x := x1) (K := fun v => some (Ex.norm, s30 6 0 (ints w) w.length c nl [iD x0, iD x1, iD x2, iD x3, iD x4, iD x5] ([iD v0] ++ [iD v]) 2)) (hx _ (by simp)) (by simp)
  obtain ⟨v2, h2, e2⟩ := R30_ok (w := w) (H := [iD v0, iD v1]) (i := 2) (x := x2) (K := fun v => some (Ex.norm, s30 6 0 (ints w) w.length c nl [iD x0, iD x1, iD x2, iD x3, iD x4, iD x5] ([iD v0, iD v1] ++ [iD v]) 3)) (hx _ (by simp)) (by simp)
  obtain ⟨v3, h3, e3⟩ := R30_ok (w := w) (H := [iD v0, iD v1, iD v2]) (i := 3) (x := x3) (K := fun v => some (Ex.norm, s30 6 0 (ints w) w.length c nl [iD x0, iD x1, iD x2, iD x3, iD x4, iD x5] ([iD v0, iD v1, iD v2] ++ [iD v]) 4)) (hx _ (by simp)) (by simp)
  obtain ⟨v4, h4, e4⟩ := R30_ok (w := w) (H := [iD v0, iD v1, iD v2, iD v3]) (i := 4) (x := x4) (K := fun v => some (Ex.norm, s30 6 0 (ints w) w.length c nl [iD x0, iD x1, iD x2, iD x3, iD x4, iD x5] ([iD v0, iD v1, iD v2, iD v3] ++ [iD v]) 5)) (hx _ (by simp)) (by simp)
  obtain ⟨v5, h5, e5⟩ := R30_ok (w := w) (H := [iD v0, iD v1, iD v2, iD v3, iD v4]) (i := 5) (x := x5) (K := fun v => some (Ex.norm, s30 6 0 (ints w) w.length c nl [iD x0, iD x1, iD x2, iD x3, iD x4, iD x5] ([iD v0, iD v1, iD v2, iD v3, iD v4] ++ [iD v]) 6)) (hx _ (by simp)) (by simp)
  refine ⟨[v0, v1, v2, v3, v4, v5], rfl, by simp only [leB, Bool.and_true, Bool.and_eq_true, decide_eq_true_eq]; exact ⟨h0.1 , h1.1 , h2.1 , h3.1 , h4.1 , h5.1⟩, ?_, _, .next k30_0 ((r30_60_0 F (ints w) [] w.length c nl x0 x1 x2 x3 x4 x5).trans e0) (.next k30_0 ((r30_60_1 F (ints w) [iD v0] w.length c nl x0 x1 x2 x3 x4 x5).trans e1) (.next k30_0 ((r30_60_2 F (ints w) [iD v0, iD v1] w.length c nl x0 x1 x2 x3 x4 x5).trans e2) (.next k30_0 ((r30_60_3 F (ints w) [iD v0, iD v1, iD v2] w.length c nl x0 x1 x2 x3 x4 x5).trans e3) (.next k30_0 ((r30_60_4 F (ints w) [iD v0, iD v1, iD v2, iD v3] w.length c nl x0 x1 x2 x3 x4 x5).trans e4) (.next k30_0 ((r30_60_5 F (ints w) [iD v0, iD v1, iD v2, iD v3, iD v4] w.length c nl x0 x1 x2 x3 x4 x5).trans e5) (.out k30_0 (by simp) (r30_60_x F (ints w) [iD v0, iD v1, iD v2, iD v3, iD v4, iD v5] w.length c nl x0 x1 x2 x3 x4 x5))))))), r30_60_z F x0 x1 x2 x3 x4 x5 v0 v1 v2 v3 v4 v5⟩
  intro q hq; simp only [List.mem_cons, List.not_mem_nil, or_false] at hq; rcases hq with rfl|rfl|rfl|rfl|rfl|rfl <;> first | exact h0.2 | exact h1.2 | exact h2.2 | exact h3.2 | exact h4.2 | exact h5.2
theorem c30_60 (l w : List Int) (c nl c2 nl2 : Bool) (x0 x1 x2 x3 x4 x5 : Int) (hp : polyB [x0, x1, x2, x3, x4, x5] = true) (h12 : CallOK Tryd.prog 12 [.d (ls l c nl)] [] (.row 0 0 6 6 1 false) [.dc [iD x0, iD x1, iD x2, iD x3, iD x4, iD x5]]) : ∃ lo hi, bndB lo hi ∧ PureOK Tryd.prog 30 [ls l c nl, ls w c2 nl2] (.tup [ls lo false false, ls hi false false]) := by
  obtain ⟨_, _, hx, hl⟩ := polyB_at hp
  have hE : EvOK Tryd.prog (ev30 [(12, oneF [.d (ls l c nl)] [] (.row 0 0 6 6 1 false) [.dc [iD x0, iD x1, iD x2, iD x3, iD x4, iD x5]])]) := evK_ok trivial ⟨oneF_ok h12, trivial⟩
  have hg : (isAt [AV.d (ls l c nl)] [.d (ls l c nl)] && isAt ([] : List Blk) []) = true := by rw [isAt_self, isAt_self]; rfl
  have hb : -30 ≤ x5 ∧ x5 ≤ 30 := hx _ (by simp)
  have hl' : x5 ≠ 0 := hl
  by_cases hn : x5 < 0
  · have hx' : ∀ q ∈ [x0, x1, x2, x3, x4, (IntKind.wrap .i64 (0 - x5))], -30 ≤ q ∧ q ≤ 30 := by
      intro q hq
      simp only [List.mem_cons, List.not_mem_nil, or_false] at hq
      rcases hq with rfl|rfl|rfl|rfl|rfl|rfl <;> first | (rw [neg_b hb]; omega) | exact hx _ (by simp)
    obtain ⟨hi, g1, g2, g3, S, g4, g5⟩ := G30_60 [(12, oneF [.d (ls l c nl)] [] (.row 0 0 6 6 1 false) [.dc [iD x0, iD x1, iD x2, iD x3, iD x4, iD x5]])] w c2 nl2 x0 x1 x2 x3 x4 (IntKind.wrap .i64 (0 - x5)) hx'
    refine ⟨[x0, x1, x2, x3, x4, (IntKind.wrap .i64 (0 - x5))], hi, ⟨polyB_mk (by simp) (by simp) hx' (by show IntKind.wrap .i64 (0 - x5) ≠ 0; rw [neg_b hb]; omega), (by show 0 < IntKind.wrap .i64 (0 - x5); rw [neg_b hb]; omega), g1, g2, g3⟩, ?_⟩
    exact ae_pure2 hE (fn := Tryd.f30) k30 (by kernel_rfl) (by kernel_rfl) ((startF_seg k30 ((r30h_60 (ls l c nl) (ints w) w.length c2 nl2 x0 x1 x2 x3 x4 x5).trans ((cond_is hg).trans (cnd_pos hn))) g4).trans (nextF_done k30 done_plain g5))
  · obtain ⟨hi, g1, g2, g3, S, g4, g5⟩ := G30_60 [(12, oneF [.d (ls l c nl)] [] (.row 0 0 6 6 1 false) [.dc [iD x0, iD x1, iD x2, iD x3, iD x4, iD x5]])] w c2 nl2 x0 x1 x2 x3 x4 x5 hx
    refine ⟨[x0, x1, x2, x3, x4, x5], hi, ⟨hp, (by show 0 < x5; omega), g1, g2, g3⟩, ?_⟩
    exact ae_pure2 hE (fn := Tryd.f30) k30 (by kernel_rfl) (by kernel_rfl) ((startF_seg k30 ((r30h_60 (ls l c nl) (ints w) w.length c2 nl2 x0 x1 x2 x3 x4 x5).trans ((cond_is hg).trans (cnd_neg hn))) g4).trans (nextF_done k30 done_plain g5))
theorem r30h_61 (l : DV) (W : List DV) (n : Nat) (c nl : Bool) (u0 : DV) (x0 x1 x2 x3 x4 x5 : Int) : startS aeC2 (ev30 [(12, oneF [.d l] [] (.row 0 1 6 6 1 false) [.dc [u0, iD x0, iD x1, iD x2, iD x3, iD x4, iD x5]])]) 30 0 Tryd.f30 none ⟨envOf 0 [.d l, .d (.sl W n 1 c nl)], [], []⟩ (heldD aeC2 30 0) = bif isAt [AV.d l] [.d l] && isAt ([] : List Blk) [] then (bif decide (x5 < 0) then some (0, s30 6 1 W n c nl [u0, iD x0, iD x1, iD x2, iD x3, iD x4, iD (IntKind.wrap .i64 (0 - x5))] [] 0) else some (0, s30 6 1 W n c nl [u0, iD x0, iD x1, iD x2, iD x3, iD x4, iD x5] [] 0)) else none := by kernel_rfl
theorem r30_61_0 (F : List (Nat × RuleF)) (W H : List DV) (n : Nat) (c nl : Bool) (u0 : DV) (x0 x1 x2 x3 x4 x5 : Int) : startS aeC2 (ev30 F) 30 0 Tryd.f30 (some 0) (s30 6 1 W n c nl [u0, iD x0, iD x1, iD x2, iD x3, iD x4, iD x5] H 0) (roundD aeC2 30 0 0) = R30 W H n 0 x0 fun v => some (.norm, s30 6 1 W n c nl [u0, iD x0, iD x1, iD x2, iD x3, iD x4, iD x5] (H ++ [iD v]) 1) := by kernel_rfl
theorem r30_61_1 (F : List (Nat × RuleF)) (W H : List DV) (n : Nat) (c nl : Bool) (u0 : DV) (x0 x1 x2 x3 x4 x5 : Int) : startS aeC2 (ev30 F) 30 0 Tryd.f30 (some 0) (s30 6 1 W n c nl [u0, iD x0, iD x1, iD x2, iD x3, iD x4, iD x5] H 1) (roundD aeC2 30 0 0) = R30 W H n 1 x1 fun v => some (.norm, s30 6 1 W n c nl [u0, iD x0, iD x1, iD x2, iD x3, iD x4, iD x5] (H ++ [iD v]) 2) := by kernel_rfl
theorem r30_61_2 (F : List (Nat × RuleF)) (W H : List DV) (n : Nat) (c nl : Bool) (u0 : DV) (x0 x1 x2 x3 x4 x5 : Int) : startS aeC2 (ev30 F) 30 0 Tryd.f30 (some 0) (s30 6 1 W n c nl [u0, iD x0, iD x1, iD x2, iD x3, iD x4, iD x5] H 2) (roundD aeC2 30 0 0) = R30 W H n 2 x2 fun v => some (.norm, s30 6 1 W n c nl [u0, iD x0, iD x1, iD x2, iD x3, iD x4, iD x5] (H ++ [iD v]) 3) := by kernel_rfl
theorem r30_61_3 (F : List (Nat × RuleF)) (W H : List DV) (n : Nat) (c nl : Bool) (u0 : DV) (x0 x1 x2 x3 x4 x5 : Int) : startS aeC2 (ev30 F) 30 0 Tryd.f30 (some 0) (s30 6 1 W n c nl [u0, iD x0, iD x1, iD x2, iD x3, iD x4, iD x5] H 3) (roundD aeC2 30 0 0) = R30 W H n 3 x3 fun v => some (.norm, s30 6 1 W n c nl [u0, iD x0, iD x1, iD x2, iD x3, iD x4, iD x5] (H ++ [iD v]) 4) := by kernel_rfl
theorem r30_61_4 (F : List (Nat × RuleF)) (W H : List DV) (n : Nat) (c nl : Bool) (u0 : DV) (x0 x1 x2 x3 x4 x5 : Int) : startS aeC2 (ev30 F) 30 0 Tryd.f30 (some 0) (s30 6 1 W n c nl [u0, iD x0, iD x1, iD x2, iD x3, iD x4, iD x5] H 4) (roundD aeC2 30 0 0) = R30 W H n 4 x4 fun v => some (.norm, s30 6 1 W n c nl [u0, iD x0, iD x1, iD x2, iD x3, iD x4, iD x5] (H ++ [iD v]) 5) := by kernel_rfl
theorem r30_61_5 (F : List (Nat × RuleF)) (W H : List DV) (n : Nat) (c nl : Bool) (u0 : DV) (x0 x1 x2 x3 x4 x5 : Int) : startS aeC2 (ev30 F) 30 0 Tryd.f30 (some 0) (s30 6 1 W n c nl [u0, iD x0, iD x1, iD x2, iD x3, iD x4, iD x5] H 5) (roundD aeC2 30 0 0) = R30 W H n 5 x5 fun v => some (.norm, s30 6 1 W n c nl [u0, iD x0, iD x1, iD x2, iD x3, iD x4, iD x5] (H ++ [iD v]) 6) := by kernel_rfl
theorem r30_61_x (F : List (Nat × RuleF)) (W H : List DV) (n : Nat) (c nl : Bool) (u0 : DV) (x0 x1 x2 x3 x4 x5 : Int) : startS aeC2 (ev30 F) 30 0 Tryd.f30 (some 0) (s30 6 1 W n c nl [u0, iD x0, iD x1, iD x2, iD x3, iD x4, iD x5] H 6) (roundD aeC2 30 0 0) = some (.exit 0, ⟨[(6, AV.row 0 1 6 6 1 false), (7, AV.grow 1 1 false)], [.dc [u0, iD x0, iD x1, iD x2, iD x3, iD x4, iD x5], .dc H], []⟩) := by kernel_rfl
theorem r30_61_z (F : List (Nat × RuleF)) (u0 : DV) (x0 x1 x2 x3 x4 x5 v0 v1 v2 v3 v4 v5 : Int) : nextS aeC2 (ev30 F) 30 0 Tryd.f30 none 0 (.exit 0) ⟨[(6, AV.row 0 1 6 6 1 false), (7, AV.grow 1 1 false)], [.dc [u0, iD x0, iD x1, iD x2, iD x3, iD x4, iD x5], .dc [iD v0, iD v1, iD v2, iD v3, iD v4, iD v5]], []⟩ (doneE aeC2 Tryd.f30 0 fun v h => freezeV h 4 v) = some (.tup [ls [x0, x1, x2, x3, x4, x5] false false, ls [v0, v1, v2, v3, v4, v5] false false]) := by kernel_rfl
theorem G30_61 (F : List (Nat × RuleF)) (w : List Int) (c nl : Bool) (u0 : DV) (x0 x1 x2 x3 x4 x5 : Int) (hx : ∀ q ∈ [x0, x1, x2, x3, x4, x5], -30 ≤ q ∧ q ≤ 30) : ∃ hi : List Int, hi.length = 6 ∧ leB [x0, x1, x2, x3, x4, x5] hi = true ∧ (∀ q ∈ hi, q ≤ 30) ∧ ∃ S, LoopAt aeC2 (ev30 F) 30 0 Tryd.f30 0 (s30 6 1 (ints w) w.length c nl [u0, iD x0, iD x1, iD x2, iD x3, iD x4, iD x5] [] 0) (.exit 0) S ∧ nextS aeC2 (ev30 F) 30 0 Tryd.f30 none 0 (.exit 0) S (doneE aeC2 Tryd.f30 0 fun v h => freezeV h 4 v) = some (.tup [ls [x0, x1, x2, x3, x4, x5] false false, ls hi false false]) := by
  obtain ⟨v0, h0, e0⟩ := R30_ok (w := w) (H := []) (i := 0) (x := x0) (K := fun v => some (Ex.norm, s30 6 1 (ints w) w.length c nl [u0, iD x0, iD x1, iD x2, iD x3, iD x4, iD x5] ([] ++ [iD v]) 1)) (hx _ (by simp)) (by simp)
  obtain ⟨v1, h1, e1⟩ := R30_ok (w := w) (H := [iD v0]) (i := 1) (x := x1) (K := fun v => some (Ex.norm, s30 6 1 (ints w) w.length c nl [u0, iD x0, iD x1, iD x2, iD x3, iD x4, iD x5] ([iD v0] ++ [iD v]) 2)) (hx _ (by simp)) (by simp)
  obtain ⟨v2, h2, e2⟩ := R30_ok (w := w) (H := [iD v0, iD v1]) (i := 2) (x := x2) (K := fun v => some (Ex.norm, s30 6 1 (ints w) w.length c nl [u0, iD x0, iD x1, iD x2, iD x3, iD x4, iD x5] ([iD v0, iD v1] ++ [iD v]) 3)) (hx _ (by simp)) (by simp)
  obtain ⟨v3, h3, e3⟩ := R30_ok (w := w) (H := [iD v0, iD v1, iD v2]) (i := 3) (x := x3) (K := fun v => some (Ex.norm, s30 6 1 (ints w) w.length c nl [u0, iD x0, iD x1, iD x2, iD x3, iD x4, iD x5] ([iD v0, iD v1, iD v2] ++ [iD v]) 4)) (hx _ (by simp)) (by simp)
  obtain ⟨v4, h4, e4⟩ := R30_ok (w := w) (H := [iD v0, iD v1, iD v2, iD v3]) (i := 4) (x := x4) (K := fun v => some (Ex.norm, s30 6 1 (ints w) w.length c nl [u0, iD x0, iD x1, iD x2, iD x3, iD x4, iD x5] ([iD v0, iD v1, iD v2, iD v3] ++ [iD v]) 5)) (hx _ (by simp)) (by simp)
  obtain ⟨v5, h5, e5⟩ := R30_ok (w := w) (H := [iD v0, iD v1, iD v2, iD v3, iD v4]) (i := 5) (x := x5) (K := fun v => some (Ex.norm, s30 6 1 (ints w) w.length c nl [u0, iD x0, iD x1, iD x2, iD x3, iD x4, iD x5] ([iD v0, iD v1, iD v2, iD v3, iD v4] ++ [iD v]) 6)) (hx _ (by simp)) (by simp)
  refine ⟨[v0, v1, v2, v3, v4, v5], rfl, by simp only [leB, Bool.and_true, Bool.and_eq_true, decide_eq_true_eq]; exact ⟨h0.1 , h1.1 , h2.1 , h3.1 , h4.1 , h5.1⟩, ?_, _, .next k30_0 ((r30_61_0 F (ints w) [] w.length c nl u0 x0 x1 x2 x3 x4 x5).trans e0) (.next k30_0 ((r30_61_1 F (ints w) [iD v0] w.length c nl u0 x0 x1 x2 x3 x4 x5).trans e1) (.next k30_0 ((r30_61_2 F (ints w) [iD v0, iD v1] w.length c nl u0 x0 x1 x2 x3 x4 x5).trans e2) (.next k30_0 ((r30_61_3 F (ints w) [iD v0, iD v1, iD v2] w.length c nl u0 x0 x1 x2 x3 x4 x5).trans e3) (.next k30_0 ((r30_61_4 F (ints w) [iD v0, iD v1, iD v2, iD v3] w.length c nl u0 x0 x1 x2 x3 x4 x5).trans e4) (.next k30_0 ((r30_61_5 F (ints w) [iD v0, iD v1, iD v2, iD v3, iD v4] w.length c nl u0 x0 x1 x2 x3 x4 x5).trans e5) (.out k30_0 (by simp) (r30_61_x F (ints w) [iD v0, iD v1, iD v2, iD v3, iD v4, iD v5] w.length c nl u0 x0 x1 x2 x3 x4 x5))))))), r30_61_z F u0 x0 x1 x2 x3 x4 x5 v0 v1 v2 v3 v4 v5⟩
  intro q hq; simp only [List.mem_cons, List.not_mem_nil, or_false] at hq; rcases hq with rfl|rfl|rfl|rfl|rfl|rfl <;> first | exact h0.2 | exact h1.2 | exact h2.2 | exact h3.2 | exact h4.2 | exact h5.2
theorem c30_61 (l w : List Int) (c nl c2 nl2 : Bool) (u0 : DV) (x0 x1 x2 x3 x4 x5 : Int) (hp : polyB [x0, x1, x2, x3, x4, x5] = true) (h12 : CallOK Tryd.prog 12 [.d (ls l c nl)] [] (.row 0 1 6 6 1 false) [.dc [u0, iD x0, iD x1, iD x2, iD x3, iD x4, iD x5]]) : ∃ lo hi, bndB lo hi ∧ PureOK Tryd.prog 30 [ls l c nl, ls w c2 nl2] (.tup [ls lo false false, ls hi false false]) := by
  obtain ⟨_, _, hx, hl⟩ := polyB_at hp
  have hE : EvOK Tryd.prog (ev30 [(12, oneF [.d (ls l c nl)] [] (.row 0 1 6 6 1 false) [.dc [u0, iD x0, iD x1, iD x2, iD x3, iD x4, iD x5]])]) := evK_ok trivial ⟨oneF_ok h12, trivial⟩
  have hg : (isAt [AV.d (ls l c nl)] [.d (ls l c nl)] && isAt ([] : List Blk) []) = true := by rw [isAt_self, isAt_self]; rfl
  have hb : -30 ≤ x5 ∧ x5 ≤ 30 := hx _ (by simp)
  have hl' : x5 ≠ 0 := hl
  by_cases hn : x5 < 0
  · have hx' : ∀ q ∈ [x0, x1, x2, x3, x4, (IntKind.wrap .i64 (0 - x5))], -30 ≤ q ∧ q ≤ 30 := by
      intro q hq
      simp only [List.mem_cons, List.not_mem_nil, or_false] at hq
      rcases hq with rfl|rfl|rfl|rfl|rfl|rfl <;> first | (rw [neg_b hb]; omega) | exact hx _ (by simp)
    obtain ⟨hi, g1, g2, g3, S, g4, g5⟩ := G30_61 [(12, oneF [.d (ls l c nl)] [] (.row 0 1 6 6 1 false) [.dc [u0, iD x0, iD x1, iD x2, iD x3, iD x4, iD x5]])] w c2 nl2 u0 x0 x1 x2 x3 x4 (IntKind.wrap .i64 (0 - x5)) hx'
    refine ⟨[x0, x1, x2, x3, x4, (IntKind.wrap .i64 (0 - x5))], hi, ⟨polyB_mk (by simp) (by simp) hx' (by show IntKind.wrap .i64 (0 - x5) ≠ 0; rw [neg_b hb]; omega), (by show 0 < IntKind.wrap .i64 (0 - x5); rw [neg_b hb]; omega), g1, g2, g3⟩, ?_⟩
    exact ae_pure2 hE (fn := Tryd.f30) k30 (by kernel_rfl) (by kernel_rfl) ((startF_seg k30 ((r30h_61 (ls l c nl) (ints w) w.length c2 nl2 u0 x0 x1 x2 x3 x4 x5).trans ((cond_is hg).trans (cnd_pos hn))) g4).trans (nextF_done k30 done_plain g5))
  · obtain ⟨hi, g1, g2, g3, S, g4, g5⟩ := G30_61 [(12, oneF [.d (ls l c nl)] [] (.row 0 1 6 6 1 false) [.dc [u0, iD x0, iD x1, iD x2, iD x3, iD x4, iD x5]])] w c2 nl2 u0 x0 x1 x2 x3 x4 x5 hx
    refine ⟨[x0, x1, x2, x3, x4, x5], hi, ⟨hp, (by show 0 < x5; omega), g1, g2, g3⟩, ?_⟩
    exact ae_pure2 hE (fn := Tryd.f30) k30 (by kernel_rfl) (by kernel_rfl) ((startF_seg k30 ((r30h_61 (ls l c nl) (ints w) w.length c2 nl2 u0 x0 x1 x2 x3 x4 x5).trans ((cond_is hg).trans (cnd_neg hn))) g4).trans (nextF_done k30 done_plain g5))
/-- Bounds are made of any numbers. -/
theorem c30 (l w : List Int) (c nl c2 nl2 : Bool) : ∃ lo hi, bndB lo hi ∧ PureOK Tryd.prog 30 [ls l c nl, ls w c2 nl2] (.tup [ls lo false false, ls hi false false]) := by
  obtain ⟨pa, a, ha, h1, _⟩ := c12F l c nl
  have hp := ha.1
  rcases okA_cases ha with ⟨x0, rfl, rfl⟩ | ⟨x0, x1, rfl, rfl⟩ | ⟨x0, x1, x2, rfl, rfl⟩ | ⟨x0, x1, x2, x3, rfl, rfl⟩ | ⟨x0, x1, x2, x3, x4, rfl, rfl⟩ | ⟨x0, x1, x2, x3, x4, x5, rfl, rfl⟩ | ⟨u0, x0, x1, x2, x3, x4, x5, rfl, rfl⟩
  · exact c30_10 l w c nl c2 nl2 x0 hp h1
  · exact c30_20 l w c nl c2 nl2 x0 x1 hp h1
  · exact c30_30 l w c nl c2 nl2 x0 x1 x2 hp h1
  · exact c30_40 l w c nl c2 nl2 x0 x1 x2 x3 hp h1
  · exact c30_50 l w c nl c2 nl2 x0 x1 x2 x3 x4 hp h1
  · exact c30_60 l w c nl c2 nl2 x0 x1 x2 x3 x4 x5 hp h1
  · exact c30_61 l w c nl c2 nl2 u0 x0 x1 x2 x3 x4 x5 hp h1
end Go.Proofs.YtiicbenhhdbnoaaDoor
