/- Part 6 of what the law stands on: the abstract machine over the model, and what the functions answer. No condition. -/
import Derived.Test.YtkcdbndpcabelaaM5
set_option linter.unusedSimpArgs false
set_option linter.unusedVariables false

/- Chapter 02: what is told of labels: graceful, parting, turned. -/
namespace Go.Proofs.Ytkcdbndpcabelaa
open Go Go.AE

theorem k36 : OkSeg Try.f36 none [] := ⟨by kernel_rfl, by kernel_rfl, by decide⟩
theorem k37 : OkSeg Try.f37 none [] := ⟨by kernel_rfl, by kernel_rfl, by decide⟩
theorem k38 : OkSeg Try.f38 none [0] := ⟨by kernel_rfl, by kernel_rfl, by decide⟩
theorem k38_0 : OkSeg Try.f38 (some 0) [] := ⟨by kernel_rfl, by kernel_rfl, by decide⟩
theorem k40 : OkSeg Try.f40 none [0] := ⟨by kernel_rfl, by kernel_rfl, by decide⟩
theorem k40_0 : OkSeg Try.f40 (some 0) [] := ⟨by kernel_rfl, by kernel_rfl, by decide⟩
/-- Tables of what is told of graphs and labels. -/
structure TabP where
  op : Int → List DV → Int
  G : Int → List DV → List DV → Bool
  P : List DV → List DV → Int
noncomputable def sp47t (T : TabP) : List DV → Tr DV
  | [.int .i64 n, .sl es m 2 c nl] => .node (isE es m) (.node (decide (T.op n es = 0)) (.leaf (.tup [.ptr [iD n, .sl es m 2 c nl] 0, iD 0])) (.leaf (.tup [.nilp, iD (T.op n es)]))) .fail
  | _ => .fail
noncomputable def sp48t (T : TabP) : List DV → Tr DV
  | [.ptr [.int .i64 n, .sl es m 2 _ nl] 0, .sl cs k 1 _ _] => .node (isP (T.op n es = 0 ∧ isE es m = true ∧ isI cs = true ∧ cs.length = k ∧ nl = false)) (.leaf (bD (T.G n es cs))) .fail
  | _ => .fail
noncomputable def sp54t (T : TabP) : List DV → Tr DV
  | [.ptr [.int .i64 n, .sl es m 2 _ nl] 0, .sl cs k 1 _ nl2] => .node (isP (T.op n es = 0 ∧ T.G n es cs = true ∧ isE es m = true ∧ isI cs = true ∧ cs.length = k ∧ nl = false ∧ nl2 = false)) (.leaf (iD (T.P es cs))) .fail
  | _ => .fail
noncomputable def evP (T : TabP) : Ev := ((Ev.nil.add 47 (sp47t T)).add 48 (sp48t T)).add 54 (sp54t T)
noncomputable def s38 (E : List (Int × Int)) (c nl : Bool) (l : List Int) (c2 nl2 : Bool) (out : List DV) (i : Int) : St := ⟨[(1, .d (edgX E c nl)), (10, AV.grow 0 1 false), (26, .d (lstX l c2 nl2)), (27, .d (iD l.length)), (28, .d (iD i))], [.dc out], []⟩
noncomputable def s40 (E : List (Int × Int)) (c nl : Bool) (l : List Int) (c2 nl2 : Bool) (out : List DV) (i : Int) : St := ⟨[(0, .d (edgX E c nl)), (1, .d (lstX l c2 nl2)), (5, AV.grow 0 1 false), (6, .d (iD i))], [.dc out], []⟩


theorem r36 (T : TabP) (n : Int) (E : List (Int × Int)) (c nl : Bool) (l : List Int) (c2 nl2 : Bool) : startS aeC (evP T) 36 0 Try.f36 none ⟨envOf 0 ([iD n, edgX E c nl, lstX l c2 nl2].map .d), [], []⟩ (doneE aeC Try.f36 0 fun v h => freezeV h 4 v) =
  bif isE (edD E) (List.length E) then
    bif decide (TabP.op T n (edD E) = 0) then
      bif isP (TabP.op T n (edD E) = 0 ∧ isE (edD E) (List.length E) = true ∧ isI (ints l) = true ∧ List.length (ints l) = List.length l ∧ nl = false) then
        some (DV.tup [bD (TabP.G T n (edD E) (ints l)), iD 0])
      else
        none
    else
      bif !decide (TabP.op T n (edD E) = 0) then
        some (DV.tup [bD false, iD (TabP.op T n (edD E))])
      else
        none
  else
    none := by kernel_rfl

theorem r37 (T : TabP) (n : Int) (E : List (Int × Int)) (c nl : Bool) (l : List Int) (c2 nl2 : Bool) : startS aeC (evP T) 37 0 Try.f37 none ⟨envOf 0 ([iD n, edgX E c nl, lstX l c2 nl2].map .d), [], []⟩ (doneE aeC Try.f37 0 fun v h => freezeV h 4 v) =
  bif isE (edD E) (List.length E) then
    bif decide (TabP.op T n (edD E) = 0) then
      bif isP (TabP.op T n (edD E) = 0 ∧ isE (edD E) (List.length E) = true ∧ isI (ints l) = true ∧ List.length (ints l) = List.length l ∧ nl = false) then
        bif !TabP.G T n (edD E) (ints l) then
          some (DV.tup [iD 0, bD false, iD 0])
        else
          bif isP (TabP.op T n (edD E) = 0 ∧ TabP.G T n (edD E) (ints l) = true ∧ isE (edD E) (List.length E) = true ∧ isI (ints l) = true ∧ List.length (ints l) = List.length l ∧ nl = false ∧ nl2 = false) then
            bif decide (TabP.P T (edD E) (ints l) < 0) then
              some (DV.tup [iD 0, bD false, iD 0])
            else
              bif isP (TabP.op T n (edD E) = 0 ∧ TabP.G T n (edD E) (ints l) = true ∧ isE (edD E) (List.length E) = true ∧ isI (ints l) = true ∧ List.length (ints l) = List.length l ∧ nl = false ∧ nl2 = false) then
                some (DV.tup [iD (TabP.P T (edD E) (ints l)), bD true, iD 0])
              else
                none
          else
            none
      else
        none
    else
      bif !decide (TabP.op T n (edD E) = 0) then
        some (DV.tup [iD 0, bD false, iD (TabP.op T n (edD E))])
      else
        none
  else
    none := by kernel_rfl

theorem r38d (T : TabP) (n : Int) (E : List (Int × Int)) (c nl : Bool) (l : List Int) (c2 nl2 : Bool) : startS aeC (evP T) 38 0 Try.f38 none ⟨envOf 0 ([iD n, edgX E c nl, lstX l c2 nl2].map .d), [], []⟩ (doneE aeC Try.f38 0 fun v h => freezeV h 4 v) =
  bif isE (edD E) (List.length E) then
    bif decide (TabP.op T n (edD E) = 0) then
      bif isP (TabP.op T n (edD E) = 0 ∧ isE (edD E) (List.length E) = true ∧ isI (ints l) = true ∧ List.length (ints l) = List.length l ∧ nl = false) then
        bif !TabP.G T n (edD E) (ints l) then
          some (DV.tup [DV.sl [] 0 0 false true, iD 1])
        else
          none
      else
        none
    else
      bif !decide (TabP.op T n (edD E) = 0) then
        some (DV.tup [DV.sl [] 0 0 false true, iD (TabP.op T n (edD E))])
      else
        none
  else
    none := by kernel_rfl

theorem r38h (T : TabP) (n : Int) (E : List (Int × Int)) (c nl : Bool) (l : List Int) (c2 nl2 : Bool) : startS aeC (evP T) 38 0 Try.f38 none ⟨envOf 0 ([iD n, edgX E c nl, lstX l c2 nl2].map .d), [], []⟩ (heldD aeC 38 0) =
  bif isE (edD E) (List.length E) then
    bif decide (TabP.op T n (edD E) = 0) then
      bif isP (TabP.op T n (edD E) = 0 ∧ isE (edD E) (List.length E) = true ∧ isI (ints l) = true ∧ List.length (ints l) = List.length l ∧ nl = false) then
        bif !TabP.G T n (edD E) (ints l) then
          none
        else
          some (0, ⟨[(1, .d (DV.sl (edD E) (List.length E) 2 c nl)), (10, AV.grow 0 1 false), (26, .d (DV.sl (ints l) (List.length l) 1 c2 nl2)), (27, .d (iD (↑(List.length l) : Int))), (28, .d (iD 0))], [.dc []], []⟩)
      else
        none
    else
      bif !decide (TabP.op T n (edD E) = 0) then
        none
      else
        none
  else
    none := by kernel_rfl

theorem r38_0 (T : TabP) (E : List (Int × Int)) (c nl : Bool) (l : List Int) (c2 nl2 : Bool) (out : List DV) (i : Int) : startS aeC (evP T) 38 0 Try.f38 (some 0) (s38 E c nl l c2 nl2 out i) (roundD aeC 38 0 0) =
  bif decide (i < (↑(List.length l) : Int)) then
    bif inRange i (List.length l) then
      getI (nth (ints l) (Int.toNat i * 1)) fun x0 =>
      bif Nat.ble (lenOf 1 (List.length out) + 1) 1048576 then
        some (Ex.norm, ⟨[(1, .d (DV.sl (edD E) (List.length E) 2 c nl)), (10, AV.grow 0 1 false), (26, .d (DV.sl (ints l) (List.length l) 1 c2 nl2)), (27, .d (iD (↑(List.length l) : Int))), (28, .d (iD (IntKind.wrap IntKind.i64 (i + 1))))], [.dc (out ++ [iD (IntKind.wrap IntKind.i64 ((↑(List.length E) : Int) - x0))])], []⟩)
      else
        none
    else
      none
  else
    some (Ex.exit 0, ⟨[(10, AV.grow 0 1 false)], [.dc out], []⟩) := by kernel_rfl

theorem r38_x (T : TabP) (out : List DV) : nextS aeC (evP T) 38 0 Try.f38 none 0 (.exit 0) ⟨[(10, AV.grow 0 1 false)], [.dc out], []⟩ (doneE aeC Try.f38 0 fun v h => freezeV h 4 v) =
  some (DV.tup [DV.sl out (lenOf 1 (List.length out)) 1 false (true && Nat.beq (List.length out) 0), iD 0]) := by kernel_rfl

theorem r40h (E : List (Int × Int)) (c nl : Bool) (l : List Int) (c2 nl2 : Bool) : startS aeC Ev.nil 40 0 Try.f40 none ⟨envOf 0 ([edgX E c nl, lstX l c2 nl2].map .d), [], []⟩ (heldD aeC 40 0) =
  some (0, ⟨[(0, .d (DV.sl (edD E) (List.length E) 2 c nl)), (1, .d (DV.sl (ints l) (List.length l) 1 c2 nl2)), (5, AV.grow 0 1 false), (6, .d (iD 0))], [.dc []], []⟩) := by kernel_rfl

theorem r40_0 (E : List (Int × Int)) (c nl : Bool) (l : List Int) (c2 nl2 : Bool) (out : List DV) (i : Int) : startS aeC Ev.nil 40 0 Try.f40 (some 0) (s40 E c nl l c2 nl2 out i) (roundD aeC 40 0 0) =
  bif decide (i < (↑(List.length l) : Int)) then
    bif inRange i (List.length l) then
      getI (nth (ints l) (Int.toNat i * 1)) fun x0 =>
      bif Nat.ble (lenOf 1 (List.length out) + 1) 1048576 then
        some (Ex.norm, ⟨[(0, .d (DV.sl (edD E) (List.length E) 2 c nl)), (1, .d (DV.sl (ints l) (List.length l) 1 c2 nl2)), (5, AV.grow 0 1 false), (6, .d (iD (IntKind.wrap IntKind.i64 (i + 1))))], [.dc (out ++ [iD (IntKind.wrap IntKind.i64 ((↑(List.length E) : Int) - x0))])], []⟩)
      else
        none
    else
      none
  else
    some (Ex.exit 0, ⟨[(5, AV.grow 0 1 false)], [.dc out], []⟩) := by kernel_rfl

theorem r40_x (out : List DV) : nextS aeC Ev.nil 40 0 Try.f40 none 0 (.exit 0) ⟨[(5, AV.grow 0 1 false)], [.dc out], []⟩ (doneE aeC Try.f40 0 fun v h => freezeV h 4 v) =
  some (DV.sl out (lenOf 1 (List.length out)) 1 false (true && Nat.beq (List.length out) 0)) := by kernel_rfl

noncomputable def tabP : TabP := ⟨fun n es => openS n (unE es), fun n es cs => gracB n (unE es) (unI cs), fun es cs => partS (unI cs) (unE es)⟩

theorem sp47t_ok : ∀ ds d, (sp47t tabP ds).val = some d → PureOK Try.prog 47 ds d := by
  intro ds d h
  unfold sp47t at h
  split at h
  · exact sp47x_ok _ _ h
  · cases h

theorem sp48t_ok : ∀ ds d, (sp48t tabP ds).val = some d → PureOK Try.prog 48 ds d := by
  intro ds d h
  unfold sp48t at h
  split at h
  · rename_i n es m c nl cs k c2 nl2
    simp only [Tr.val] at h
    obtain ⟨hg, h2⟩ := cond_none h
    obtain ⟨q1, q2, q3, q4, rfl⟩ := isP_iff.1 hg
    refine sp48_ok _ _ ?_
    unfold sp48
    simp only [Tr.val]
    rw [decide_eq_true (show openS n (unE es) = 0 from q1), q2, q3, q4, Nat.beq_refl]
    exact h2
  · cases h

theorem sp54t_ok : ∀ ds d, (sp54t tabP ds).val = some d → PureOK Try.prog 54 ds d := by
  intro ds d h
  unfold sp54t at h
  split at h
  · rename_i n es m c nl cs k c2 nl2
    simp only [Tr.val] at h
    obtain ⟨hg, h2⟩ := cond_none h
    obtain ⟨q1, q0, q2, q3, q4, rfl, rfl⟩ := isP_iff.1 hg
    cases h2
    obtain ⟨e1, e2⟩ := ed_unE q2
    obtain ⟨l, rfl⟩ := isI_iff.1 q3
    rw [len_ints] at q4
    subst q4
    obtain ⟨g1, g2, g3⟩ := open_graph q1
    have hl := grac_len q0
    rw [unI_ints] at hl
    have := parts_ok ⟨n.toNat, unE es⟩ g1 c c2 l (by show l.length = n.toNat; omega)
    unfold Gr.cs Gr.es Gr.m at this
    simp only at this
    rw [← e1, ← e2, show ((n.toNat : Nat) : Int) = n by omega] at this
    show PureOK Try.prog 54 _ (iD (partS (unI (ints l)) (unE es)))
    rw [unI_ints]
    exact this
  · cases h

theorem evP_ok : EvOK Try.prog (evP tabP) := EvOK.add (EvOK.add (EvOK.add EvOK.nil sp47t_ok) sp48t_ok) sp54t_ok

/-- Labels from the other end. -/
def turnL (E : List (Int × Int)) (l : List Int) : List Int := l.map fun x => (E.length : Int) - x

theorem l38_0 (E : List (Int × Int)) (c nl : Bool) (l : List Int) (c2 nl2 : Bool) (hE : E.length ≤ 10) (hl : l.length ≤ 100) (hlab : LabOK 10 l) : ∀ (r : List Int) (i : Nat) (out : List Int), out.length = i → i ≤ l.length → l.drop i = r →
    LoopAt aeC (evP tabP) 38 0 Try.f38 0 (s38 E c nl l c2 nl2 (ints out) i) (.exit 0) ⟨[(10, AV.grow 0 1 false)], [.dc (ints (out ++ turnL E r))], []⟩
  | [], i, out, ho, hi, hr => by
    have h1 := drop_nil_o hr
    refine .out k38_0 (by simp) ((r38_0 ..).trans ?_)
    rw [cnd_neg (by omega)]
    simp [turnL]
  | x :: r, i, out, ho, hi, hr => by
    obtain ⟨h1, h2, h3⟩ := drop_cons_o (d := 0) hr
    have hx := hlab.get h1
    have res := r38_0 tabP E c nl l c2 nl2 (ints out) i
    rw [h2] at hx
    revert res
    simp (disch := omega) only [cnd_pos, cnd_neg, inR_pos, ble_pos, blt_pos, beq_pos, cond_and, cond_or, Bool.cond_not, cond_true, cond_false, Bool.and_true, Bool.true_and, getI_some, getB_some, nth_ints_o, nth_bools_o, wrap64_o, len_ints, len_bools, lenOf_1, Int.toNat_natCast, Nat.mul_one, Nat.zero_add, setNth_bools_o, setNth_ints_o, len_set_i, len_set_b, Option.bind_some, List.length_append, List.length_cons, List.length_nil, unI_ints, unB_bools, ints_app1, bools_app1, nth_pr1, nth_pr2, len_prs, abs_if, Nat.add_zero, cond_same, h2]
    intro res
    have := l38_0 E c nl l c2 nl2 hE hl hlab r (i + 1) (out ++ [(E.length : Int) - x]) (by simp [ho]) h1 h3
    rw [List.append_assoc, List.singleton_append] at this
    exact .next k38_0 res this

theorem l40_0 (E : List (Int × Int)) (c nl : Bool) (l : List Int) (c2 nl2 : Bool) (hE : E.length ≤ 10) (hl : l.length ≤ 100) (hlab : LabOK 10 l) : ∀ (r : List Int) (i : Nat) (out : List Int), out.length = i → i ≤ l.length → l.drop i = r →
    LoopAt aeC Ev.nil 40 0 Try.f40 0 (s40 E c nl l c2 nl2 (ints out) i) (.exit 0) ⟨[(5, AV.grow 0 1 false)], [.dc (ints (out ++ turnL E r))], []⟩
  | [], i, out, ho, hi, hr => by
    have h1 := drop_nil_o hr
    refine .out k40_0 (by simp) ((r40_0 ..).trans ?_)
    rw [cnd_neg (by omega)]
    simp [turnL]
  | x :: r, i, out, ho, hi, hr => by
    obtain ⟨h1, h2, h3⟩ := drop_cons_o (d := 0) hr
    have hx := hlab.get h1
    have res := r40_0 E c nl l c2 nl2 (ints out) i
    rw [h2] at hx
    revert res
    simp (disch := omega) only [cnd_pos, cnd_neg, inR_pos, ble_pos, blt_pos, beq_pos, cond_and, cond_or, Bool.cond_not, cond_true, cond_false, Bool.and_true, Bool.true_and, getI_some, getB_some, nth_ints_o, nth_bools_o, wrap64_o, len_ints, len_bools, lenOf_1, Int.toNat_natCast, Nat.mul_one, Nat.zero_add, setNth_bools_o, setNth_ints_o, len_set_i, len_set_b, Option.bind_some, List.length_append, List.length_cons, List.length_nil, unI_ints, unB_bools, ints_app1, bools_app1, nth_pr1, nth_pr2, len_prs, abs_if, Nat.add_zero, cond_same, h2]
    intro res
    have := l40_0 E c nl l c2 nl2 hE hl hlab r (i + 1) (out ++ [(E.length : Int) - x]) (by simp [ho]) h1 h3
    rw [List.append_assoc, List.singleton_append] at this
    exact .next k40_0 res this

theorem turn_fix {l : List Int} {n : Nat} (h : l.length = n) (h1 : 1 ≤ n) : (DV.sl (ints l) (lenOf 1 (ints l).length) 1 false (true && Nat.beq (ints l).length 0)) = .sl (ints l) n 1 false false := by
  rw [Go.AE.lenOf_1, len_ints, h]
  have hb : Nat.beq n 0 = false := by
    cases q : Nat.beq n 0 with
    | false => rfl
    | true => have := Nat.eq_of_beq_eq_true q; omega
  rw [hb]; rfl

theorem rturned_ok (E : List (Int × Int)) (c nl : Bool) (l : List Int) (c2 nl2 : Bool) (hE : E.length ≤ 10) (hl : l.length ≤ 100) (h1 : 1 ≤ l.length) (hlab : LabOK 10 l) : PureOK Try.prog 40 [edgX E c nl, lstX l c2 nl2] (.sl (ints (turnL E l)) l.length 1 false false) := by
  refine ae_pure EvOK.nil (fn := Try.f40) k40 (by kernel_rfl) (by kernel_rfl) ?_
  have loop := l40_0 E c nl l c2 nl2 hE hl hlab l 0 [] rfl (by omega) rfl
  have := startF_one k40 done_plain (r40h ..) loop (r40_x ..)
  rw [this, List.nil_append, turn_fix (n := l.length) (by simp [turnL]) h1]

/-- What is told of labels of a graph that is right. -/
theorem tells36 (n : Int) (E : List (Int × Int)) (c : Bool) (l : List Int) (c2 nl2 : Bool) (hn : openS n E = 0) : PureOK Try.prog 36 [iD n, edgX E c false, lstX l c2 nl2] (.tup [bD (gracB n E l), iD 0]) := by
  refine ae_pure evP_ok (fn := Try.f36) k36 (by kernel_rfl) (by kernel_rfl) (startF_done k36 done_plain ?_)
  rw [r36]
  have g : isP (tabP.op n (edD E) = 0 ∧ isE (edD E) E.length = true ∧ isI (ints l) = true ∧ (ints l).length = l.length ∧ false = false) = true := isP_iff.2 ⟨by show openS n (unE (edD E)) = 0; rw [unE_ed]; exact hn, isE_ed E, isI_ints l, len_ints l, rfl⟩
  have h0 : tabP.op n (edD E) = 0 := by show openS n (unE (edD E)) = 0; rw [unE_ed]; exact hn
  rw [isE_ed] at g
  rw [isE_ed, cond_true, cnd_pos h0, g, cond_true]
  show some (DV.tup [bD (gracB n (unE (edD E)) (unI (ints l))), iD 0]) = _
  rw [unE_ed, unI_ints]

theorem gradh {n : Int} {E : List (Int × Int)} {l : List Int} (hn : openS n E = 0) (hg : gracB n E l = true) : (l.length : Int) = n ∧ LabOK E.length l ∧ EdOK l.length E ∧ 2 ≤ n ∧ n ≤ 7 ∧ 1 ≤ E.length ∧ E.length ≤ 10 := by
  obtain ⟨g1, g2, g3⟩ := open_graph hn
  have hl := grac_len hg
  have hnew : newS E.length [] l = true := by
    simp only [gracB, Bool.and_eq_true] at hg
    exact hg.2.1
  refine ⟨hl, newS_lab hnew, ?_, g2, g3, g1.2.2.1, g1.2.2.2.1⟩
  rw [show l.length = n.toNat by omega]
  exact g1.2.2.2.2

theorem partL_some (E : List (Int × Int)) (l : List Int) : ∀ (j : Nat) (k : Int), j ≤ E.length → partL E l j = some k → (E.length : Int) - j ≤ k ∧ k < E.length ∧ E.all (splitE l k) = true ∧ ∀ k', (E.length : Int) - j ≤ k' → k' < k → ¬ E.all (splitE l k') = true
  | 0, k, hj, h => by cases h
  | j + 1, k, hj, h => by
    simp only [partL] at h
    split at h
    · rename_i hc
      cases h
      exact ⟨Int.le_refl _, by omega, hc, fun k' h1 h2 => by omega⟩
    · rename_i hc
      obtain ⟨h1, h2, h3, h4⟩ := partL_some E l j k (by omega) h
      refine ⟨by omega, h2, h3, fun k' q1 q2 => ?_⟩
      rcases Int.lt_or_eq_of_le q1 with q | q
      · exact h4 k' (by omega) q2
      · rw [← q]; exact hc

/-- The least number is the program's. -/
theorem parts_val {E : List (Int × Int)} {l : List Int} (hE : EdOK l.length E) (hl : LabOK E.length l) (h1 : 1 ≤ E.length) (h10 : E.length ≤ 10) {k : Int} (h : partL E l E.length = some k) : partS l E = k := by
  have hp : 0 ≤ partS l E := (parts_same E l hE hl h1 h10).2 (by rw [h]; rfl)
  obtain ⟨a1, a2, a3, a4⟩ := partL_some E l E.length k (Nat.le_refl _) h
  have b := (split_all l E k (by omega) (by omega)).1 a3
  unfold partS at hp ⊢
  split at hp
  · omega
  · rename_i hc
    rw [if_neg hc]
    rcases Int.lt_or_eq_of_le b.1 with q | q
    · exact absurd ((split_all l E (partF l E (-1) 25).1 hp (by omega)).2 ⟨Int.le_refl _, by omega⟩) (a4 _ (by omega) q)
    · exact q

noncomputable def pD37 (n : Int) (E : List (Int × Int)) (l : List Int) : DV := bif gracB n E l then bif (partL E l E.length).isSome then .tup [iD ((partL E l E.length).getD 0), bD true, iD 0] else .tup [iD 0, bD false, iD 0] else .tup [iD 0, bD false, iD 0]

theorem tells37 (n : Int) (E : List (Int × Int)) (c : Bool) (l : List Int) (c2 nl2 : Bool) (hn : openS n E = 0) (hnl : nl2 = true → l = []) : PureOK Try.prog 37 [iD n, edgX E c false, lstX l c2 nl2] (pD37 n E l) := by
  refine ae_pure evP_ok (fn := Try.f37) k37 (by kernel_rfl) (by kernel_rfl) (startF_done k37 done_plain ?_)
  rw [r37]
  have h0 : tabP.op n (edD E) = 0 := by show openS n (unE (edD E)) = 0; rw [unE_ed]; exact hn
  have g : isP (tabP.op n (edD E) = 0 ∧ isE (edD E) E.length = true ∧ isI (ints l) = true ∧ (ints l).length = l.length ∧ false = false) = true := isP_iff.2 ⟨h0, isE_ed E, isI_ints l, len_ints l, rfl⟩
  have hG : tabP.G n (edD E) (ints l) = gracB n E l := by show gracB n (unE (edD E)) (unI (ints l)) = _; rw [unE_ed, unI_ints]
  have hP : tabP.P (edD E) (ints l) = partS l E := by show partS (unI (ints l)) (unE (edD E)) = _; rw [unE_ed, unI_ints]
  unfold pD37
  rw [g, hG, hP, isE_ed, cond_true, cnd_pos h0, cond_true]
  cases hg : gracB n E l with
  | false => rfl
  | true =>
    obtain ⟨a1, a2, a3, a4, a5, a6, a7⟩ := gradh hn hg
    have hnl2 : nl2 = false := by
      cases nl2 with
      | false => rfl
      | true => rw [hnl rfl] at a1; simp at a1; omega
    have g2 : isP (tabP.op n (edD E) = 0 ∧ true = true ∧ true = true ∧ isI (ints l) = true ∧ (ints l).length = l.length ∧ false = false ∧ nl2 = false) = true := isP_iff.2 ⟨h0, rfl, rfl, isI_ints l, len_ints l, rfl, hnl2⟩
    rw [g2]
    simp only [cond_true, Bool.not_true, cond_false]
    have hs := parts_same E l a3 a2 a6 a7
    cases hp : partL E l E.length with
    | none =>
      have : ¬ 0 ≤ partS l E := fun q => by have := hs.1 q; rw [hp] at this; cases this
      rw [cnd_pos (by omega)]; rfl
    | some k =>
      have h3 := parts_val a3 a2 a6 a7 hp
      have : 0 ≤ partS l E := hs.2 (by rw [hp]; rfl)
      rw [cnd_neg (by omega), h3]; rfl

noncomputable def pD38 (n : Int) (E : List (Int × Int)) (l : List Int) : DV := bif gracB n E l then .tup [.sl (ints (turnL E l)) l.length 1 false false, iD 0] else .tup [nilS1, iD 1]

theorem tells38 (n : Int) (E : List (Int × Int)) (c : Bool) (l : List Int) (c2 nl2 : Bool) (hn : openS n E = 0) : PureOK Try.prog 38 [iD n, edgX E c false, lstX l c2 nl2] (pD38 n E l) := by
  refine ae_pure evP_ok (fn := Try.f38) k38 (by kernel_rfl) (by kernel_rfl) ?_
  have hd := r38d tabP n E c false l c2 nl2
  have hh := r38h tabP n E c false l c2 nl2
  have h0 : tabP.op n (edD E) = 0 := by show openS n (unE (edD E)) = 0; rw [unE_ed]; exact hn
  have g : isP (tabP.op n (edD E) = 0 ∧ isE (edD E) E.length = true ∧ isI (ints l) = true ∧ (ints l).length = l.length ∧ false = false) = true := isP_iff.2 ⟨h0, isE_ed E, isI_ints l, len_ints l, rfl⟩
  have hG : tabP.G n (edD E) (ints l) = gracB n E l := by show gracB n (unE (edD E)) (unI (ints l)) = _; rw [unE_ed, unI_ints]
  rw [g, hG, isE_ed, cond_true, cnd_pos h0, cond_true] at hd hh
  unfold pD38
  cases hg : gracB n E l with
  | false => rw [hg] at hd; exact startF_done k38 done_plain hd
  | true =>
    rw [hg] at hh
    obtain ⟨a1, a2, a3, a4, a5, a6, a7⟩ := gradh hn hg
    have loop := l38_0 E c false l c2 nl2 a7 (by omega) (a2.mono a7) l 0 [] rfl (by omega) rfl
    have := startF_one k38 done_plain hh loop (r38_x ..)
    rw [this, List.nil_append, turn_fix (n := l.length) (by simp [turnL]) (by omega)]
    rfl
end Go.Proofs.Ytkcdbndpcabelaa

/- Chapter 02: the law on what is told of labels, on data. -/
namespace Go.Proofs.Ytkcdbndpcabelaa
open Go Go.AE

theorem k9 : OkSeg Try.f9 none [0] := ⟨by kernel_rfl, by kernel_rfl, by decide⟩
theorem k9_0 : OkSeg Try.f9 (some 0) [] := ⟨by kernel_rfl, by kernel_rfl, by decide⟩
structure TabT where
  G : Int → List DV → List DV → Bool
  pI : List DV → List DV → Bool
  pC : List DV → List DV → Int
  tu : List DV → List DV → List DV
noncomputable def okT (n : Int) (es : List DV) (m : Nat) (cs : List DV) (k : Nat) (nl : Bool) : Bool := isP (openS n (unE es) = 0 ∧ isE es m = true ∧ isI cs = true ∧ cs.length = k ∧ (nl = true → k = 0))
noncomputable def okU (n : Int) (es : List DV) (m : Nat) : Bool := isP (openS n (unE es) = 0 ∧ isE es m = true)
noncomputable def sp36 (T : TabT) : List DV → Tr DV
  | [.int .i64 n, .sl es m 2 _ false, .sl cs k 1 _ nl] => .node (okT n es m cs k nl) (.leaf (.tup [bD (T.G n es cs), iD 0])) .fail
  | _ => .fail
noncomputable def sp37 (T : TabT) : List DV → Tr DV
  | [.int .i64 n, .sl es m 2 _ false, .sl cs k 1 _ nl] => .node (okT n es m cs k nl) (.node (T.G n es cs) (.node (T.pI es cs) (.leaf (.tup [iD (T.pC es cs), bD true, iD 0])) (.leaf (.tup [iD 0, bD false, iD 0]))) (.leaf (.tup [iD 0, bD false, iD 0]))) .fail
  | _ => .fail
noncomputable def sp38 (T : TabT) : List DV → Tr DV
  | [.int .i64 n, .sl es m 2 _ false, .sl cs k 1 _ nl] => .node (okT n es m cs k nl) (.node (T.G n es cs) (.leaf (.tup [.sl (T.tu es cs) k 1 false false, iD 0])) (.leaf (.tup [nilS1, iD 1]))) .fail
  | _ => .fail
noncomputable def sp16u (T : TabT) : List DV → Tr DV
  | [.int .i64 n, .sl es m 2 _ _, .sl cs k 1 _ nl] => .node (okT n es m cs k nl) (.leaf (bD (T.G n es cs))) .fail
  | _ => .fail
noncomputable def okV (es : List DV) (m : Nat) (cs : List DV) (k : Nat) : Bool := isP (isE es m = true ∧ isI cs = true ∧ cs.length = k ∧ EdOK k (unE es) ∧ m ≤ 10 ∧ LabOK 10 (unI cs) ∧ 1 ≤ k ∧ k ≤ 100)
noncomputable def sp39u (T : TabT) : List DV → Tr DV
  | [.sl es m 2 _ _, .sl cs k 1 _ _] => .node (okV es m cs k) (.node (T.pI es cs) (.leaf (.tup [iD (T.pC es cs), bD true])) (.leaf (.tup [iD 0, bD false]))) .fail
  | _ => .fail
noncomputable def sp40u (T : TabT) : List DV → Tr DV
  | [.sl es m 2 _ _, .sl cs k 1 _ _] => .node (okV es m cs k) (.leaf (.sl (T.tu es cs) k 1 false false)) .fail
  | _ => .fail
/-- Whether two lists of numbers are the same, of lists that are. -/
noncomputable def sp23s : List DV → Tr DV
  | [.sl a n 1 _ _, .sl b m 1 _ _] => .node (isP (isI a = true ∧ a.length = n ∧ b = a ∧ m = n ∧ n ≤ 100)) (.leaf (bD true)) .fail
  | _ => .fail
noncomputable def sp19u (U : TabF) : List DV → Tr DV
  | [.int .i64 n, .sl es m 2 _ _, .bool part] => .node (okU n es m) (.node (U.is n es part) (.leaf (.sl (U.cs n es part) (U.len n es part) 1 false false)) (.leaf (.sl [] 0 1 false true))) .fail
  | _ => .fail
noncomputable def evR9 (n : Int) (E : List (Int × Int)) (c nl : Bool) (m : Int) (F : List (Int × Int)) (T : TabT) (U : TabF) : Ev := (((((((((Ev.nil.add 13 (sp13 n E c nl m F)).add 14 sp14).add 36 (sp36 T)).add 37 (sp37 T)).add 38 (sp38 T)).add 16 (sp16u T)).add 39 (sp39u T)).add 40 (sp40u T)).add 23 sp23s).add 19 (sp19u U) |>.add 20 sp20
noncomputable def s9 (m : Int) (F : List (Int × Int)) (l : DV) (x : List DV) (k : Nat) (c2 nl2 : Bool) (r : Int) : St := ⟨[(2, .d l), (7, .d (iD m)), (8, .d (edgX F false false)), (9, .d (.sl x k 1 c2 nl2)), (10, .d (iD r))], [], []⟩


theorem r9 (n : Int) (E : List (Int × Int)) (c nl : Bool) (m : Int) (F : List (Int × Int)) (T : TabT) (U : TabF) (l : List Int) (c2 nl2 : Bool) : startS aeC (evR9 n E c nl m F T U) 9 0 Try.f9 none ⟨envOf 0 ([iD n, edgX E c nl, lstX l c2 nl2].map .d), [], []⟩ (heldD aeC 9 0) =
  bif isAt (n, edD E, List.length E, c, nl, 10) (n, edD E, List.length E, c, nl, tenI) then
    bif isI (ints l) && (Nat.beq (List.length (ints l)) (List.length l) && true) then
      bif true && Nat.beq (List.length (ints (List.take 10 (unI (ints l))))) 0 || true then
        some (0, ⟨[(2, .d (DV.sl (ints l) (List.length l) 1 c2 nl2)), (7, .d (iD m)), (8, .d (DV.sl (edD F) (List.length F) 2 false false)), (9, .d (DV.sl (ints (List.take 10 (unI (ints l)))) (lenOf 1 (List.length (ints (List.take 10 (unI (ints l)))))) 1 false (true && Nat.beq (List.length (ints (List.take 10 (unI (ints l))))) 0))), (10, .d (iD 0))], [], []⟩)
      else
        none
    else
      none
  else
    none := by kernel_rfl

theorem r9_0 (n : Int) (E : List (Int × Int)) (c nl : Bool) (m : Int) (F : List (Int × Int)) (T : TabT) (U : TabF) (l : List Int) (c3 nl3 : Bool) (x : List DV) (k : Nat) (c2 nl2 : Bool) (r : Int) : startS aeC (evR9 n E c nl m F T U) 9 0 Try.f9 (some 0) (s9 m F (lstX l c3 nl3) x k c2 nl2 r) (roundD aeC 9 0 0) =
  bif decide (r < 2) then
    bif okT m (edD F) (List.length F) x k nl2 then
      bif okT m (edD F) (List.length F) x k nl2 then
        bif okT m (edD F) (List.length F) x k nl2 then
          bif TabT.G T m (edD F) x then
            bif TabT.pI T (edD F) x then
              bif okT m (edD F) (List.length F) x k nl2 then
                bif TabT.G T m (edD F) x then
                  bif !decide (TabT.G T m (edD F) x = TabT.G T m (edD F) x) then
                    some (Ex.ret, ⟨[(6, .d (bD false))], [], []⟩)
                  else
                    bif !TabT.G T m (edD F) x then
                      some (Ex.ret, ⟨[(6, .d (bD false))], [], []⟩)
                    else
                      bif okV (edD F) (List.length F) x k then
                        bif TabT.pI T (edD F) x then
                          bif !decide (TabT.pC T (edD F) x = TabT.pC T (edD F) x) then
                            some (Ex.ret, ⟨[(6, .d (bD false))], [], []⟩)
                          else
                            bif okV (edD F) (List.length F) x k then
                              bif isP (isI (TabT.tu T (edD F) x) = true ∧ List.length (TabT.tu T (edD F) x) = k ∧ TabT.tu T (edD F) x = TabT.tu T (edD F) x ∧ k = k ∧ k ≤ 100) then
                                bif okU m (edD F) (List.length F) then
                                  bif TabF.is U m (edD F) (decide (Int.tmod (↑(List.length l) : Int) 2 = 0)) then
                                    some (Ex.norm, ⟨[(2, .d (DV.sl (ints l) (List.length l) 1 c3 nl3)), (7, .d (iD m)), (8, .d (DV.sl (edD F) (List.length F) 2 false false)), (9, .d (DV.sl (TabF.cs U m (edD F) (decide (Int.tmod (↑(List.length l) : Int) 2 = 0))) (TabF.len U m (edD F) (decide (Int.tmod (↑(List.length l) : Int) 2 = 0))) 1 false false)), (10, .d (iD (IntKind.wrap IntKind.i64 (r + 1))))], [], []⟩)
                                  else
                                    some (Ex.norm, ⟨[(2, .d (DV.sl (ints l) (List.length l) 1 c3 nl3)), (7, .d (iD m)), (8, .d (DV.sl (edD F) (List.length F) 2 false false)), (9, .d (DV.sl [] 0 1 false true)), (10, .d (iD (IntKind.wrap IntKind.i64 (r + 1))))], [], []⟩)
                                else
                                  none
                              else
                                none
                            else
                              none
                        else
                          some (Ex.ret, ⟨[(6, .d (bD false))], [], []⟩)
                      else
                        none
                else
                  bif !decide (TabT.G T m (edD F) x = TabT.G T m (edD F) x) then
                    some (Ex.ret, ⟨[(6, .d (bD false))], [], []⟩)
                  else
                    bif !TabT.G T m (edD F) x then
                      some (Ex.ret, ⟨[(6, .d (bD false))], [], []⟩)
                    else
                      bif okV (edD F) (List.length F) x k then
                        bif TabT.pI T (edD F) x then
                          bif !decide (TabT.pC T (edD F) x = TabT.pC T (edD F) x) then
                            some (Ex.ret, ⟨[(6, .d (bD false))], [], []⟩)
                          else
                            some (Ex.ret, ⟨[(6, .d (bD false))], [], []⟩)
                        else
                          some (Ex.ret, ⟨[(6, .d (bD false))], [], []⟩)
                      else
                        none
              else
                none
            else
              bif okT m (edD F) (List.length F) x k nl2 then
                bif TabT.G T m (edD F) x then
                  bif !decide (TabT.G T m (edD F) x = TabT.G T m (edD F) x) then
                    some (Ex.ret, ⟨[(6, .d (bD false))], [], []⟩)
                  else
                    bif !TabT.G T m (edD F) x then
                      some (Ex.ret, ⟨[(6, .d (bD false))], [], []⟩)
                    else
                      bif okV (edD F) (List.length F) x k then
                        bif TabT.pI T (edD F) x then
                          some (Ex.ret, ⟨[(6, .d (bD false))], [], []⟩)
                        else
                          bif okV (edD F) (List.length F) x k then
                            bif isP (isI (TabT.tu T (edD F) x) = true ∧ List.length (TabT.tu T (edD F) x) = k ∧ TabT.tu T (edD F) x = TabT.tu T (edD F) x ∧ k = k ∧ k ≤ 100) then
                              bif okU m (edD F) (List.length F) then
                                bif TabF.is U m (edD F) (decide (Int.tmod (↑(List.length l) : Int) 2 = 0)) then
                                  some (Ex.norm, ⟨[(2, .d (DV.sl (ints l) (List.length l) 1 c3 nl3)), (7, .d (iD m)), (8, .d (DV.sl (edD F) (List.length F) 2 false false)), (9, .d (DV.sl (TabF.cs U m (edD F) (decide (Int.tmod (↑(List.length l) : Int) 2 = 0))) (TabF.len U m (edD F) (decide (Int.tmod (↑(List.length l) : Int) 2 = 0))) 1 false false)), (10, .d (iD (IntKind.wrap IntKind.i64 (r + 1))))], [], []⟩)
                                else
                                  some (Ex.norm, ⟨[(2, .d (DV.sl (ints l) (List.length l) 1 c3 nl3)), (7, .d (iD m)), (8, .d (DV.sl (edD F) (List.length F) 2 false false)), (9, .d (DV.sl [] 0 1 false true)), (10, .d (iD (IntKind.wrap IntKind.i64 (r + 1))))], [], []⟩)
                              else
                                none
                            else
                              none
                          else
                            none
                      else
                        none
                else
                  bif !decide (TabT.G T m (edD F) x = TabT.G T m (edD F) x) then
                    some (Ex.ret, ⟨[(6, .d (bD false))], [], []⟩)
                  else
                    bif !TabT.G T m (edD F) x then
                      bif okU m (edD F) (List.length F) then
                        bif TabF.is U m (edD F) (decide (Int.tmod (↑(List.length l) : Int) 2 = 0)) then
                          some (Ex.norm, ⟨[(2, .d (DV.sl (ints l) (List.length l) 1 c3 nl3)), (7, .d (iD m)), (8, .d (DV.sl (edD F) (List.length F) 2 false false)), (9, .d (DV.sl (TabF.cs U m (edD F) (decide (Int.tmod (↑(List.length l) : Int) 2 = 0))) (TabF.len U m (edD F) (decide (Int.tmod (↑(List.length l) : Int) 2 = 0))) 1 false false)), (10, .d (iD (IntKind.wrap IntKind.i64 (r + 1))))], [], []⟩)
                        else
                          some (Ex.norm, ⟨[(2, .d (DV.sl (ints l) (List.length l) 1 c3 nl3)), (7, .d (iD m)), (8, .d (DV.sl (edD F) (List.length F) 2 false false)), (9, .d (DV.sl [] 0 1 false true)), (10, .d (iD (IntKind.wrap IntKind.i64 (r + 1))))], [], []⟩)
                      else
                        none
                    else
                      bif okV (edD F) (List.length F) x k then
                        bif TabT.pI T (edD F) x then
                          some (Ex.ret, ⟨[(6, .d (bD false))], [], []⟩)
                        else
                          some (Ex.ret, ⟨[(6, .d (bD false))], [], []⟩)
                      else
                        none
              else
                none
          else
            bif okT m (edD F) (List.length F) x k nl2 then
              bif TabT.G T m (edD F) x then
                bif !decide (TabT.G T m (edD F) x = TabT.G T m (edD F) x) then
                  some (Ex.ret, ⟨[(6, .d (bD false))], [], []⟩)
                else
                  bif !TabT.G T m (edD F) x then
                    some (Ex.ret, ⟨[(6, .d (bD false))], [], []⟩)
                  else
                    bif okV (edD F) (List.length F) x k then
                      bif TabT.pI T (edD F) x then
                        some (Ex.ret, ⟨[(6, .d (bD false))], [], []⟩)
                      else
                        bif okV (edD F) (List.length F) x k then
                          bif isP (isI (TabT.tu T (edD F) x) = true ∧ List.length (TabT.tu T (edD F) x) = k ∧ TabT.tu T (edD F) x = TabT.tu T (edD F) x ∧ k = k ∧ k ≤ 100) then
                            bif okU m (edD F) (List.length F) then
                              bif TabF.is U m (edD F) (decide (Int.tmod (↑(List.length l) : Int) 2 = 0)) then
                                some (Ex.norm, ⟨[(2, .d (DV.sl (ints l) (List.length l) 1 c3 nl3)), (7, .d (iD m)), (8, .d (DV.sl (edD F) (List.length F) 2 false false)), (9, .d (DV.sl (TabF.cs U m (edD F) (decide (Int.tmod (↑(List.length l) : Int) 2 = 0))) (TabF.len U m (edD F) (decide (Int.tmod (↑(List.length l) : Int) 2 = 0))) 1 false false)), (10, .d (iD (IntKind.wrap IntKind.i64 (r + 1))))], [], []⟩)
                              else
                                some (Ex.norm, ⟨[(2, .d (DV.sl (ints l) (List.length l) 1 c3 nl3)), (7, .d (iD m)), (8, .d (DV.sl (edD F) (List.length F) 2 false false)), (9, .d (DV.sl [] 0 1 false true)), (10, .d (iD (IntKind.wrap IntKind.i64 (r + 1))))], [], []⟩)
                            else
                              none
                          else
                            none
                        else
                          none
                    else
                      none
              else
                bif !decide (TabT.G T m (edD F) x = TabT.G T m (edD F) x) then
                  some (Ex.ret, ⟨[(6, .d (bD false))], [], []⟩)
                else
                  bif !TabT.G T m (edD F) x then
                    bif okU m (edD F) (List.length F) then
                      bif TabF.is U m (edD F) (decide (Int.tmod (↑(List.length l) : Int) 2 = 0)) then
                        some (Ex.norm, ⟨[(2, .d (DV.sl (ints l) (List.length l) 1 c3 nl3)), (7, .d (iD m)), (8, .d (DV.sl (edD F) (List.length F) 2 false false)), (9, .d (DV.sl (TabF.cs U m (edD F) (decide (Int.tmod (↑(List.length l) : Int) 2 = 0))) (TabF.len U m (edD F) (decide (Int.tmod (↑(List.length l) : Int) 2 = 0))) 1 false false)), (10, .d (iD (IntKind.wrap IntKind.i64 (r + 1))))], [], []⟩)
                      else
                        some (Ex.norm, ⟨[(2, .d (DV.sl (ints l) (List.length l) 1 c3 nl3)), (7, .d (iD m)), (8, .d (DV.sl (edD F) (List.length F) 2 false false)), (9, .d (DV.sl [] 0 1 false true)), (10, .d (iD (IntKind.wrap IntKind.i64 (r + 1))))], [], []⟩)
                    else
                      none
                  else
                    bif okV (edD F) (List.length F) x k then
                      bif TabT.pI T (edD F) x then
                        some (Ex.ret, ⟨[(6, .d (bD false))], [], []⟩)
                      else
                        some (Ex.ret, ⟨[(6, .d (bD false))], [], []⟩)
                    else
                      none
            else
              none
        else
          none
      else
        none
    else
      none
  else
    some (Ex.exit 0, ⟨[], [], []⟩) := by kernel_rfl

theorem r9_x (n : Int) (E : List (Int × Int)) (c nl : Bool) (m : Int) (F : List (Int × Int)) (T : TabT) (U : TabF) : nextS aeC (evR9 n E c nl m F T U) 9 0 Try.f9 none 0 (.exit 0) ⟨[], [], []⟩ (doneE aeC Try.f9 0 fun v h => freezeV h 4 v) =
  some (bD true) := by kernel_rfl

noncomputable def tabT : TabT := ⟨fun n es cs => gracB n (unE es) (unI cs), fun es cs => (partL (unE es) (unI cs) (unE es).length).isSome, fun es cs => (partL (unE es) (unI cs) (unE es).length).getD 0, fun es cs => ints (turnL (unE es) (unI cs))⟩

theorem okT_open {n : Int} {es : List DV} {m : Nat} {cs : List DV} {k : Nat} {nl : Bool} (h : okT n es m cs k nl = true) : ∃ E l, es = edD E ∧ m = E.length ∧ cs = ints l ∧ k = l.length ∧ openS n E = 0 ∧ (nl = true → l = []) := by
  obtain ⟨q1, q2, q3, q4, q5⟩ := isP_iff.1 h
  obtain ⟨e1, e2⟩ := ed_unE q2
  obtain ⟨l, rfl⟩ := isI_iff.1 q3
  rw [len_ints] at q4
  exact ⟨unE es, l, e1, e2, rfl, q4.symm, q1, fun h => List.length_eq_zero_iff.1 (by rw [q4]; exact q5 h)⟩

theorem sp36_ok : ∀ ds d, (sp36 tabT ds).val = some d → PureOK Try.prog 36 ds d := by
  intro ds d h
  unfold sp36 at h
  split at h
  · rename_i n es m c cs k c2 nl
    simp only [Tr.val] at h
    obtain ⟨hg, h2⟩ := cond_none h
    obtain ⟨E, l, rfl, rfl, rfl, rfl, q1, q2⟩ := okT_open hg
    cases h2
    have := tells36 n E c l c2 nl q1
    simp only [tabT, unE_ed, unI_ints]
    exact this
  · cases h

theorem sp37_ok : ∀ ds d, (sp37 tabT ds).val = some d → PureOK Try.prog 37 ds d := by
  intro ds d h
  unfold sp37 at h
  split at h
  · rename_i n es m c cs k c2 nl
    simp only [Tr.val] at h
    obtain ⟨hg, h2⟩ := cond_none h
    clear h
    obtain ⟨E, l, rfl, rfl, rfl, rfl, q1, q2⟩ := okT_open hg
    have := tells37 n E c l c2 nl q1 q2
    unfold pD37 at this
    simp only [tabT, unE_ed, unI_ints] at h2
    cases hgr : gracB n E l with
    | false => rw [hgr] at h2 this; cases h2; exact this
    | true =>
      rw [hgr] at h2 this
      simp only [cond_true] at h2 this
      cases hp : (partL E l E.length).isSome with
      | false => rw [hp] at h2 this; cases h2; exact this
      | true => rw [hp] at h2 this; cases h2; exact this
  · cases h

theorem sp38_ok : ∀ ds d, (sp38 tabT ds).val = some d → PureOK Try.prog 38 ds d := by
  intro ds d h
  unfold sp38 at h
  split at h
  · rename_i n es m c cs k c2 nl
    simp only [Tr.val] at h
    obtain ⟨hg, h2⟩ := cond_none h
    clear h
    obtain ⟨E, l, rfl, rfl, rfl, rfl, q1, q2⟩ := okT_open hg
    have := tells38 n E c l c2 nl q1
    unfold pD38 at this
    simp only [tabT, unE_ed, unI_ints] at h2
    cases hgr : gracB n E l with
    | false => rw [hgr] at h2 this; cases h2; exact this
    | true => rw [hgr] at h2 this; cases h2; exact this
  · cases h

theorem sp16u_ok : ∀ ds d, (sp16u tabT ds).val = some d → PureOK Try.prog 16 ds d := by
  intro ds d h
  unfold sp16u at h
  split at h
  · rename_i n es m c nl0 cs k c2 nl
    simp only [Tr.val] at h
    obtain ⟨hg, h2⟩ := cond_none h
    obtain ⟨E, l, rfl, rfl, rfl, rfl, q1, q2⟩ := okT_open hg
    cases h2
    obtain ⟨g1, g2, g3⟩ := open_graph q1
    have := grac_ok n.toNat E c nl0 l c2 nl g1.2.2.2.2 (by omega) (by have := g1.2.2.2.1; simp only at this; omega)
    rw [show ((n.toNat : Nat) : Int) = n by omega] at this
    simp only [tabT, unE_ed, unI_ints]
    exact this
  · cases h

theorem okV_open {es : List DV} {m : Nat} {cs : List DV} {k : Nat} (h : okV es m cs k = true) : ∃ E l, es = edD E ∧ m = E.length ∧ cs = ints l ∧ k = l.length ∧ EdOK l.length E ∧ E.length ≤ 10 ∧ LabOK 10 l ∧ 1 ≤ l.length ∧ l.length ≤ 100 := by
  obtain ⟨q1, q2, q3, q4, q5, q6, q7, q8⟩ := isP_iff.1 h
  obtain ⟨e1, e2⟩ := ed_unE q1
  obtain ⟨l, rfl⟩ := isI_iff.1 q2
  rw [len_ints] at q3
  subst q3
  rw [unI_ints] at q6
  exact ⟨unE es, l, e1, e2, rfl, rfl, q4, by omega, q6, q7, q8⟩

theorem sp39u_ok : ∀ ds d, (sp39u tabT ds).val = some d → PureOK Try.prog 39 ds d := by
  intro ds d h
  unfold sp39u at h
  split at h
  · rename_i es m c nl cs k c2 nl2
    simp only [Tr.val] at h
    obtain ⟨hg, h2⟩ := cond_none h
    clear h
    obtain ⟨E, l, rfl, rfl, rfl, rfl, q1, q2, q3, q4, q5⟩ := okV_open hg
    have := rparts_ok E c nl l c2 nl2 q1 (by omega)
    unfold partD at this
    simp only [tabT, unE_ed, unI_ints] at h2
    cases hp : (partL E l E.length).isSome with
    | false => rw [hp] at h2 this; cases h2; exact this
    | true => rw [hp] at h2 this; cases h2; exact this
  · cases h

theorem sp40u_ok : ∀ ds d, (sp40u tabT ds).val = some d → PureOK Try.prog 40 ds d := by
  intro ds d h
  unfold sp40u at h
  split at h
  · rename_i es m c nl cs k c2 nl2
    simp only [Tr.val] at h
    obtain ⟨hg, h2⟩ := cond_none h
    obtain ⟨E, l, rfl, rfl, rfl, rfl, q1, q2, q3, q4, q5⟩ := okV_open hg
    cases h2
    simp only [tabT, unE_ed, unI_ints]
    exact rturned_ok E c nl l c2 nl2 q2 q5 q4 q3
  · cases h

theorem sp23s_ok : ∀ ds d, (sp23s ds).val = some d → PureOK Try.prog 23 ds d := by
  intro ds d h
  unfold sp23s at h
  split at h
  · rename_i a n c nl b m c2 nl2
    simp only [Tr.val] at h
    obtain ⟨hg, h2⟩ := cond_none h
    obtain ⟨q1, q2, rfl, rfl, q3⟩ := isP_iff.1 hg
    cases h2
    obtain ⟨l, rfl⟩ := isI_iff.1 q1
    rw [len_ints] at q2
    subst q2
    have := ints_ok2 l l c c2 nl nl2 (by unfold Small; omega)
    rw [decide_eq_true rfl] at this
    exact this
  · cases h

theorem sp19u_ok : ∀ ds d, (sp19u tabF ds).val = some d → PureOK Try.prog 19 ds d := by
  intro ds d h
  unfold sp19u at h
  split at h
  · exact sp19t_ok _ _ h
  · cases h

theorem l9 (n : Int) (E : List (Int × Int)) (c nl : Bool) (m : Int) (F : List (Int × Int)) (hF : openS m F = 0) (l : List Int) (c3 nl3 : Bool) : ∀ (k : Nat) (x : List Int) (c2 nl2 : Bool), k ≤ 2 → x.length ≤ 100 → (nl2 = true → x = []) →
    LoopAt aeC (evR9 n E c nl m F tabT tabF) 9 0 Try.f9 0 (s9 m F (lstX l c3 nl3) (ints x) x.length c2 nl2 (2 - (k : Int))) (.exit 0) ⟨[], [], []⟩
  | 0, x, c2, nl2, hk, hx, hnl => .out k9_0 (by simp) ((r9_0 ..).trans (by rw [cnd_neg (by omega)]))
  | k + 1, x, c2, nl2, hk, hx, hnl => by
    obtain ⟨hg, h2, h7⟩ := open_graph hF
    have res := r9_0 n E c nl m F tabT tabF l c3 nl3 (ints x) x.length c2 nl2 (2 - ((k + 1 : Nat) : Int))
    have g1 : okT m (edD F) F.length (ints x) x.length nl2 = true := isP_iff.2 ⟨by rw [unE_ed]; exact hF, isE_ed F, isI_ints x, len_ints x, fun h => by rw [hnl h]; rfl⟩
    have g2 : okU m (edD F) F.length = true := isP_iff.2 ⟨by rw [unE_ed]; exact hF, isE_ed F⟩
    rw [cnd_pos (by omega), g1, g2, wrap64 (by omega) (by omega), show 2 - ((k + 1 : Nat) : Int) + 1 = 2 - (k : Int) by omega] at res
    have hsame : ∀ b : Bool, decide (b = b) = true := fun b => decide_eq_true rfl
    have hsameI : ∀ b : Int, decide (b = b) = true := fun b => decide_eq_true rfl
    have next : startS aeC (evR9 n E c nl m F tabT tabF) 9 0 Try.f9 (some 0) (s9 m F (lstX l c3 nl3) (ints x) x.length c2 nl2 (2 - ((k + 1 : Nat) : Int))) (roundD aeC 9 0 0) =
        (bif tabF.is m (edD F) (decide (Int.tmod (l.length : Int) 2 = 0)) then some (.norm, ⟨[(2, .d (DV.sl (ints l) l.length 1 c3 nl3)), (7, .d (iD m)), (8, .d (DV.sl (edD F) F.length 2 false false)), (9, .d (DV.sl (tabF.cs m (edD F) (decide (Int.tmod (l.length : Int) 2 = 0))) (tabF.len m (edD F) (decide (Int.tmod (l.length : Int) 2 = 0))) 1 false false)), (10, .d (iD (2 - (k : Int))))], [], []⟩)
          else some (.norm, ⟨[(2, .d (DV.sl (ints l) l.length 1 c3 nl3)), (7, .d (iD m)), (8, .d (DV.sl (edD F) F.length 2 false false)), (9, .d (DV.sl [] 0 1 false true)), (10, .d (iD (2 - (k : Int))))], [], []⟩)) →
        LoopAt aeC (evR9 n E c nl m F tabT tabF) 9 0 Try.f9 0 (s9 m F (lstX l c3 nl3) (ints x) x.length c2 nl2 (2 - ((k + 1 : Nat) : Int))) (.exit 0) ⟨[], [], []⟩ := by
      generalize decide (Int.tmod (l.length : Int) 2 = 0) = b
      intro hres
      cases hs : (srS m F b true m.toNat []).1 with
      | none =>
        have : tabF.is m (edD F) b = false := by simp only [tabF, unE_ed, hs]; rfl
        rw [this] at hres
        exact .next k9_0 hres (l9 n E c nl m F hF l c3 nl3 k [] false true (by omega) (by simp) (fun _ => rfl))
      | some o =>
        have e1 : tabF.is m (edD F) b = true := by simp only [tabF, unE_ed, hs]; rfl
        have e2 : tabF.cs m (edD F) b = ints o := by simp only [tabF, unE_ed, hs]; rfl
        have e3 : tabF.len m (edD F) b = o.length := by simp only [tabF, unE_ed, hs]; rfl
        rw [e1, e2, e3] at hres
        have := grac_len (srS_some hs)
        exact .next k9_0 hres (l9 n E c nl m F hF l c3 nl3 k o false false (by omega) (by omega) (by simp))
    cases hgr : gracB m F x with
    | false =>
      have e : tabT.G m (edD F) (ints x) = false := by simp only [tabT, unE_ed, unI_ints, hgr]
      simp only [e, cond_true, cond_false, hsame, Bool.not_true, Bool.not_false] at res
      exact next res
    | true =>
      have e : tabT.G m (edD F) (ints x) = true := by simp only [tabT, unE_ed, unI_ints, hgr]
      obtain ⟨a1, a2, a3, a4, a5, a6, a7⟩ := gradh hF hgr
      have g3 : okV (edD F) F.length (ints x) x.length = true := isP_iff.2 ⟨isE_ed F, isI_ints x, len_ints x, by rw [unE_ed]; exact a3, a7, by rw [unI_ints]; exact a2.mono a7, by omega, by omega⟩
      have g4 : isP (isI (tabT.tu (edD F) (ints x)) = true ∧ (tabT.tu (edD F) (ints x)).length = x.length ∧ tabT.tu (edD F) (ints x) = tabT.tu (edD F) (ints x) ∧ x.length = x.length ∧ x.length ≤ 100) = true := by
        refine isP_iff.2 ⟨?_, ?_, rfl, rfl, by omega⟩
        · simp only [tabT]; exact isI_ints _
        · simp only [tabT, unE_ed, unI_ints, len_ints]; simp [turnL]
      rw [g3, g4] at res
      cases hp : tabT.pI (edD F) (ints x) with
      | true =>
        simp only [e, hp, cond_true, cond_false, hsame, hsameI, Bool.not_true, Bool.not_false] at res
        exact next res
      | false =>
        simp only [e, hp, cond_true, cond_false, hsame, hsameI, Bool.not_true, Bool.not_false] at res
        exact next res

theorem law9 (n : Int) (E : List (Int × Int)) (c nl : Bool) (l : List Int) (c2 nl2 : Bool) (hE : E.length < 9223372036854775808) : PureOK Try.prog 9 [iD n, edgX E c nl, lstX l c2 nl2] (bD true) := by
  obtain ⟨m, F, hF, ht⟩ := tame_ok n E c nl hE
  have hev : EvOK Try.prog (evR9 n E c nl m F tabT tabF) := EvOK.add (EvOK.add (EvOK.add (EvOK.add (EvOK.add (EvOK.add (EvOK.add (EvOK.add (EvOK.add (EvOK.add (EvOK.add EvOK.nil (sp13_ok ht)) sp14_ok) sp36_ok) sp37_ok) sp38_ok) sp16u_ok) sp39u_ok) sp40u_ok) sp23s_ok) sp19u_ok) sp20_ok
  refine ae_pure hev (fn := Try.f9) k9 (by kernel_rfl) (by kernel_rfl) ?_
  have h0 := r9 n E c nl m F tabT tabF l c2 nl2
  have ha : isAt (n, edD E, E.length, c, nl, (10 : Int)) (n, edD E, E.length, c, nl, tenI) = true := isAt_iff.2 rfl
  have hb : (isI (ints l) && (Nat.beq (ints l).length l.length && true)) = true := by rw [isI_ints, len_ints, Nat.beq_refl]; rfl
  rw [ha, hb, unI_ints, Bool.or_true, cond_true, cond_true, cond_true, Go.AE.lenOf_1, len_ints] at h0
  exact startF_one k9 done_plain h0 (l9 n E c nl m F hF l c2 nl2 2 (l.take 10) false (true && Nat.beq (l.take 10).length 0) (by omega) (by rw [List.length_take]; omega) (fun h => List.length_eq_zero_iff.1 (Nat.eq_of_beq_eq_true (by simpa using h)))) (r9_x ..)
end Go.Proofs.Ytkcdbndpcabelaa

/- Chapter 02: what is said of parities, without the program. -/
namespace Go.Proofs.Ytkcdbndpcabelaa
open Go Go.AE

/-! ### What is found -/
def Found (n : Int) (E : List (Int × Int)) (part : Bool) : Nat → List Int → Prop
  | 0, l => gracB n E l = true ∧ ((partL E l E.length).isSome = true ∨ part = false)
  | f + 1, l => ∃ k : Nat, k < E.length + 1 ∧ fitsB E l ((E.length : Int) - k) = true ∧ Found n E part f (l ++ [(E.length : Int) - k])

theorem Found.mono {n : Int} {E : List (Int × Int)} : ∀ {f : Nat} {l : List Int}, Found n E true f l → Found n E false f l
  | 0, l, h => ⟨h.1, .inr rfl⟩
  | f + 1, l, ⟨k, h1, h2, h3⟩ => ⟨k, h1, h2, Found.mono h3⟩

theorem loopX_found {next : List Int → Option (List Int) × Int} {E : List (Int × Int)} {l : List Int} {first : Bool} {P : List Int → Prop}
    (hn : ∀ x, 0 ≤ (next x).2 ∧ ((next x).1.isSome = true ↔ P x) ∧ (0 < (next x).2 ↔ P x)) : ∀ (k : Nat) (best : Option (List Int)) (many : Int), 0 ≤ many → (best.isSome = true ↔ 0 < many) →
      ((loopX next E l first k best many).1.isSome = true ↔ 0 < many ∨ ∃ j : Nat, j < k ∧ fitsB E l ((E.length : Int) - j) = true ∧ P (l ++ [(E.length : Int) - j])) ∧
      (0 < (loopX next E l first k best many).2 ↔ 0 < many ∨ ∃ j : Nat, j < k ∧ fitsB E l ((E.length : Int) - j) = true ∧ P (l ++ [(E.length : Int) - j]))
  | 0, best, many, h0, hb => by simp [loopX, hb]
  | k + 1, best, many, h0, hb => by
    obtain ⟨n0, n1, n2⟩ := hn (l ++ [(E.length : Int) - k])
    have hex : (∃ j : Nat, j < k + 1 ∧ fitsB E l ((E.length : Int) - j) = true ∧ P (l ++ [(E.length : Int) - j])) ↔
        (fitsB E l ((E.length : Int) - k) = true ∧ P (l ++ [(E.length : Int) - k])) ∨ ∃ j : Nat, j < k ∧ fitsB E l ((E.length : Int) - j) = true ∧ P (l ++ [(E.length : Int) - j]) := by
      constructor
      · rintro ⟨j, h1, h2⟩
        by_cases e : j = k
        · subst e; exact .inl h2
        · exact .inr ⟨j, by omega, h2⟩
      · rintro (h | ⟨j, h1, h2⟩)
        · exact ⟨k, by omega, h⟩
        · exact ⟨j, by omega, h2⟩
    rw [hex]
    simp only [loopX]
    by_cases hf : fitsB E l ((E.length : Int) - k) = true
    · rw [if_pos hf]
      have hb2 : (best.or (next (l ++ [(E.length : Int) - k])).1).isSome = true ↔ 0 < many + (next (l ++ [(E.length : Int) - k])).2 := by
        rw [Option.isSome_or, Bool.or_eq_true, hb, n1, ← n2]
        omega
      split
      · rename_i hc
        have : 0 < many ∨ P (l ++ [(E.length : Int) - k]) := by
          rw [← n2]; omega
        have hr : 0 < many ∨ (fitsB E l ((E.length : Int) - k) = true ∧ P (l ++ [(E.length : Int) - k])) ∨ ∃ j : Nat, j < k ∧ fitsB E l ((E.length : Int) - j) = true ∧ P (l ++ [(E.length : Int) - j]) := by
          rcases this with h | h
          · exact .inl h
          · exact .inr (.inl ⟨hf, h⟩)
        exact ⟨⟨fun _ => hr, fun _ => hb2.2 hc.2⟩, ⟨fun _ => hr, fun _ => hc.2⟩⟩
      · obtain ⟨i1, i2⟩ := loopX_found (l := l) (E := E) (first := first) hn k (best.or (next (l ++ [(E.length : Int) - k])).1) (many + (next (l ++ [(E.length : Int) - k])).2) (by omega) hb2
        have hm : (0 < many + (next (l ++ [(E.length : Int) - k])).2) ↔ 0 < many ∨ P (l ++ [(E.length : Int) - k]) := by
          rw [← n2]; omega
        rw [i1, i2, hm]
        simp only [hf, true_and, or_assoc, and_self]
    · rw [if_neg hf]
      obtain ⟨i1, i2⟩ := loopX_found (l := l) (E := E) (first := first) hn k best many h0 hb
      rw [i1, i2]
      simp [hf]

theorem srS_found (n : Int) (E : List (Int × Int)) (part first : Bool) (hE : E.length ≤ 10) : ∀ (f : Nat) (l : List Int), ((srS n E part first f l).1.isSome = true ↔ Found n E part f l) ∧ (0 < (srS n E part first f l).2 ↔ Found n E part f l)
  | 0, l => by
    simp only [srS, Found]
    split <;> rename_i h <;> simp [h]
  | f + 1, l => by
    have := loopX_found (E := E) (l := l) (first := first) (P := Found n E part f) (fun x => ⟨(srS_bound n E part first hE f x).1, srS_found n E part first hE f x⟩) (E.length + 1) none 0 (by omega) (by simp)
    simp only [srS, Found]
    rw [this.1, this.2]
    simp

theorem srS_part {n : Int} {E : List (Int × Int)} {first : Bool} : ∀ {f : Nat} {l o : List Int}, (srS n E true first f l).1 = some o → (partL E o E.length).isSome = true
  | 0, l, o, e => by
    simp only [srS] at e
    split at e
    · rename_i h; cases e; simpa using h.2
    · cases e
  | f + 1, l, o, e => loopX_some (fun x o e => srS_part e) _ none 0 (by simp) o e

/-! ### Numbers from 1 to m, each once -/
theorem nodup_le : ∀ (m : Nat) (l : List Nat), l.Nodup → (∀ d ∈ l, 1 ≤ d ∧ d ≤ m) → l.length ≤ m
  | 0, l, _, h => by
    cases l with
    | nil => simp
    | cons d r => have := h d (List.mem_cons_self ..); omega
  | m + 1, l, hn, h => by
    by_cases hm : m + 1 ∈ l
    · have := nodup_le m (l.erase (m + 1)) (hn.erase _) (fun d hd => by
        have h1 := (hn.mem_erase_iff).1 hd
        have h2 := h d h1.2
        have h3 := h1.1
        omega)
      rw [List.length_erase_of_mem hm] at this
      omega
    · have := nodup_le m l hn (fun d hd => by
        have h2 := h d hd
        have : d ≠ m + 1 := fun e => hm (e ▸ hd)
        omega)
      omega

theorem sum_erase {l : List Nat} {d : Nat} (h : d ∈ l) : l.sum = d + (l.erase d).sum := by
  have := (List.perm_cons_erase h).sum_nat
  simpa using this

theorem nodup_sum : ∀ (m : Nat) (l : List Nat), l.Nodup → (∀ d ∈ l, 1 ≤ d ∧ d ≤ m) → l.length = m → 2 * l.sum = m * (m + 1)
  | 0, l, _, h, hl => by
    have := List.length_eq_zero_iff.1 hl
    subst this; simp
  | m + 1, l, hn, h, hl => by
    by_cases hm : m + 1 ∈ l
    · have := nodup_sum m (l.erase (m + 1)) (hn.erase _) (fun d hd => by
        have h1 := (hn.mem_erase_iff).1 hd
        have h2 := h d h1.2
        have h3 := h1.1
        omega) (by rw [List.length_erase_of_mem hm]; omega)
      rw [sum_erase hm, Nat.mul_add, this, ← Nat.add_mul]
      rw [Nat.mul_comm, Nat.add_comm 2 m]
    · have := nodup_le m l hn (fun d hd => by
        have h2 := h d hd
        have : d ≠ m + 1 := fun e => hm (e ▸ hd)
        omega)
      omega

/-! ### Degrees -/
def dot : List Int → List Int → Int
  | d :: ds, x :: xs => d * x + dot ds xs
  | _, _ => 0

theorem dot_zero (l : List Int) : ∀ n : Nat, dot (List.replicate n 0) l = 0 := by
  induction l with
  | nil => intro n; cases n <;> simp [dot, List.replicate_succ]
  | cons x r ih => intro n; cases n <;> simp [dot, List.replicate_succ, ih]

theorem dot_set : ∀ (d l : List Int) (i : Nat), i < d.length → i < l.length → dot (d.set i (d.getD i 0 + 1)) l = dot d l + l.getD i 0
  | [], l, i, h, _ => by simp at h
  | d :: ds, [], i, _, h => by simp at h
  | d :: ds, x :: xs, 0, _, _ => by simp [dot, Int.add_mul]; omega
  | d :: ds, x :: xs, i + 1, h, h' => by
    have := dot_set ds xs i (by simpa using h) (by simpa using h')
    simp only [List.set_cons_succ, dot, List.getD_cons_succ]
    omega

theorem dot_even : ∀ (d l : List Int), (∀ x ∈ d, x % 2 = 0) → dot d l % 2 = 0
  | [], l, _ => by simp [dot]
  | d :: ds, [], _ => by simp [dot]
  | d :: ds, x :: xs, h => by
    have := dot_even ds xs (fun y hy => h y (List.mem_cons_of_mem _ hy))
    have h1 := h d (List.mem_cons_self ..)
    obtain ⟨k, rfl⟩ : ∃ k, d = 2 * k := ⟨d / 2, by omega⟩
    simp only [dot]
    rw [Int.mul_assoc]
    omega

def bump (d : List Int) (a : Int) : List Int := d.set a.toNat (d.getD a.toNat 0 + 1)
def degs (d : List Int) (E : List (Int × Int)) : List Int := E.foldl (fun d e => bump (bump d e.1) e.2) d

theorem bump_len (d : List Int) (a : Int) : (bump d a).length = d.length := by simp [bump]

theorem degs_dot (l : List Int) : ∀ (E : List (Int × Int)) (d : List Int), EdOK l.length E → d.length = l.length → dot (degs d E) l = dot d l + (E.map fun e => labAt l e.1 + labAt l e.2).sum
  | [], d, _, _ => by simp [degs]
  | e :: r, d, hE, hd => by
    have he := hE e (List.mem_cons_self ..)
    have := degs_dot l r (bump (bump d e.1) e.2) (fun x hx => hE x (List.mem_cons_of_mem _ hx)) (by rw [bump_len, bump_len, hd])
    simp only [degs, List.foldl_cons] at this ⊢
    rw [this]
    have h1 : dot (bump d e.1) l = dot d l + labAt l e.1 := dot_set d l e.1.toNat (by omega) (by omega)
    have h2 : dot (bump (bump d e.1) e.2) l = dot (bump d e.1) l + labAt l e.2 := dot_set (bump d e.1) l e.2.toNat (by rw [bump_len]; omega) (by omega)
    rw [h2, h1, List.map_cons, List.sum_cons]
    omega

theorem dlt_par (l : List Int) : ∀ E : List (Int × Int), (((E.map (dlt l)).sum : Nat) : Int) % 2 = (E.map fun e => labAt l e.1 + labAt l e.2).sum % 2
  | [] => by simp
  | e :: r => by
    have := dlt_par l r
    simp only [List.map_cons, List.sum_cons]
    have h : ((dlt l e : Nat) : Int) % 2 = (labAt l e.1 + labAt l e.2) % 2 := by unfold dlt dist; omega
    omega

theorem degs_len : ∀ (E : List (Int × Int)) (d : List Int), (degs d E).length = d.length
  | [], d => rfl
  | e :: r, d => by
    have := degs_len r (bump (bump d e.1) e.2)
    simp only [degs, List.foldl_cons] at this ⊢
    rw [this, bump_len, bump_len]

theorem labAt_ne {l : List Int} (hn : l.Nodup) {a b : Int} (h0 : 0 ≤ a) (hab : a < b) (hb : b < l.length) : labAt l a ≠ labAt l b := by
  unfold labAt
  have ha' : a.toNat < l.length := by omega
  have hb' : b.toNat < l.length := by omega
  rw [show l.getD a.toNat 0 = l[a.toNat] by simp [ha'], show l.getD b.toNat 0 = l[b.toNat] by simp [hb']]
  exact List.pairwise_iff_getElem.1 hn a.toNat b.toNat ha' hb' (by omega)

theorem even_grac {n : Int} {E : List (Int × Int)} {l : List Int} (hn : openS n E = 0) (hg : gracB n E l = true) (he : ∀ x ∈ degs (List.replicate n.toNat 0) E, x % 2 = 0) : E.length % 4 ≠ 1 ∧ E.length % 4 ≠ 2 := by
  obtain ⟨a1, a2, a3, a4, a5, a6, a7⟩ := gradh hn hg
  simp only [gracB, Bool.and_eq_true] at hg
  obtain ⟨_, hnew, hchk⟩ := hg
  have hnd := ((newS_iff l []).1 hnew).2.1
  have hdl : ∀ d ∈ E.map (dlt l), 1 ≤ d ∧ d ≤ E.length := by
    intro d hd
    obtain ⟨e, hm, rfl⟩ := List.mem_map.1 hd
    have := a3 e hm
    refine ⟨?_, dlt_le a2 this.1 this.2.1 this.2.2⟩
    have := labAt_ne hnd this.1 this.2.1 this.2.2
    unfold dlt dist
    omega
  have h1 := ((chkD_iff (E.map (dlt l)) (List.replicate (E.length + 1) false) (fun d hd => by have := hdl d hd; simp; omega)).1 hchk).1
  have hs := nodup_sum E.length (E.map (dlt l)) h1 hdl (by simp)
  have hp := dlt_par l E
  have hd := degs_dot l E (List.replicate n.toNat 0) a3 (by simp; omega)
  rw [dot_zero, Int.zero_add] at hd
  have h2 := dot_even _ l he
  rw [hd, ← hp] at h2
  have h3 : ∀ m : Nat, m ≤ 10 → ∀ s : Nat, 2 * s = m * (m + 1) → s % 2 = 0 → m % 4 ≠ 1 ∧ m % 4 ≠ 2 := by
    intro m hm s
    match m, hm with
    | 0, _ | 1, _ | 2, _ | 3, _ | 4, _ | 5, _ | 6, _ | 7, _ | 8, _ | 9, _ | 10, _ => intro h h'; omega
  exact h3 E.length a7 _ hs (by omega)

/-! ### Two sides -/
def sideB (side : Nat) (a : Int) : Nat := side / 2 ^ a.toNat % 2
def sidesOK (E : List (Int × Int)) (side : Nat) : Bool := E.all fun e => !decide (sideB side e.1 = sideB side e.2)
/-- Whether one of the first k ways to tell sides is right. -/
def twoS (E : List (Int × Int)) : Nat → Bool
  | 0 => false
  | k + 1 => twoS E k || sidesOK E k

theorem twoS_iff (E : List (Int × Int)) : ∀ k, twoS E k = true ↔ ∃ s, s < k ∧ sidesOK E s = true
  | 0 => by simp [twoS]
  | k + 1 => by
    rw [twoS, Bool.or_eq_true, twoS_iff E k]
    constructor
    · rintro (⟨s, h1, h2⟩ | h)
      · exact ⟨s, by omega, h2⟩
      · exact ⟨k, by omega, h⟩
    · rintro ⟨s, h1, h2⟩
      by_cases e : s = k
      · subst e; exact .inr h2
      · exact .inl ⟨s, by omega, h2⟩

theorem sides_of (p : Nat → Bool) : ∀ m : Nat, ∃ s, s < 2 ^ m ∧ ∀ v, v < m → s / 2 ^ v % 2 = if p v then 1 else 0
  | 0 => ⟨0, by simp, fun v h => by omega⟩
  | m + 1 => by
    obtain ⟨s, h1, h2⟩ := sides_of p m
    have hp : 0 < 2 ^ m := Nat.pow_pos (by omega)
    refine ⟨s + (if p m then 1 else 0) * 2 ^ m, ?_, ?_⟩
    · rw [Nat.pow_succ]; split <;> omega
    · intro v hv
      by_cases e : v = m
      · subst e
        rw [Nat.add_mul_div_right _ _ hp, Nat.div_eq_of_lt h1]
        split <;> rfl
      · have hv' : v < m := by omega
        have hpv : 0 < 2 ^ v := Nat.pow_pos (by omega)
        obtain ⟨j, rfl⟩ : ∃ j, m = v + 1 + j := ⟨m - v - 1, by omega⟩
        have : (if p (v + 1 + j) = true then 1 else 0) * 2 ^ (v + 1 + j) = ((if p (v + 1 + j) = true then 1 else 0) * 2 ^ j * 2) * 2 ^ v := by
          rw [Nat.pow_add, Nat.pow_add, Nat.pow_one]; ac_rfl
        rw [this, Nat.add_mul_div_right _ _ hpv, Nat.add_mul_mod_self_right]
        exact h2 v hv'

theorem part_two {n : Int} {E : List (Int × Int)} {l : List Int} (hn : openS n E = 0) (hg : gracB n E l = true) (hp : (partL E l E.length).isSome = true) : twoS E (2 ^ n.toNat) = true := by
  obtain ⟨a1, a2, a3, a4, a5, a6, a7⟩ := gradh hn hg
  obtain ⟨k, _, _, hk⟩ := (partL_iff E l E.length (Nat.le_refl _)).1 hp
  obtain ⟨s, h1, h2⟩ := sides_of (fun v => decide (labAt l v ≤ k)) n.toNat
  refine (twoS_iff E _).2 ⟨s, h1, List.all_eq_true.2 fun e he => ?_⟩
  have hs := List.all_eq_true.1 hk e he
  have hb := a3 e he
  have e1 := h2 e.1.toNat (by omega)
  have e2 := h2 e.2.toNat (by omega)
  unfold sideB
  rw [e1, e2]
  rw [show ((e.1.toNat : Nat) : Int) = e.1 by omega, show ((e.2.toNat : Nat) : Int) = e.2 by omega]
  unfold splitE at hs
  revert hs
  cases decide (labAt l e.1 ≤ k) <;> cases decide (labAt l e.2 ≤ k) <;> simp

/-! ### Complete graphs -/
def pairsB (a : Int) : Nat → Int → List (Int × Int)
  | 0, _ => []
  | k + 1, b => (a, b) :: pairsB a k (b + 1)
/-- The pairs from a on, k nodes ahead of the end. -/
def pairsA : Nat → Int → List (Int × Int)
  | 0, _ => []
  | k + 1, a => pairsB a k (a + 1) ++ pairsA k (a + 1)

theorem full2 : (srS 2 (pairsA 2 0) false true 2 []).1.isSome = true := by decide +kernel
theorem full3 : (srS 3 (pairsA 3 0) false true 3 []).1.isSome = true := by decide +kernel
theorem full4 : (srS 4 (pairsA 4 0) false true 4 []).1.isSome = true := by decide +kernel
theorem full5 : (srS 5 (pairsA 5 0) false true 5 []).1.isSome = false := by
  cases h : (srS 5 (pairsA 5 0) false true 5 []).1 with
  | none => rfl
  | some o => exact absurd rfl (even_grac (n := 5) (E := pairsA 5 0) (l := o) (by decide +kernel) (srS_some h) (by decide +kernel)).2
end Go.Proofs.Ytkcdbndpcabelaa

/- Chapter 02: the law on parities, on data. -/
namespace Go.Proofs.Ytkcdbndpcabelaa
open Go Go.AE

theorem k8 : OkSeg Try.f8 none [0, 2, 4, 8] := ⟨by kernel_rfl, by kernel_rfl, by decide⟩
theorem k8_0 : OkSeg Try.f8 (some 0) [] := ⟨by kernel_rfl, by kernel_rfl, by decide⟩
theorem k8_2 : OkSeg Try.f8 (some 2) [] := ⟨by kernel_rfl, by kernel_rfl, by decide⟩
theorem k8_4 : OkSeg Try.f8 (some 4) [6] := ⟨by kernel_rfl, by kernel_rfl, by decide⟩
theorem k8_6 : OkSeg Try.f8 (some 6) [] := ⟨by kernel_rfl, by kernel_rfl, by decide⟩
theorem k8_8 : OkSeg Try.f8 (some 8) [10] := ⟨by kernel_rfl, by kernel_rfl, by decide⟩
theorem k8_10 : OkSeg Try.f8 (some 10) [] := ⟨by kernel_rfl, by kernel_rfl, by decide⟩
/-- The three functions as a table. -/
structure TabW where
  is : Bool → Int → List DV → Bool
  cs : Bool → Int → List DV → List DV
  len : Bool → Int → List DV → Nat
  many : Int → List DV → Int
noncomputable def spLt (T : TabW) (p : Bool) : List DV → Tr DV
  | [.int .i64 n, .sl es m 2 _ false] => .node (okU n es m) (.node (T.is p n es) (.leaf (.tup [.sl (T.cs p n es) (T.len p n es) 1 false false, bD true, iD 0])) (.leaf (.tup [nilS1, bD false, iD 0]))) .fail
  | _ => .fail
noncomputable def spCt (T : TabW) : List DV → Tr DV
  | [.int .i64 n, .sl es m 2 _ false] => .node (okU n es m) (.leaf (.tup [iD (T.many n es), iD 0])) .fail
  | _ => .fail
noncomputable def evR8 (n : Int) (E : List (Int × Int)) (c nl : Bool) (m : Int) (F : List (Int × Int)) (T : TabW) : Ev := ((((Ev.nil.add 13 (sp13 n E c nl m F)).add 28 (spLt T false)).add 30 (spLt T true)).add 29 (spCt T)).add 20 sp20
noncomputable def s8 (l : DV) (m : Int) (F : List (Int × Int)) (is part : Bool) (n : Nat) (d : List DV) (i : Int) : St := ⟨[(1, .d l), (5, .d (iD m)), (6, .d (edgX F false false)), (8, .d (bD is)), (11, .d (bD part)), (15, AV.row 0 0 n n 1 true), (16, .d (iD i))], [.dc d], []⟩
noncomputable def x8 (l : DV) (m : Int) (F : List (Int × Int)) (is part : Bool) (n : Nat) (d : List DV) : St := ⟨[(1, .d l), (5, .d (iD m)), (6, .d (edgX F false false)), (8, .d (bD is)), (11, .d (bD part)), (15, AV.row 0 0 n n 1 true)], [.dc d], []⟩
noncomputable def t8 (l : DV) (m : Int) (F : List (Int × Int)) (is part : Bool) (n : Nat) (d : List DV) (even : Bool) (v : Int) : St := ⟨[(1, .d l), (5, .d (iD m)), (6, .d (edgX F false false)), (8, .d (bD is)), (11, .d (bD part)), (15, AV.row 0 0 n n 1 true), (17, .d (bD even)), (18, .d (bD false)), (19, .d (iD v))], [.dc d], []⟩
noncomputable def y8 (l : DV) (m : Int) (F : List (Int × Int)) (is part even : Bool) : St := ⟨[(1, .d l), (5, .d (iD m)), (6, .d (edgX F false false)), (8, .d (bD is)), (11, .d (bD part)), (17, .d (bD even)), (18, .d (bD false))], [], []⟩
noncomputable def u8 (l : DV) (m : Int) (F : List (Int × Int)) (is part even two : Bool) (side : Int) : St := ⟨[(1, .d l), (5, .d (iD m)), (6, .d (edgX F false false)), (8, .d (bD is)), (11, .d (bD part)), (17, .d (bD even)), (18, .d (bD two)), (20, .d (iD side))], [], []⟩
noncomputable def w8 (l : DV) (m : Int) (F : List (Int × Int)) (is part even two : Bool) (side : Int) (ok : Bool) (i : Int) : St := ⟨[(1, .d l), (5, .d (iD m)), (6, .d (edgX F false false)), (8, .d (bD is)), (11, .d (bD part)), (17, .d (bD even)), (18, .d (bD two)), (20, .d (iD side)), (21, .d (bD ok)), (22, .d (iD i))], [], []⟩
noncomputable def v8 (l : DV) (F : List (Int × Int)) (is part even two : Bool) : St := ⟨[(1, .d l), (6, .d (edgX F false false)), (8, .d (bD is)), (11, .d (bD part)), (17, .d (bD even)), (18, .d (bD two))], [], []⟩
noncomputable def a8 (K : Int) (d : List DV) (a : Int) : St := ⟨[(23, .d (iD K)), (24, AV.grow 0 2 false), (25, .d (iD a))], [.dc d], []⟩
noncomputable def b8 (K : Int) (d : List DV) (a b : Int) : St := ⟨[(23, .d (iD K)), (24, AV.grow 0 2 false), (25, .d (iD a)), (26, .d (iD b))], [.dc d], []⟩


theorem r8 (n : Int) (E : List (Int × Int)) (c nl : Bool) (m : Int) (F : List (Int × Int)) (T : TabW) : startS aeC (evR8 n E c nl m F T) 8 0 Try.f8 none ⟨envOf 0 ([iD n, edgX E c nl].map .d), [], []⟩ (heldD aeC 8 0) =
  bif isAt (n, edD E, List.length E, c, nl, 10) (n, edD E, List.length E, c, nl, tenI) then
    bif okU m (edD F) (List.length F) then
      bif TabW.is T false m (edD F) then
        bif okU m (edD F) (List.length F) then
          bif TabW.is T true m (edD F) then
            bif okU m (edD F) (List.length F) then
              bif !decide (true = decide (0 < TabW.many T m (edD F))) then
                none
              else
                bif decide (0 ≤ m) && decide (m ≤ m) && decide (m ≤ 1048576) && true then
                  some (0, ⟨[(1, .d (DV.sl (edD E) (List.length E) 2 c nl)), (5, .d (iD m)), (6, .d (DV.sl (edD F) (List.length F) 2 false false)), (8, .d (bD true)), (11, .d (bD true)), (15, AV.row 0 0 (Int.toNat m) (Int.toNat m) 1 true), (16, .d (iD 0))], [.dc (List.flatten (List.replicate (Int.toNat m) [iD 0]))], []⟩)
                else
                  none
            else
              none
          else
            bif okU m (edD F) (List.length F) then
              bif !decide (true = decide (0 < TabW.many T m (edD F))) then
                none
              else
                bif decide (0 ≤ m) && decide (m ≤ m) && decide (m ≤ 1048576) && true then
                  some (0, ⟨[(1, .d (DV.sl (edD E) (List.length E) 2 c nl)), (5, .d (iD m)), (6, .d (DV.sl (edD F) (List.length F) 2 false false)), (8, .d (bD true)), (11, .d (bD false)), (15, AV.row 0 0 (Int.toNat m) (Int.toNat m) 1 true), (16, .d (iD 0))], [.dc (List.flatten (List.replicate (Int.toNat m) [iD 0]))], []⟩)
                else
                  none
            else
              none
        else
          none
      else
        bif okU m (edD F) (List.length F) then
          bif TabW.is T true m (edD F) then
            bif okU m (edD F) (List.length F) then
              none
            else
              none
          else
            bif okU m (edD F) (List.length F) then
              bif !decide (false = decide (0 < TabW.many T m (edD F))) then
                none
              else
                bif decide (0 ≤ m) && decide (m ≤ m) && decide (m ≤ 1048576) && true then
                  some (0, ⟨[(1, .d (DV.sl (edD E) (List.length E) 2 c nl)), (5, .d (iD m)), (6, .d (DV.sl (edD F) (List.length F) 2 false false)), (8, .d (bD false)), (11, .d (bD false)), (15, AV.row 0 0 (Int.toNat m) (Int.toNat m) 1 true), (16, .d (iD 0))], [.dc (List.flatten (List.replicate (Int.toNat m) [iD 0]))], []⟩)
                else
                  none
            else
              none
        else
          none
    else
      none
  else
    none := by kernel_rfl

theorem r8_0 (n : Int) (E : List (Int × Int)) (c nl : Bool) (m : Int) (F : List (Int × Int)) (T : TabW) (l : DV) (is part : Bool) (k : Nat) (d : List DV) (i : Int) : startS aeC (evR8 n E c nl m F T) 8 0 Try.f8 (some 0) (s8 l m F is part k d i) (roundD aeC 8 0 0) =
  bif decide (i < (↑(List.length F) : Int)) then
    bif inRange i (List.length F) then
      getI (nth (edD F) (Int.toNat i * 2 + 0)) fun x0 =>
      bif inRange x0 k && true then
        getI (nth d (0 + Int.toNat x0 * 1)) fun x1 =>
        bif inRange x0 k && true then
          bif Nat.ble (0 + Int.toNat x0 * 1 + 1) (List.length d) && true then
            bif inRange i (List.length F) then
              getI (nth (edD F) (Int.toNat i * 2 + 1)) fun x2 =>
              bif inRange x2 k && true then
                getI (nth (setNth d (0 + Int.toNat x0 * 1) (iD (IntKind.wrap IntKind.i64 (x1 + 1)))) (0 + Int.toNat x2 * 1)) fun x3 =>
                bif inRange x2 k && true then
                  bif Nat.ble (0 + Int.toNat x2 * 1 + 1) (List.length (setNth d (0 + Int.toNat x0 * 1) (iD (IntKind.wrap IntKind.i64 (x1 + 1))))) && true then
                    some (Ex.norm, ⟨[(1, .d l), (5, .d (iD m)), (6, .d (DV.sl (edD F) (List.length F) 2 false false)), (8, .d (bD is)), (11, .d (bD part)), (15, AV.row 0 0 k k 1 true), (16, .d (iD (IntKind.wrap IntKind.i64 (i + 1))))], [.dc (setNth (setNth d (0 + Int.toNat x0 * 1) (iD (IntKind.wrap IntKind.i64 (x1 + 1)))) (0 + Int.toNat x2 * 1) (iD (IntKind.wrap IntKind.i64 (x3 + 1))))], []⟩)
                  else
                    none
                else
                  none
              else
                none
            else
              none
          else
            none
        else
          none
      else
        none
    else
      none
  else
    some (Ex.exit 0, ⟨[(1, .d l), (5, .d (iD m)), (6, .d (DV.sl (edD F) (List.length F) 2 false false)), (8, .d (bD is)), (11, .d (bD part)), (15, AV.row 0 0 k k 1 true)], [.dc d], []⟩) := by kernel_rfl

theorem r8_1 (n : Int) (E : List (Int × Int)) (c nl : Bool) (m : Int) (F : List (Int × Int)) (T : TabW) (l : DV) (is part : Bool) (k : Nat) (d : List DV) : nextS aeC (evR8 n E c nl m F T) 8 0 Try.f8 none 0 (.exit 0) (x8 l m F is part k d) (heldD aeC 8 0) =
  some (2, ⟨[(1, .d l), (5, .d (iD m)), (6, .d (DV.sl (edD F) (List.length F) 2 false false)), (8, .d (bD is)), (11, .d (bD part)), (15, AV.row 0 0 k k 1 true), (17, .d (bD true)), (18, .d (bD false)), (19, .d (iD 0))], [.dc d], []⟩) := by kernel_rfl

theorem r8_2 (n : Int) (E : List (Int × Int)) (c nl : Bool) (m : Int) (F : List (Int × Int)) (T : TabW) (l : DV) (is part : Bool) (k : Nat) (d : List DV) (even : Bool) (v : Int) : startS aeC (evR8 n E c nl m F T) 8 0 Try.f8 (some 2) (t8 l m F is part k d even v) (roundD aeC 8 0 2) =
  bif decide (v < m) then
    bif even then
      bif inRange v k && true then
        getI (nth d (0 + Int.toNat v * 1)) fun x0 =>
        some (Ex.norm, ⟨[(1, .d l), (5, .d (iD m)), (6, .d (DV.sl (edD F) (List.length F) 2 false false)), (8, .d (bD is)), (11, .d (bD part)), (15, AV.row 0 0 k k 1 true), (17, .d (bD (decide (Int.tmod x0 2 = 0)))), (18, .d (bD false)), (19, .d (iD (IntKind.wrap IntKind.i64 (v + 1))))], [.dc d], []⟩)
      else
        none
    else
      some (Ex.norm, ⟨[(1, .d l), (5, .d (iD m)), (6, .d (DV.sl (edD F) (List.length F) 2 false false)), (8, .d (bD is)), (11, .d (bD part)), (15, AV.row 0 0 k k 1 true), (17, .d (bD false)), (18, .d (bD false)), (19, .d (iD (IntKind.wrap IntKind.i64 (v + 1))))], [.dc d], []⟩)
  else
    some (Ex.exit 2, ⟨[(1, .d l), (5, .d (iD m)), (6, .d (DV.sl (edD F) (List.length F) 2 false false)), (8, .d (bD is)), (11, .d (bD part)), (17, .d (bD even)), (18, .d (bD false))], [], []⟩) := by kernel_rfl

theorem r8_3 (n : Int) (E : List (Int × Int)) (c nl : Bool) (m : Int) (F : List (Int × Int)) (T : TabW) (l : DV) (is part even : Bool) : nextS aeC (evR8 n E c nl m F T) 8 0 Try.f8 none 2 (.exit 2) (y8 l m F is part even) (heldD aeC 8 0) =
  some (4, ⟨[(1, .d l), (5, .d (iD m)), (6, .d (DV.sl (edD F) (List.length F) 2 false false)), (8, .d (bD is)), (11, .d (bD part)), (17, .d (bD even)), (18, .d (bD false)), (20, .d (iD 0))], [], []⟩) := by kernel_rfl

theorem r8_4 (n : Int) (E : List (Int × Int)) (c nl : Bool) (m : Int) (F : List (Int × Int)) (T : TabW) (l : DV) (is part even two : Bool) (side : Int) : startS aeC (evR8 n E c nl m F T) 8 0 Try.f8 (some 4) (u8 l m F is part even two side) (heldD aeC 8 0) =
  bif decide (m < 0) then
    none
  else
    bif decide (side < IntKind.wrap IntKind.i64 (1 * 2 ^ min (Int.toNat m) 64)) then
      some (6, ⟨[(1, .d l), (5, .d (iD m)), (6, .d (DV.sl (edD F) (List.length F) 2 false false)), (8, .d (bD is)), (11, .d (bD part)), (17, .d (bD even)), (18, .d (bD two)), (20, .d (iD side)), (21, .d (bD true)), (22, .d (iD 0))], [], []⟩)
    else
      none := by kernel_rfl

theorem r8_4x (n : Int) (E : List (Int × Int)) (c nl : Bool) (m : Int) (F : List (Int × Int)) (T : TabW) (l : DV) (is part even two : Bool) (side : Int) : startS aeC (evR8 n E c nl m F T) 8 0 Try.f8 (some 4) (u8 l m F is part even two side) (roundD aeC 8 0 4) =
  bif decide (m < 0) then
    none
  else
    bif decide (side < IntKind.wrap IntKind.i64 (1 * 2 ^ min (Int.toNat m) 64)) then
      none
    else
      some (Ex.exit 4, ⟨[(1, .d l), (6, .d (DV.sl (edD F) (List.length F) 2 false false)), (8, .d (bD is)), (11, .d (bD part)), (17, .d (bD even)), (18, .d (bD two))], [], []⟩) := by kernel_rfl

theorem r8_6 (n : Int) (E : List (Int × Int)) (c nl : Bool) (m : Int) (F : List (Int × Int)) (T : TabW) (l : DV) (is part even two : Bool) (side : Int) (ok : Bool) (i : Int) : startS aeC (evR8 n E c nl m F T) 8 0 Try.f8 (some 6) (w8 l m F is part even two side ok i) (roundD aeC 8 0 6) =
  bif decide (i < (↑(List.length F) : Int)) then
    bif ok then
      bif inRange i (List.length F) then
        getI (nth (edD F) (Int.toNat i * 2 + 0)) fun x0 =>
        bif decide (x0 < 0) then
          none
        else
          bif inRange i (List.length F) then
            getI (nth (edD F) (Int.toNat i * 2 + 1)) fun x1 =>
            bif decide (x1 < 0) then
              none
            else
              some (Ex.norm, ⟨[(1, .d l), (5, .d (iD m)), (6, .d (DV.sl (edD F) (List.length F) 2 false false)), (8, .d (bD is)), (11, .d (bD part)), (17, .d (bD even)), (18, .d (bD two)), (20, .d (iD side)), (21, .d (bD !decide (Int.tmod (Int.fdiv side (2 ^ min (Int.toNat x0) 64)) 2 = Int.tmod (Int.fdiv side (2 ^ min (Int.toNat x1) 64)) 2))), (22, .d (iD (IntKind.wrap IntKind.i64 (i + 1))))], [], []⟩)
          else
            none
      else
        none
    else
      some (Ex.norm, ⟨[(1, .d l), (5, .d (iD m)), (6, .d (DV.sl (edD F) (List.length F) 2 false false)), (8, .d (bD is)), (11, .d (bD part)), (17, .d (bD even)), (18, .d (bD two)), (20, .d (iD side)), (21, .d (bD false)), (22, .d (iD (IntKind.wrap IntKind.i64 (i + 1))))], [], []⟩)
  else
    some (Ex.exit 6, ⟨[(1, .d l), (5, .d (iD m)), (6, .d (DV.sl (edD F) (List.length F) 2 false false)), (8, .d (bD is)), (11, .d (bD part)), (17, .d (bD even)), (18, .d (bD two)), (20, .d (iD side)), (21, .d (bD ok))], [], []⟩) := by kernel_rfl

theorem r8_6x (n : Int) (E : List (Int × Int)) (c nl : Bool) (m : Int) (F : List (Int × Int)) (T : TabW) (l : DV) (is part even two : Bool) (side : Int) (ok : Bool) : nextS aeC (evR8 n E c nl m F T) 8 0 Try.f8 (some 4) 6 (.exit 6) ⟨[(1, .d l), (5, .d (iD m)), (6, .d (edgX F false false)), (8, .d (bD is)), (11, .d (bD part)), (17, .d (bD even)), (18, .d (bD two)), (20, .d (iD side)), (21, .d (bD ok))], [], []⟩ (roundD aeC 8 0 4) =
  bif two then
    some (Ex.norm, ⟨[(1, .d l), (5, .d (iD m)), (6, .d (DV.sl (edD F) (List.length F) 2 false false)), (8, .d (bD is)), (11, .d (bD part)), (17, .d (bD even)), (18, .d (bD true)), (20, .d (iD (IntKind.wrap IntKind.i64 (side + 1))))], [], []⟩)
  else
    some (Ex.norm, ⟨[(1, .d l), (5, .d (iD m)), (6, .d (DV.sl (edD F) (List.length F) 2 false false)), (8, .d (bD is)), (11, .d (bD part)), (17, .d (bD even)), (18, .d (bD ok)), (20, .d (iD (IntKind.wrap IntKind.i64 (side + 1))))], [], []⟩) := by kernel_rfl

theorem r8_5 (n : Int) (E : List (Int × Int)) (c nl : Bool) (m : Int) (F : List (Int × Int)) (T : TabW) (L : List (Int × Int)) (c3 nl3 is part even two : Bool) : nextS aeC (evR8 n E c nl m F T) 8 0 Try.f8 none 4 (.exit 4) (v8 (edgX L c3 nl3) F is part even two) (heldD aeC 8 0) =
  bif even then
    bif decide (Int.tmod (↑(List.length F) : Int) 4 = 1) then
      bif is then
        none
      else
        bif !two then
          bif part then
            none
          else
            some (8, ⟨[(23, .d (iD (IntKind.wrap IntKind.i64 (2 + Int.tmod (↑(List.length L) : Int) 4)))), (24, AV.grow 0 2 false), (25, .d (iD 0))], [.dc []], []⟩)
        else
          some (8, ⟨[(23, .d (iD (IntKind.wrap IntKind.i64 (2 + Int.tmod (↑(List.length L) : Int) 4)))), (24, AV.grow 0 2 false), (25, .d (iD 0))], [.dc []], []⟩)
    else
      bif decide (Int.tmod (↑(List.length F) : Int) 4 = 2) then
        bif is then
          none
        else
          bif !two then
            bif part then
              none
            else
              some (8, ⟨[(23, .d (iD (IntKind.wrap IntKind.i64 (2 + Int.tmod (↑(List.length L) : Int) 4)))), (24, AV.grow 0 2 false), (25, .d (iD 0))], [.dc []], []⟩)
          else
            some (8, ⟨[(23, .d (iD (IntKind.wrap IntKind.i64 (2 + Int.tmod (↑(List.length L) : Int) 4)))), (24, AV.grow 0 2 false), (25, .d (iD 0))], [.dc []], []⟩)
      else
        bif !two then
          bif part then
            none
          else
            some (8, ⟨[(23, .d (iD (IntKind.wrap IntKind.i64 (2 + Int.tmod (↑(List.length L) : Int) 4)))), (24, AV.grow 0 2 false), (25, .d (iD 0))], [.dc []], []⟩)
        else
          some (8, ⟨[(23, .d (iD (IntKind.wrap IntKind.i64 (2 + Int.tmod (↑(List.length L) : Int) 4)))), (24, AV.grow 0 2 false), (25, .d (iD 0))], [.dc []], []⟩)
  else
    bif !two then
      bif part then
        none
      else
        some (8, ⟨[(23, .d (iD (IntKind.wrap IntKind.i64 (2 + Int.tmod (↑(List.length L) : Int) 4)))), (24, AV.grow 0 2 false), (25, .d (iD 0))], [.dc []], []⟩)
    else
      some (8, ⟨[(23, .d (iD (IntKind.wrap IntKind.i64 (2 + Int.tmod (↑(List.length L) : Int) 4)))), (24, AV.grow 0 2 false), (25, .d (iD 0))], [.dc []], []⟩) := by kernel_rfl

theorem r8_8 (n : Int) (E : List (Int × Int)) (c nl : Bool) (m : Int) (F : List (Int × Int)) (T : TabW) (K : Int) (d : List DV) (a : Int) : startS aeC (evR8 n E c nl m F T) 8 0 Try.f8 (some 8) (a8 K d a) (heldD aeC 8 0) =
  bif decide (a < K) then
    some (10, ⟨[(23, .d (iD K)), (24, AV.grow 0 2 false), (25, .d (iD a)), (26, .d (iD (IntKind.wrap IntKind.i64 (a + 1))))], [.dc d], []⟩)
  else
    none := by kernel_rfl

theorem r8_8x (n : Int) (E : List (Int × Int)) (c nl : Bool) (m : Int) (F : List (Int × Int)) (T : TabW) (K : Int) (d : List DV) (a : Int) : startS aeC (evR8 n E c nl m F T) 8 0 Try.f8 (some 8) (a8 K d a) (roundD aeC 8 0 8) =
  bif decide (a < K) then
    none
  else
    some (Ex.exit 8, ⟨[(23, .d (iD K)), (24, .d (DV.sl d (lenOf 2 (List.length d)) 2 false (true && Nat.beq (List.length d) 0)))], [], []⟩) := by kernel_rfl

theorem r8_10 (n : Int) (E : List (Int × Int)) (c nl : Bool) (m : Int) (F : List (Int × Int)) (T : TabW) (K : Int) (d : List DV) (a b : Int) : startS aeC (evR8 n E c nl m F T) 8 0 Try.f8 (some 10) (b8 K d a b) (roundD aeC 8 0 10) =
  bif decide (b < K) then
    bif Nat.ble (lenOf 2 (List.length d) + 1) 1048576 then
      some (Ex.norm, ⟨[(23, .d (iD K)), (24, AV.grow 0 2 false), (25, .d (iD a)), (26, .d (iD (IntKind.wrap IntKind.i64 (b + 1))))], [.dc (d ++ [iD a, iD b])], []⟩)
    else
      none
  else
    some (Ex.exit 10, ⟨[(23, .d (iD K)), (24, AV.grow 0 2 false), (25, .d (iD a))], [.dc d], []⟩) := by kernel_rfl

theorem r8_10x (n : Int) (E : List (Int × Int)) (c nl : Bool) (m : Int) (F : List (Int × Int)) (T : TabW) (K : Int) (d : List DV) (a : Int) : nextS aeC (evR8 n E c nl m F T) 8 0 Try.f8 (some 8) 10 (.exit 10) (a8 K d a) (roundD aeC 8 0 8) =
  some (Ex.norm, ⟨[(23, .d (iD K)), (24, AV.grow 0 2 false), (25, .d (iD (IntKind.wrap IntKind.i64 (a + 1))))], [.dc d], []⟩) := by kernel_rfl

theorem r8_9 (n : Int) (E : List (Int × Int)) (c nl : Bool) (m : Int) (F : List (Int × Int)) (T : TabW) (K : Int) (d : List DV) (k : Nat) : nextS aeC (evR8 n E c nl m F T) 8 0 Try.f8 none 8 (.exit 8) ⟨[(23, .d (iD K)), (24, .d (.sl d k 2 false false))], [], []⟩ (doneE aeC Try.f8 0 fun v h => freezeV h 4 v) =
  bif okU K d k then
    bif TabW.is T false K d then
      bif decide (true = decide (K ≤ 4)) then
        some (bD true)
      else
        some (bD false)
    else
      bif decide (false = decide (K ≤ 4)) then
        some (bD true)
      else
        some (bD false)
  else
    none := by kernel_rfl


noncomputable def tabW : TabW := ⟨fun p n es => (srS n (unE es) p true n.toNat []).1.isSome, fun p n es => ints ((srS n (unE es) p true n.toNat []).1.getD []), fun p n es => ((srS n (unE es) p true n.toNat []).1.getD []).length, fun n es => (srS n (unE es) false false n.toNat []).2⟩

theorem spLt_ok (p : Bool) : ∀ ds d, (spLt tabW p ds).val = some d → PureOK Try.prog (if p = true then 30 else 28) ds d := by
  intro ds d h
  unfold spLt at h
  split at h
  · rename_i n es m c
    simp only [Tr.val] at h
    obtain ⟨hg, h2⟩ := cond_none h
    obtain ⟨q1, q2⟩ := isP_iff.1 hg
    cases p with
    | false =>
      refine spL_ok .label _ _ ?_
      unfold spL
      simp only [Tr.val]
      rw [decide_eq_true q1, q2]
      exact h2
    | true =>
      refine spL_ok .part _ _ ?_
      unfold spL
      simp only [Tr.val]
      rw [decide_eq_true q1, q2]
      exact h2
  · cases h

theorem spCt_ok : ∀ ds d, (spCt tabW ds).val = some d → PureOK Try.prog 29 ds d := by
  intro ds d h
  unfold spCt at h
  split at h
  · rename_i n es m c
    simp only [Tr.val] at h
    obtain ⟨hg, h2⟩ := cond_none h
    obtain ⟨q1, q2⟩ := isP_iff.1 hg
    refine spL_ok .count _ _ ?_
    unfold spL
    simp only [Tr.val]
    rw [decide_eq_true q1, q2]
    exact h2
  · cases h

theorem flat_zero : ∀ n : Nat, List.flatten (List.replicate n [iD 0]) = ints (List.replicate n 0)
  | 0 => rfl
  | n + 1 => by rw [List.replicate_succ, List.replicate_succ, List.flatten_cons, flat_zero n]; rfl

/-- Every number of a list is from 0 to b. -/
def Upto (b : Int) (d : List Int) : Prop := ∀ j : Nat, 0 ≤ d.getD j 0 ∧ d.getD j 0 ≤ b

theorem Upto.bump {b : Int} {d : List Int} (h : Upto b d) (a : Int) : Upto (b + 1) (bump d a) := by
  intro j
  have h1 := h j
  have h2 := h a.toNat
  unfold Go.Proofs.Ytkcdbndpcabelaa.bump
  rw [List.getD_eq_getElem?_getD, List.getElem?_set]
  split
  · split
    · simp only [Option.getD_some]; omega
    · simp only [Option.getD_none]; omega
  · rw [← List.getD_eq_getElem?_getD]; omega

theorem l8_0 (n : Int) (E : List (Int × Int)) (c nl : Bool) (m : Int) (F : List (Int × Int)) (T : TabW) (l : DV) (is part : Bool) (hF : EdOK m.toNat F) (hl : F.length ≤ 10) : ∀ (r : List (Int × Int)) (i : Nat) (d : List Int), F.drop i = r → i ≤ F.length → d.length = m.toNat → Upto (2 * i) d →
    LoopAt aeC (evR8 n E c nl m F T) 8 0 Try.f8 0 (s8 l m F is part m.toNat (ints d) i) (.exit 0) (x8 l m F is part m.toNat (ints (degs d r)))
  | [], i, d, hr, hi, hd, hu => by
    have h1 := drop_nil_o hr
    refine .out k8_0 (by simp) ((r8_0 ..).trans ?_)
    rw [cnd_neg (by omega)]; rfl
  | e :: r, i, d, hr, hi, hd, hu => by
    obtain ⟨h1, h2, h3⟩ := drop_cons_o (d := (0, 0)) hr
    have he := hF.get h1
    have res := r8_0 n E c nl m F T l is part m.toNat (ints d) i
    have u1 := hu (F.getD i (0, 0)).1.toNat
    have u2 := (hu.bump (F.getD i (0, 0)).1) (F.getD i (0, 0)).2.toNat
    unfold bump at u2
    revert res
    simp (disch := omega) only [cnd_pos, cnd_neg, inR_pos, ble_pos, blt_pos, beq_pos, cond_and, cond_or, Bool.cond_not, cond_true, cond_false, Bool.and_true, Bool.true_and, getI_some, getB_some, nth_ints_o, nth_bools_o, wrap64_o, len_ints, len_bools, lenOf_1, Int.toNat_natCast, Nat.mul_one, Nat.zero_add, setNth_bools_o, setNth_ints_o, len_set_i, len_set_b, Option.bind_some, List.length_append, List.length_cons, List.length_nil, unI_ints, unB_bools, ints_app1, bools_app1, nth_pr1, nth_pr2, len_prs, abs_if, Nat.add_zero, cond_same]
    rw [nth_ints_o (by rw [List.length_set]; omega), getI_some, wrap64 (by omega) (by omega)]
    intro res
    have := l8_0 n E c nl m F T l is part hF hl r (i + 1) (bump (bump d e.1) e.2) h3 (by omega) (by rw [bump_len, bump_len, hd]) (by
      have := (hu.bump e.1).bump e.2
      rw [show 2 * ((i + 1 : Nat) : Int) = 2 * (i : Int) + 1 + 1 by omega]
      exact this)
    rw [h2] at res
    exact .next k8_0 res this

def evenD (d : List Int) : Bool := d.all fun x => decide (Int.tmod x 2 = 0)

theorem l8_2 (n : Int) (E : List (Int × Int)) (c nl : Bool) (m : Int) (F : List (Int × Int)) (T : TabW) (l : DV) (is part : Bool) (d : List Int) (hd : d.length = m.toNat) (h7 : m ≤ 7) (h0 : 0 ≤ m) : ∀ (r : List Int) (v : Nat) (even : Bool), d.drop v = r → v ≤ d.length →
    LoopAt aeC (evR8 n E c nl m F T) 8 0 Try.f8 2 (t8 l m F is part m.toNat (ints d) even v) (.exit 2) (y8 l m F is part (even && evenD r))
  | [], v, even, hr, hv => by
    have h1 := drop_nil_o hr
    refine .out k8_2 (by simp) ((r8_2 ..).trans ?_)
    rw [cnd_neg (by omega), evenD, List.all_nil, Bool.and_true]; rfl
  | x :: r, v, even, hr, hv => by
    obtain ⟨h1, h2, h3⟩ := drop_cons_o (d := 0) hr
    have res := r8_2 n E c nl m F T l is part m.toNat (ints d) even v
    cases even with
    | false =>
      have := l8_2 n E c nl m F T l is part d hd h7 h0 r (v + 1) false h3 (by omega)
      rw [Bool.false_and] at this ⊢
      revert res
      simp (disch := omega) only [cnd_pos, cnd_neg, inR_pos, ble_pos, blt_pos, beq_pos, cond_and, cond_or, Bool.cond_not, cond_true, cond_false, Bool.and_true, Bool.true_and, getI_some, getB_some, nth_ints_o, nth_bools_o, wrap64_o, len_ints, len_bools, lenOf_1, Int.toNat_natCast, Nat.mul_one, Nat.zero_add, setNth_bools_o, setNth_ints_o, len_set_i, len_set_b, Option.bind_some, List.length_append, List.length_cons, List.length_nil, unI_ints, unB_bools, ints_app1, bools_app1, nth_pr1, nth_pr2, len_prs, abs_if, Nat.add_zero, cond_same]
      intro res
      exact .next k8_2 res this
    | true =>
      have := l8_2 n E c nl m F T l is part d hd h7 h0 r (v + 1) (decide (Int.tmod x 2 = 0)) h3 (by omega)
      rw [Bool.true_and, evenD, List.all_cons]
      revert res
      simp (disch := omega) only [cnd_pos, cnd_neg, inR_pos, ble_pos, blt_pos, beq_pos, cond_and, cond_or, Bool.cond_not, cond_true, cond_false, Bool.and_true, Bool.true_and, getI_some, getB_some, nth_ints_o, nth_bools_o, wrap64_o, len_ints, len_bools, lenOf_1, Int.toNat_natCast, Nat.mul_one, Nat.zero_add, setNth_bools_o, setNth_ints_o, len_set_i, len_set_b, Option.bind_some, List.length_append, List.length_cons, List.length_nil, unI_ints, unB_bools, ints_app1, bools_app1, nth_pr1, nth_pr2, len_prs, abs_if, Nat.add_zero, cond_same, h2]
      intro res
      exact .next k8_2 res this

theorem side_eq (s : Nat) (a : Int) (h : a ≤ 64) : Int.tmod (Int.fdiv (s : Int) (2 ^ min a.toNat 64)) 2 = (sideB s a : Int) := by
  rw [Nat.min_eq_left (by omega), Int.fdiv_eq_ediv_of_nonneg _ (Int.pow_nonneg (by omega))]
  unfold sideB
  rw [show ((2 : Int) ^ a.toNat) = ((2 ^ a.toNat : Nat) : Int) by simp, ← Int.natCast_ediv]
  rfl

theorem l8_6 (n : Int) (E : List (Int × Int)) (c nl : Bool) (m : Int) (F : List (Int × Int)) (T : TabW) (l : DV) (is part even two : Bool) (s : Nat) (hF : EdOK m.toNat F) (hl : F.length ≤ 10) (h7 : m ≤ 7) : ∀ (r : List (Int × Int)) (i : Nat) (ok : Bool), F.drop i = r → i ≤ F.length →
    LoopAt aeC (evR8 n E c nl m F T) 8 0 Try.f8 6 (w8 l m F is part even two s ok i) (.exit 6) ⟨[(1, .d l), (5, .d (iD m)), (6, .d (edgX F false false)), (8, .d (bD is)), (11, .d (bD part)), (17, .d (bD even)), (18, .d (bD two)), (20, .d (iD s)), (21, .d (bD (ok && sidesOK r s)))], [], []⟩
  | [], i, ok, hr, hi => by
    have h1 := drop_nil_o hr
    refine .out k8_6 (by simp) ((r8_6 ..).trans ?_)
    rw [cnd_neg (by omega), sidesOK, List.all_nil, Bool.and_true]; rfl
  | e :: r, i, ok, hr, hi => by
    obtain ⟨h1, h2, h3⟩ := drop_cons_o (d := (0, 0)) hr
    have he := hF.get h1
    have res := r8_6 n E c nl m F T l is part even two s ok i
    cases ok with
    | false =>
      have := l8_6 n E c nl m F T l is part even two s hF hl h7 r (i + 1) false h3 (by omega)
      rw [Bool.false_and] at this ⊢
      revert res
      simp (disch := omega) only [cnd_pos, cnd_neg, inR_pos, ble_pos, blt_pos, beq_pos, cond_and, cond_or, Bool.cond_not, cond_true, cond_false, Bool.and_true, Bool.true_and, getI_some, getB_some, nth_ints_o, nth_bools_o, wrap64_o, len_ints, len_bools, lenOf_1, Int.toNat_natCast, Nat.mul_one, Nat.zero_add, setNth_bools_o, setNth_ints_o, len_set_i, len_set_b, Option.bind_some, List.length_append, List.length_cons, List.length_nil, unI_ints, unB_bools, ints_app1, bools_app1, nth_pr1, nth_pr2, len_prs, abs_if, Nat.add_zero, cond_same]
      intro res
      exact .next k8_6 res this
    | true =>
      have := l8_6 n E c nl m F T l is part even two s hF hl h7 r (i + 1) (!decide (sideB s e.1 = sideB s e.2)) h3 (by omega)
      rw [Bool.true_and, sidesOK, List.all_cons]
      have hq : decide (((sideB s e.1 : Nat) : Int) = (sideB s e.2 : Nat)) = decide (sideB s e.1 = sideB s e.2) := decide_eq_decide.2 Int.ofNat_inj
      revert res
      simp (disch := omega) only [cnd_pos, cnd_neg, inR_pos, ble_pos, blt_pos, beq_pos, cond_and, cond_or, Bool.cond_not, cond_true, cond_false, Bool.and_true, Bool.true_and, getI_some, getB_some, nth_ints_o, nth_bools_o, wrap64_o, len_ints, len_bools, lenOf_1, Int.toNat_natCast, Nat.mul_one, Nat.zero_add, setNth_bools_o, setNth_ints_o, len_set_i, len_set_b, Option.bind_some, List.length_append, List.length_cons, List.length_nil, unI_ints, unB_bools, ints_app1, bools_app1, nth_pr1, nth_pr2, len_prs, abs_if, Nat.add_zero, cond_same]
      rw [side_eq _ _ (by omega), side_eq _ _ (by omega), h2, hq]
      intro res
      exact .next k8_6 res this

theorem pow64 : ∀ k : Nat, k ≤ 7 → IntKind.wrap .i64 (1 * 2 ^ min k 64) = ((2 ^ k : Nat) : Int) ∧ 2 ^ k ≤ 128
  | 0, _ | 1, _ | 2, _ | 3, _ | 4, _ | 5, _ | 6, _ | 7, _ => by decide

theorem l8_4 (n : Int) (E : List (Int × Int)) (c nl : Bool) (m : Int) (F : List (Int × Int)) (T : TabW) (l : DV) (is part even : Bool) (hF : EdOK m.toNat F) (hl : F.length ≤ 10) (h7 : m ≤ 7) (h0 : 0 ≤ m) : ∀ (k s : Nat), s + k = 2 ^ m.toNat →
    LoopAt aeC (evR8 n E c nl m F T) 8 0 Try.f8 4 (u8 l m F is part even (twoS F s) s) (.exit 4) (v8 l F is part even (twoS F (2 ^ m.toNat)))
  | 0, s, hs => by
    obtain ⟨p1, p2⟩ := pow64 m.toNat (by omega)
    have res := r8_4x n E c nl m F T l is part even (twoS F s) s
    rw [cnd_neg (by omega), p1, cnd_neg (by omega)] at res
    rw [← hs, Nat.add_zero]
    exact .out k8_4 (by simp) res
  | k + 1, s, hs => by
    obtain ⟨p1, p2⟩ := pow64 m.toNat (by omega)
    have h1 := r8_4 n E c nl m F T l is part even (twoS F s) s
    rw [cnd_neg (by omega), p1, cnd_pos (by omega)] at h1
    have inner := l8_6 n E c nl m F T l is part even (twoS F s) s hF hl h7 F 0 true rfl (by omega)
    rw [Bool.true_and] at inner
    have hn := r8_6x n E c nl m F T l is part even (twoS F s) s (sidesOK F s)
    have := l8_4 n E c nl m F T l is part even hF hl h7 h0 k (s + 1) (by omega)
    rw [wrap64 (by omega) (by omega)] at hn
    have hn' : nextS aeC (evR8 n E c nl m F T) 8 0 Try.f8 (some 4) 6 (.exit 6) ⟨[(1, .d l), (5, .d (iD m)), (6, .d (edgX F false false)), (8, .d (bD is)), (11, .d (bD part)), (17, .d (bD even)), (18, .d (bD (twoS F s))), (20, .d (iD s)), (21, .d (bD (sidesOK F s)))], [], []⟩ (roundD aeC 8 0 4) = some (.norm, u8 l m F is part even (twoS F (s + 1)) ((s : Int) + 1)) := by
      rw [hn, twoS]
      cases twoS F s <;> rfl
    exact .nextF k8_4 ((startF_seg k8_4 h1 inner).trans (nextF_done k8_4 roundD_plain hn')) this

theorem l8_10 (n : Int) (E : List (Int × Int)) (c nl : Bool) (m : Int) (F : List (Int × Int)) (T : TabW) (K : Int) (hK : K ≤ 5) (a : Int) : ∀ (k : Nat) (b : Int) (out : List (Int × Int)), K - b = k → 0 ≤ b → out.length + k ≤ 100 →
    LoopAt aeC (evR8 n E c nl m F T) 8 0 Try.f8 10 (b8 K (edD out) a b) (.exit 10) (a8 K (edD (out ++ pairsB a k b)) a)
  | 0, b, out, hk, hb, ho => by
    refine .out k8_10 (by simp) ((r8_10 ..).trans ?_)
    rw [cnd_neg (by omega), pairsB, List.append_nil]; rfl
  | k + 1, b, out, hk, hb, ho => by
    have res := r8_10 n E c nl m F T K (edD out) a b
    rw [cnd_pos (by omega), lenOf_ed, ble_pos (by omega), wrap64 (by omega) (by omega), ← edD_snoc] at res
    have := l8_10 n E c nl m F T K hK a k (b + 1) (out ++ [(a, b)]) (by omega) (by omega) (by simp; omega)
    rw [List.append_assoc] at this
    exact .next k8_10 res this

theorem pairsB_len (a : Int) : ∀ (k : Nat) (b : Int), (pairsB a k b).length = k
  | 0, _ => rfl
  | k + 1, b => by rw [pairsB, List.length_cons, pairsB_len a k]

theorem l8_8 (n : Int) (E : List (Int × Int)) (c nl : Bool) (m : Int) (F : List (Int × Int)) (T : TabW) (K : Int) (hK : K ≤ 5) : ∀ (k : Nat) (a : Int) (out : List (Int × Int)), K - a = k → 0 ≤ a → out.length + k * 10 ≤ 90 →
    LoopAt aeC (evR8 n E c nl m F T) 8 0 Try.f8 8 (a8 K (edD out) a) (.exit 8) ⟨[(23, .d (iD K)), (24, .d (.sl (edD (out ++ pairsA k a)) (out ++ pairsA k a).length 2 false (true && Nat.beq (edD (out ++ pairsA k a)).length 0)))], [], []⟩
  | 0, a, out, hk, ha, ho => by
    refine .out k8_8 (by simp) ((r8_8x ..).trans ?_)
    rw [cnd_neg (by omega), pairsA, List.append_nil, lenOf_ed]
  | k + 1, a, out, hk, ha, ho => by
    have h0 := r8_8 n E c nl m F T K (edD out) a
    rw [cnd_pos (by omega), wrap64 (by omega) (by omega)] at h0
    have inner := l8_10 n E c nl m F T K hK a k (a + 1) out (by omega) (by omega) (by omega)
    have hn := r8_10x n E c nl m F T K (edD (out ++ pairsB a k (a + 1))) a
    rw [wrap64 (by omega) (by omega)] at hn
    have := l8_8 n E c nl m F T K hK k (a + 1) (out ++ pairsB a k (a + 1)) (by omega) (by omega) (by rw [List.length_append, pairsB_len]; omega)
    rw [List.append_assoc] at this
    exact .nextF k8_8 ((startF_seg k8_8 h0 inner).trans (nextF_done k8_8 roundD_plain hn)) this

theorem last8 (n : Int) (E : List (Int × Int)) (c nl : Bool) (m : Int) (F : List (Int × Int)) (K : Int) (k : Nat) (h1 : openS K (pairsA k 0) = 0) (h2 : (true && Nat.beq (edD (pairsA k 0)).length 0) = false) (h3 : (srS K (pairsA k 0) false true K.toNat []).1.isSome = decide (K ≤ 4)) :
    nextS aeC (evR8 n E c nl m F tabW) 8 0 Try.f8 none 8 (.exit 8) ⟨[(23, .d (iD K)), (24, .d (.sl (edD ([] ++ pairsA k 0)) ([] ++ pairsA k 0).length 2 false (true && Nat.beq (edD ([] ++ pairsA k 0)).length 0)))], [], []⟩ (doneE aeC Try.f8 0 fun v h => freezeV h 4 v) = some (bD true) := by
  rw [List.nil_append, h2]
  have res := r8_9 n E c nl m F tabW K (edD (pairsA k 0)) (pairsA k 0).length
  have hu : okU K (edD (pairsA k 0)) (pairsA k 0).length = true := isP_iff.2 ⟨by rw [unE_ed]; exact h1, isE_ed _⟩
  have hi : tabW.is false K (edD (pairsA k 0)) = decide (K ≤ 4) := by simp only [tabW, unE_ed]; exact h3
  rw [hu, hi, cond_true] at res
  rw [res]
  cases decide (K ≤ 4) <;> rfl

theorem law8 (n : Int) (E : List (Int × Int)) (c nl : Bool) (hE : E.length < 9223372036854775808) : PureOK Try.prog 8 [iD n, edgX E c nl] (bD true) := by
  obtain ⟨m, F, hF, ht⟩ := tame_ok n E c nl hE
  have hev : EvOK Try.prog (evR8 n E c nl m F tabW) := EvOK.add (EvOK.add (EvOK.add (EvOK.add (EvOK.add EvOK.nil (sp13_ok ht)) (spLt_ok false)) (spLt_ok true)) spCt_ok) sp20_ok
  refine ae_pure hev (fn := Try.f8) k8 (by kernel_rfl) (by kernel_rfl) ?_
  obtain ⟨hg, h2, h7⟩ := open_graph hF
  have hEd : EdOK m.toNat F := hg.2.2.2.2
  have h10 : F.length ≤ 10 := hg.2.2.2.1
  have ha : isAt (n, edD E, E.length, c, nl, (10 : Int)) (n, edD E, E.length, c, nl, tenI) = true := isAt_iff.2 rfl
  have hu : okU m (edD F) F.length = true := isP_iff.2 ⟨by rw [unE_ed]; exact hF, isE_ed F⟩
  have f1 := fun p b => srS_found m F p b h10 m.toNat []
  have hmono : tabW.is true m (edD F) = true → tabW.is false m (edD F) = true := by
    simp only [tabW, unE_ed]
    rw [(f1 true true).1, (f1 false true).1]
    exact Found.mono
  have hcnt : tabW.is false m (edD F) = decide (0 < tabW.many m (edD F)) := by
    rw [Bool.eq_iff_iff, decide_eq_true_eq]
    simp only [tabW, unE_ed]
    rw [(f1 false true).1, (f1 false false).2]
  have hpar : tabW.is false m (edD F) = true → evenD (degs (List.replicate m.toNat 0) F) = true → F.length % 4 ≠ 1 ∧ F.length % 4 ≠ 2 := by
    simp only [tabW, unE_ed]
    intro h he
    obtain ⟨o, ho⟩ := Option.isSome_iff_exists.1 h
    refine even_grac hF (srS_some ho) fun x hx => ?_
    have := List.all_eq_true.1 he x hx
    exact Int.emod_eq_zero_of_dvd (Int.dvd_of_tmod_eq_zero (by simpa using this))
  have htwo : tabW.is true m (edD F) = true → twoS F (2 ^ m.toNat) = true := by
    simp only [tabW, unE_ed]
    intro h
    obtain ⟨o, ho⟩ := Option.isSome_iff_exists.1 h
    exact part_two hF (srS_some ho) (srS_part ho)
  have h0 := r8 n E c nl m F tabW
  rw [ha, hu, flat_zero] at h0
  have h0' : startS aeC (evR8 n E c nl m F tabW) 8 0 Try.f8 none ⟨envOf 0 ([iD n, edgX E c nl].map .d), [], []⟩ (heldD aeC 8 0) = some (0, s8 (edgX E c nl) m F (tabW.is false m (edD F)) (tabW.is true m (edD F)) m.toNat (ints (List.replicate m.toNat 0)) 0) := by
    rw [h0]
    clear h0
    revert hmono hcnt
    generalize tabW.is false m (edD F) = b1
    generalize tabW.is true m (edD F) = b2
    generalize tabW.many m (edD F) = k
    intro hmono hcnt
    have hm : (decide (0 ≤ m) && (decide (m ≤ m) && (decide (m ≤ 1048576) && true))) = true := by
      rw [decide_eq_true (by omega : 0 ≤ m), decide_eq_true (by omega : m ≤ m), decide_eq_true (by omega : m ≤ 1048576)]; rfl
    have hm' : (decide (0 ≤ m) && decide (m ≤ m) && decide (m ≤ 1048576) && true) = true := by
      rw [decide_eq_true (by omega : 0 ≤ m), decide_eq_true (by omega : m ≤ m), decide_eq_true (by omega : m ≤ 1048576)]; rfl
    rw [← hcnt]
    cases b1 <;> cases b2 <;> first | (simp only [cond_true, cond_false, hm, hm']; rfl) | (exact absurd (hmono rfl) (by simp))
  clear h0
  have hU : Upto (2 * ((0 : Nat) : Int)) (List.replicate m.toNat 0) := by
    intro j
    rw [List.getD_eq_getElem?_getD, List.getElem?_replicate]
    split <;> simp
  rw [startF_seg k8 h0' (l8_0 n E c nl m F tabW (edgX E c nl) _ _ hEd h10 F 0 (List.replicate m.toNat 0) rfl (by omega) (by simp) hU)]
  have hlen : (degs (List.replicate m.toNat 0) F).length = m.toNat := by rw [degs_len]; simp
  rw [nextF_seg k8 (by simp) (exit_small (by omega)) (r8_1 ..) (l8_2 n E c nl m F tabW (edgX E c nl) _ _ _ hlen h7 (by omega) (degs (List.replicate m.toNat 0) F) 0 true rfl (by omega))]
  rw [Bool.true_and]
  rw [nextF_seg k8 (by simp) (exit_small (by omega)) (r8_3 ..) (l8_4 n E c nl m F tabW (edgX E c nl) _ _ _ hEd h10 h7 (by omega) (2 ^ m.toNat) 0 (by omega))]
  have h5 := r8_5 n E c nl m F tabW E c nl (tabW.is false m (edD F)) (tabW.is true m (edD F)) (evenD (degs (List.replicate m.toNat 0) F)) (twoS F (2 ^ m.toNat))
  have h5s : ∀ (x : Option (Nat × St)), x = some (8, ⟨[(23, .d (iD (IntKind.wrap IntKind.i64 (2 + Int.tmod (↑(List.length E) : Int) 4)))), (24, AV.grow 0 2 false), (25, .d (iD 0))], [.dc []], []⟩) → x = some (8, a8 (2 + ((E.length % 4 : Nat) : Int)) (edD []) 0) := by
    intro x hx
    rw [hx, show Int.tmod (↑(List.length E) : Int) 4 = ((E.length % 4 : Nat) : Int) from rfl, wrap64 (by omega) (by omega)]
    rfl
  have h5' : nextS aeC (evR8 n E c nl m F tabW) 8 0 Try.f8 none 4 (.exit 4) (v8 (edgX E c nl) F (tabW.is false m (edD F)) (tabW.is true m (edD F)) (evenD (degs (List.replicate m.toNat 0) F)) (twoS F (2 ^ m.toNat))) (heldD aeC 8 0) = some (8, a8 (2 + ((E.length % 4 : Nat) : Int)) (edD []) 0) := by
    refine h5s _ ?_
    rw [h5]
    clear h5
    have e1 : Int.tmod (F.length : Int) 4 = ((F.length % 4 : Nat) : Int) := rfl
    rw [e1]
    revert hpar htwo
    generalize tabW.is false m (edD F) = b1
    generalize tabW.is true m (edD F) = b2
    generalize evenD (degs (List.replicate m.toNat 0) F) = ev
    generalize twoS F (2 ^ m.toNat) = tw
    intro hpar htwo
    have hh : (!tw && b2) = false := by
      cases b2 with
      | false => simp
      | true => rw [htwo rfl]; rfl
    cases ev with
    | false => cases tw <;> cases b2 <;> first | rfl | (exact absurd hh (by simp))
    | true =>
      by_cases c1 : F.length % 4 = 1
      · rw [cnd_pos (by omega)]
        cases b1 with
        | true => exact absurd c1 (hpar rfl rfl).1
        | false => cases tw <;> cases b2 <;> first | rfl | (exact absurd hh (by simp))
      · rw [cnd_neg (by omega)]
        by_cases c2 : F.length % 4 = 2
        · rw [cnd_pos (by omega)]
          cases b1 with
          | true => exact absurd c2 (hpar rfl rfl).2
          | false => cases tw <;> cases b2 <;> first | rfl | (exact absurd hh (by simp))
        · rw [cnd_neg (by omega)]
          cases tw <;> cases b2 <;> first | rfl | (exact absurd hh (by simp))
  have hK : E.length % 4 < 4 := Nat.mod_lt _ (by omega)
  generalize E.length % 4 = q at h5' hK
  have h8 := l8_8 n E c nl m F tabW (2 + (q : Int)) (by omega) (2 + q) 0 [] (by omega) (by omega) (by simp; omega)
  rw [nextF_seg k8 (by simp) (exit_small (by omega)) h5' h8]
  refine nextF_done k8 done_plain ?_
  match q, hK with
  | 0, _ => exact last8 n E c nl m F 2 2 (by decide +kernel) (by decide +kernel) full2
  | 1, _ => exact last8 n E c nl m F 3 3 (by decide +kernel) (by decide +kernel) full3
  | 2, _ => exact last8 n E c nl m F 4 4 (by decide +kernel) (by decide +kernel) full4
  | 3, _ => exact last8 n E c nl m F 5 5 (by decide +kernel) (by decide +kernel) full5
end Go.Proofs.Ytkcdbndpcabelaa
