/- Part 6 of what the law stands on: the abstract machine over the model, and what the functions answer. No condition. -/
import Derived.Test.YtkcdbndpcabelaaM5
set_option linter.unusedSimpArgs false
set_option linter.unusedVariables false

/- Chapter 02: what is told of labels: graceful, parting, turned. -/
namespace Go.Proofs.Ytkcdbndpcabelaa
open Go Go.AE

theorem k36 : OkSeg Try.f36 none [] := ⟨by kernel_rfl, by kernel_rfl, by decide⟩
theorem k37 : OkSeg Try.f37 none [] := ⟨by kernel_rfl, by kernel_rfl, by decide⟩
theorem k38 : OkSeg Try.f38 none [0] := ⟨by kernel_rfl, by kernel_rfl, by decide⟩
theorem k38_0 : OkSeg Try.f38 (some 0) [] := ⟨by kernel_rfl, by kernel_rfl, by decide⟩
theorem k40 : OkSeg Try.f40 none [0] := ⟨by kernel_rfl, by kernel_rfl, by decide⟩
theorem k40_0 : OkSeg Try.f40 (some 0) [] := ⟨by kernel_rfl, by kernel_rfl, by decide⟩
/-- Tables of what is told of graphs and labels. -/
structure TabP where
  op : Int → List DV → Int
  G : Int → List DV → List DV → Bool
  P : List DV → List DV → Int
noncomputable def sp47t (T : TabP) : List DV → Tr DV
  | [.int .i64 n, .sl es m 2 c nl] => .node (isE es m) (.node (decide (T.op n es = 0)) (.leaf (.tup [.ptr [iD n, .sl es m 2 c nl] 0, iD 0])) (.leaf (.tup [.nilp, iD (T.op n es)]))) .fail
  | _ => .fail
noncomputable def sp48t (T : TabP) : List DV → Tr DV
  | [.ptr [.int .i64 n, .sl es m 2 _ nl] 0, .sl cs k 1 _ _] => .node (isP (T.op n es = 0 ∧ isE es m = true ∧ isI cs = true ∧ cs.length = k ∧ nl = false)) (.leaf (bD (T.G n es cs))) .fail
  | _ => .fail
noncomputable def sp54t (T : TabP) : List DV → Tr DV
  | [.ptr [.int .i64 n, .sl es m 2 _ nl] 0, .sl cs k 1 _ nl2] => .node (isP (T.op n es = 0 ∧ T.G n es cs = true ∧ isE es m = true ∧ isI cs = true ∧ cs.length = k ∧ nl = false ∧ nl2 = false)) (.leaf (iD (T.P es cs))) .fail
  | _ => .fail
noncomputable def evP (T : TabP) : Ev := ((Ev.nil.add 47 (sp47t T)).add 48 (sp48t T)).add 54 (sp54t T)
noncomputable def s38 (E : List (Int × Int)) (c nl : Bool) (l : List Int) (c2 nl2 : Bool) (out : List DV) (i : Int) : St := ⟨[(1, .d (edgX E c nl)), (10, AV.grow 0 1 false), (26, .d (lstX l c2 nl2)), (27, .d (iD l.length)), (28, .d (iD i))], [.dc out], []⟩
noncomputable def s40 (E : List (Int × Int)) (c nl : Bool) (l : List Int) (c2 nl2 : Bool) (out : List DV) (i : Int) : St := ⟨[(0, .d (edgX E c nl)), (1, .d (lstX l c2 nl2)), (5, AV.grow 0 1 false), (6, .d (iD i))], [.dc out], []⟩


theorem r36 (T : TabP) (n : Int) (E : List (Int × Int)) (c nl : Bool) (l : List Int) (c2 nl2 : Bool) : startS aeC (evP T) 36 0 Try.f36 none ⟨envOf 0 ([iD n, edgX E c nl, lstX l c2 nl2].map .d), [], []⟩ (doneE aeC Try.f36 0 fun v h => freezeV h 4 v) =
  bif isE (edD E) (List.length E) then
    bif decide (TabP.op T n (edD E) = 0) then
      bif isP (TabP.op T n (edD E) = 0 ∧ isE (edD E) (List.length E) = true ∧ isI (ints l) = true ∧ List.length (ints l) = List.length l ∧ nl = false) then
        some (DV.tup [bD (TabP.G T n (edD E) (ints l)), iD 0])
      else
        none
    else
      bif !decide (TabP.op T n (edD E) = 0) then
        some (DV.tup [bD false, iD (TabP.op T n (edD E))])
      else
        none
  else
    none := by kernel_rfl

theorem r37 (T : TabP) (n : Int) (E : List (Int × Int)) (c nl : Bool) (l : List Int) (c2 nl2 : Bool) : startS aeC (evP T) 37 0 Try.f37 none ⟨envOf 0 ([iD n, edgX E c nl, lstX l c2 nl2].map .d), [], []⟩ (doneE aeC Try.f37 0 fun v h => freezeV h 4 v) =
  bif isE (edD E) (List.length E) then
    bif decide (TabP.op T n (edD E) = 0) then
      bif isP (TabP.op T n (edD E) = 0 ∧ isE (edD E) (List.length E) = true ∧ isI (ints l) = true ∧ List.length (ints l) = List.length l ∧ nl = false) then
        bif !TabP.G T n (edD E) (ints l) then
          some (DV.tup [iD 0, bD false, iD 0])
        else
          bif isP (TabP.op T n (edD E) = 0 ∧ TabP.G T n (edD E) (ints l) = true ∧ isE (edD E) (List.length E) = true ∧ isI (ints l) = true ∧ List.length (ints l) = List.length l ∧ nl = false ∧ nl2 = false) then
            bif decide (TabP.P T (edD E) (ints l) < 0) then
              some (DV.tup [iD 0, bD false, iD 0])
            else
              bif isP (TabP.op T n (edD E) = 0 ∧ TabP.G T n (edD E) (ints l) = true ∧ isE (edD E) (List.length E) = true ∧ isI (ints l) = true ∧ List.length (ints l) = List.length l ∧ nl = false ∧ nl2 = false) then
                some (DV.tup [iD (TabP.P T (edD E) (ints l)), bD true, iD 0])
              else
                none
          else
            none
      else
        none
    else
      bif !decide (TabP.op T n (edD E) = 0) then
        some (DV.tup [iD 0, bD false, iD (TabP.op T n (edD E))])
      else
        none
  else
    none := by kernel_rfl

theorem r38d (T : TabP) (n : Int) (E : List (Int × Int)) (c nl : Bool) (l : List Int) (c2 nl2 : Bool) : startS aeC (evP T) 38 0 Try.f38 none ⟨envOf 0 ([iD n, edgX E c nl, lstX l c2 nl2].map .d), [], []⟩ (doneE aeC Try.f38 0 fun v h => freezeV h 4 v) =
  bif isE (edD E) (List.length E) then
    bif decide (TabP.op T n (edD E) = 0) then
      bif isP (TabP.op T n (edD E) = 0 ∧ isE (edD E) (List.length E) = true ∧ isI (ints l) = true ∧ List.length (ints l) = List.length l ∧ nl = false) then
        bif !TabP.G T n (edD E) (ints l) then
          some (DV.tup [DV.sl [] 0 0 false true, iD 1])
        else
          none
      else
        none
    else
      bif !decide (TabP.op T n (edD E) = 0) then
        some (DV.tup [DV.sl [] 0 0 false true, iD (TabP.op T n (edD E))])
      else
        none
  else
    none := by kernel_rfl

theorem r38h (T : TabP) (n : Int) (E : List (Int × Int)) (c nl : Bool) (l : List Int) (c2 nl2 : Bool) : startS aeC (evP T) 38 0 Try.f38 none ⟨envOf 0 ([iD n, edgX E c nl, lstX l c2 nl2].map .d), [], []⟩ (heldD aeC 38 0) =
  bif isE (edD E) (List.length E) then
    bif decide (TabP.op T n (edD E) = 0) then
      bif isP (TabP.op T n (edD E) = 0 ∧ isE (edD E) (List.length E) = true ∧ isI (ints l) = true ∧ List.length (ints l) = List.length l ∧ nl = false) then
        bif !TabP.G T n (edD E) (ints l) then
          none
        else
          some (0, ⟨[(1, .d (DV.sl (edD E) (List.length E) 2 c nl)), (10, AV.grow 0 1 false), (26, .d (DV.sl (ints l) (List.length l) 1 c2 nl2)), (27, .d (iD (↑(List.length l) : Int))), (28, .d (iD 0))], [.dc []], []⟩)
      else
        none
    else
      bif !decide (TabP.op T n (edD E) = 0) then
        none
      else
        none
  else
    none := by kernel_rfl

theorem r38_0 (T : TabP) (E : List (Int × Int)) (c nl : Bool) (l : List Int) (c2 nl2 : Bool) (out : List DV) (i : Int) : startS aeC (evP T) 38 0 Try.f38 (some 0) (s38 E c nl l c2 nl2 out i) (roundD aeC 38 0 0) =
  bif decide (i < (↑(List.length l) : Int)) then
    bif inRange i (List.length l) then
      getI (nth (ints l) (Int.toNat i * 1)) fun x0 =>
      bif Nat.ble (lenOf 1 (List.length out) + 1) 1048576 then
        some (Ex.norm, ⟨[(1, .d (DV.sl (edD E) (List.length E) 2 c nl)), (10, AV.grow 0 1 false), (26, .d (DV.sl (ints l) (List.length l) 1 c2 nl2)), (27, .d (iD (↑(List.length l) : Int))), (28, .d (iD (IntKind.wrap IntKind.i64 (i + 1))))], [.dc (out ++ [iD (IntKind.wrap IntKind.i64 ((↑(List.length E) : Int) - x0))])], []⟩)
      else
        none
    else
      none
  else
    some (Ex.exit 0, ⟨[(10, AV.grow 0 1 false)], [.dc out], []⟩) := by kernel_rfl

theorem r38_x (T : TabP) (out : List DV) : nextS aeC (evP T) 38 0 Try.f38 none 0 (.exit 0) ⟨[(10, AV.grow 0 1 false)], [.dc out], []⟩ (doneE aeC Try.f38 0 fun v h => freezeV h 4 v) =
  some (DV.tup [DV.sl out (lenOf 1 (List.length out)) 1 false (true && Nat.beq (List.length out) 0), iD 0]) := by kernel_rfl

theorem r40h (E : List (Int × Int)) (c nl : Bool) (l : List Int) (c2 nl2 : Bool) : startS aeC Ev.nil 40 0 Try.f40 none ⟨envOf 0 ([edgX E c nl, lstX l c2 nl2].map .d), [], []⟩ (heldD aeC 40 0) =
  some (0, ⟨[(0, .d (DV.sl (edD E) (List.length E) 2 c nl)), (1, .d (DV.sl (ints l) (List.length l) 1 c2 nl2)), (5, AV.grow 0 1 false), (6, .d (iD 0))], [.dc []], []⟩) := by kernel_rfl

theorem r40_0 (E : List (Int × Int)) (c nl : Bool) (l : List Int) (c2 nl2 : Bool) (out : List DV) (i : Int) : startS aeC Ev.nil 40 0 Try.f40 (some 0) (s40 E c nl l c2 nl2 out i) (roundD aeC 40 0 0) =
  bif decide (i < (↑(List.length l) : Int)) then
    bif inRange i (List.length l) then
      getI (nth (ints l) (Int.toNat i * 1)) fun x0 =>
      bif Nat.ble (lenOf 1 (List.length out) + 1) 1048576 then
        some (Ex.norm, ⟨[(0, .d (DV.sl (edD E) (List.length E) 2 c nl)), (1, .d (DV.sl (ints l) (List.length l) 1 c2 nl2)), (5, AV.grow 0 1 false), (6, .d (iD (IntKind.wrap IntKind.i64 (i + 1))))], [.dc (out ++ [iD (IntKind.wrap IntKind.i64 ((↑(List.length E) : Int) - x0))])], []⟩)
      else
        none
    else
      none
  else
    some (Ex.exit 0, ⟨[(5, AV.grow 0 1 false)], [.dc out], []⟩) := by kernel_rfl

theorem r40_x (out : List DV) : nextS aeC Ev.nil 40 0 Try.f40 none 0 (.exit 0) ⟨[(5, AV.grow 0 1 false)], [.dc out], []⟩ (doneE aeC Try.f40 0 fun v h => freezeV h 4 v) =
  some (DV.sl out (lenOf 1 (List.length out)) 1 false (true && Nat.beq (List.length out) 0)) := by kernel_rfl

noncomputable def tabP : TabP := ⟨fun n es => openS n (unE es), fun n es cs => gracB n (unE es) (unI cs), fun es cs => partS (unI cs) (unE es)⟩

theorem sp47t_ok : ∀ ds d, (sp47t tabP ds).val = some d → PureOK Try.prog 47 ds d := by
  intro ds d h
  unfold sp47t at h
  split at h
  · exact sp47x_ok _ _ h
  · cases h

theorem sp48t_ok : ∀ ds d, (sp48t tabP ds).val = some d → PureOK Try.prog 48 ds d := by
  intro ds d h
  unfold sp48t at h
  split at h
  · rename_i n es m c nl cs k c2 nl2
    simp only [Tr.val] at h
    obtain ⟨hg, h2⟩ := cond_none h
    obtain ⟨q1, q2, q3, q4, rfl⟩ := isP_iff.1 hg
    refine sp48_ok _ _ ?_
    unfold sp48
    simp only [Tr.val]
    rw [decide_eq_true (show openS n (unE es) = 0 from q1), q2, q3, q4, Nat.beq_refl]
    exact h2
  · cases h

theorem sp54t_ok : ∀ ds d, (sp54t tabP ds).val = some d → PureOK Try.prog 54 ds d := by
  intro ds d h
  unfold sp54t at h
  split at h
  · rename_i n es m c nl cs k c2 nl2
    simp only [Tr.val] at h
    obtain ⟨hg, h2⟩ := cond_none h
    obtain ⟨q1, q0, q2, q3, q4, rfl, rfl⟩ := isP_iff.1 hg
    cases h2
    obtain ⟨e1, e2⟩ := ed_unE q2
    obtain ⟨l, rfl⟩ := isI_iff.1 q3
    rw [len_ints] at q4
    subst q4
    obtain ⟨g1, g2, g3⟩ := open_graph q1
    have hl := grac_len q0
    rw [unI_ints] at hl
    have := parts_ok ⟨n.toNat, unE es⟩ g1 c c2 l (by show l.length = n.toNat; omega)
    unfold Gr.cs Gr.es Gr.m at this
    simp only at this
    rw [← e1, ← e2, show ((n.toNat : Nat) : Int) = n by omega] at this
    show PureOK Try.prog 54 _ (iD (partS (unI (ints l)) (unE es)))
    rw [unI_ints]
    exact this
  · cases h

theorem evP_ok : EvOK Try.prog (evP tabP) := EvOK.add (EvOK.add (EvOK.add EvOK.nil sp47t_ok) sp48t_ok) sp54t_ok

/-- Labels from the other end. -/
def turnL (E : List (Int × Int)) (l : List Int) : List Int := l.map fun x => (E.length : Int) - x

theorem l38_0 (E : List (Int × Int)) (c nl : Bool) (l : List Int) (c2 nl2 : Bool) (hE : E.length ≤ 10) (hl : l.length ≤ 100) (hlab : LabOK 10 l) : ∀ (r : List Int) (i : Nat) (out : List Int), out.length = i → i ≤ l.length → l.drop i = r →
    LoopAt aeC (evP tabP) 38 0 Try.f38 0 (s38 E c nl l c2 nl2 (ints out) i) (.exit 0) ⟨[(10, AV.grow 0 1 false)], [.dc (ints (out ++ turnL E r))], []⟩
  | [], i, out, ho, hi, hr => by
    have h1 := drop_nil_o hr
    refine .out k38_0 (by simp) ((r38_0 ..).trans ?_)
    rw [cnd_neg (by omega)]
    simp [turnL]
  | x :: r, i, out, ho, hi, hr => by
    obtain ⟨h1, h2, h3⟩ := drop_cons_o (d := 0) hr
    have hx := hlab.get h1
    have res := r38_0 tabP E c nl l c2 nl2 (ints out) i
    rw [h2] at hx
    revert res
    simp (disch := omega) only [cnd_pos, cnd_neg, inR_pos, ble_pos, blt_pos, beq_pos, cond_and, cond_or, Bool.cond_not, cond_true, cond_false, Bool.and_true, Bool.true_and, getI_some, getB_some, nth_ints_o, nth_bools_o, wrap64_o, len_ints, len_bools, lenOf_1, Int.toNat_natCast, Nat.mul_one, Nat.zero_add, setNth_bools_o, setNth_ints_o, len_set_i, len_set_b, Option.bind_some, List.length_append, List.length_cons, List.length_nil, unI_ints, unB_bools, ints_app1, bools_app1, nth_pr1, nth_pr2, len_prs, abs_if, Nat.add_zero, cond_same, h2]
    intro res
    have := l38_0 E c nl l c2 nl2 hE hl hlab r (i + 1) (out ++ [(E.length : Int) - x]) (by simp [ho]) h1 h3
    rw [List.append_assoc, List.singleton_append] at this
    exact .next k38_0 res this

theorem l40_0 (E : List (Int × Int)) (c nl : Bool) (l : List Int) (c2 nl2 : Bool) (hE : E.length ≤ 10) (hl : l.length ≤ 100) (hlab : LabOK 10 l) : ∀ (r : List Int) (i : Nat) (out : List Int), out.length = i → i ≤ l.length → l.drop i = r →
    LoopAt aeC Ev.nil 40 0 Try.f40 0 (s40 E c nl l c2 nl2 (ints out) i) (.exit 0) ⟨[(5, AV.grow 0 1 false)], [.dc (ints (out ++ turnL E r))], []⟩
  | [], i, out, ho, hi, hr => by
    have h1 := drop_nil_o hr
    refine .out k40_0 (by simp) ((r40_0 ..).trans ?_)
    rw [cnd_neg (by omega)]
    simp [turnL]
  | x :: r, i, out, ho, hi, hr => by
    obtain ⟨h1, h2, h3⟩ := drop_cons_o (d := 0) hr
    have hx := hlab.get h1
    have res := r40_0 E c nl l c2 nl2 (ints out) i
    rw [h2] at hx
    revert res
    simp (disch := omega) only [cnd_pos, cnd_neg, inR_pos, ble_pos, blt_pos, beq_pos, cond_and, cond_or, Bool.cond_not, cond_true, cond_false, Bool.and_true, Bool.true_and, getI_some, getB_some, nth_ints_o, nth_bools_o, wrap64_o, len_ints, len_bools, lenOf_1, Int.toNat_natCast, Nat.mul_one, Nat.zero_add, setNth_bools_o, setNth_ints_o, len_set_i, len_set_b, Option.bind_some, List.length_append, List.length_cons, List.length_nil, unI_ints, unB_bools, ints_app1, bools_app1, nth_pr1, nth_pr2, len_prs, abs_if, Nat.add_zero, cond_same, h2]
    intro res
    have := l40_0 E c nl l c2 nl2 hE hl hlab r (i + 1) (out ++ [(E.length : Int) - x]) (by simp [ho]) h1 h3
    rw [List.append_assoc, List.singleton_append] at this
    exact .next k40_0 res this

theorem turn_fix {l : List Int} {n : Nat} (h : l.length = n) (h1 : 1 ≤ n) : (DV.sl (ints l) (lenOf 1 (ints l).length) 1 false (true && Nat.beq (ints l).length 0)) = .sl (ints l) n 1 false false := by
  rw [Go.AE.lenOf_1, len_ints, h]
  have hb : Nat.beq n 0 = false := by
    cases q : Nat.beq n 0 with
    | false => rfl
    | true => have := Nat.eq_of_beq_eq_true q; omega
  rw [hb]; rfl

theorem rturned_ok (E : List (Int × Int)) (c nl : Bool) (l : List Int) (c2 nl2 : Bool) (hE : E.length ≤ 10) (hl : l.length ≤ 100) (h1 : 1 ≤ l.length) (hlab : LabOK 10 l) : PureOK Try.prog 40 [edgX E c nl, lstX l c2 nl2] (.sl (ints (turnL E l)) l.length 1 false false) := by
  refine ae_pure EvOK.nil (fn := Try.f40) k40 (by kernel_rfl) (by kernel_rfl) ?_
  have loop := l40_0 E c nl l c2 nl2 hE hl hlab l 0 [] rfl (by omega) rfl
  have := startF_one k40 done_plain (r40h ..) loop (r40_x ..)
  rw [this, List.nil_append, turn_fix (n := l.length) (by simp [turnL]) h1]

/-- What is told of labels of a graph that is right. -/
theorem tells36 (n : Int) (E : List (Int × Int)) (c : Bool) (l : List Int) (c2 nl2 : Bool) (hn : openS n E = 0) : PureOK Try.prog 36 [iD n, edgX E c false, lstX l c2 nl2] (.tup [bD (gracB n E l), iD 0]) := by
  refine ae_pure evP_ok (fn := Try.f36) k36 (by kernel_rfl) (by kernel_rfl) (startF_done k36 done_plain ?_)
  rw [r36]
  have g : isP (tabP.op n (edD E) = 0 ∧ isE (edD E) E.length = true ∧ isI (ints l) = true ∧ (ints l).length = l.length ∧ false = false) = true := isP_iff.2 ⟨by show openS n (unE (edD E)) = 0; rw [unE_ed]; exact hn, isE_ed E, isI_ints l, len_ints l, rfl⟩
  have h0 : tabP.op n (edD E) = 0 := by show openS n (unE (edD E)) = 0; rw [unE_ed]; exact hn
  rw [isE_ed] at g
  rw [isE_ed, cond_true, cnd_pos h0, g, cond_true]
  show some (DV.tup [bD (gracB n (unE (edD E)) (unI (ints l))), iD 0]) = _
  rw [unE_ed, unI_ints]

theorem gradh {n : Int} {E : List (Int × Int)} {l : List Int} (hn : openS n E = 0) (hg : gracB n E l = true) : (l.length : Int) = n ∧ LabOK E.length l ∧ EdOK l.length E ∧ 2 ≤ n ∧ n ≤ 7 ∧ 1 ≤ E.length ∧ E.length ≤ 10 := by
  obtain ⟨g1, g2, g3⟩ := open_graph hn
  have hl := grac_len hg
  have hnew : newS E.length [] l = true := by
    simp only [gracB, Bool.and_eq_true] at hg
    exact hg.2.1
  refine ⟨hl, newS_lab hnew, ?_, g2, g3, g1.2.2.1, g1.2.2.2.1⟩
  rw [show l.length = n.toNat by omega]
  exact g1.2.2.2.2

theorem partL_some (E : List (Int × Int)) (l : List Int) : ∀ (j : Nat) (k : Int), j ≤ E.length → partL E l j = some k → (E.length : Int) - j ≤ k ∧ k < E.length ∧ E.all (splitE l k) = true ∧ ∀ k', (E.length : Int) - j ≤ k' → k' < k → ¬ E.all (splitE l k') = true
  | 0, k, hj, h => by cases h
  | j + 1, k, hj, h => by
    simp only [partL] at h
    split at h
    · rename_i hc
      cases h
      exact ⟨Int.le_refl _, by omega, hc, fun k' h1 h2 => by omega⟩
    · rename_i hc
      obtain ⟨h1, h2, h3, h4⟩ := partL_some E l j k (by omega) h
      refine ⟨by omega, h2, h3, fun k' q1 q2 => ?_⟩
      rcases Int.lt_or_eq_of_le q1 with q | q
      · exact h4 k' (by omega) q2
      · rw [← q]; exact hc

/-- The least number is the program's. -/
theorem parts_val {E : List (Int × Int)} {l : List Int} (hE : EdOK l.length E) (hl : LabOK E.length l) (h1 : 1 ≤ E.length) (h10 : E.length ≤ 10) {k : Int} (h : partL E l E.length = some k) : partS l E = k := by
  have hp : 0 ≤ partS l E := (parts_same E l hE hl h1 h10).2 (by rw [h]; rfl)
  obtain ⟨a1, a2, a3, a4⟩ := partL_some E l E.length k (Nat.le_refl _) h
  have b := (split_all l E k (by omega) (by omega)).1 a3
  unfold partS at hp ⊢
  split at hp
  · omega
  · rename_i hc
    rw [if_neg hc]
    rcases Int.lt_or_eq_of_le b.1 with q | q
    · exact absurd ((split_all l E (partF l E (-1) 25).1 hp (by omega)).2 ⟨Int.le_refl _, by omega⟩) (a4 _ (by omega) q)
    · exact q

noncomputable def pD37 (n : Int) (E : List (Int × Int)) (l : List Int) : DV := bif gracB n E l then bif (partL E l E.length).isSome then .tup [iD ((partL E l E.length).getD 0), bD true, iD 0] else .tup [iD 0, bD false, iD 0] else .tup [iD 0, bD false, iD 0]

theorem tells37 (n : Int) (E : List (Int × Int)) (c : Bool) (l : List Int) (c2 nl2 : Bool) (hn : openS n E = 0) (hnl : nl2 = true → l = []) : PureOK Try.prog 37 [iD n, edgX E c false, lstX l c2 nl2] (pD37 n E l) := by
  refine ae_pure evP_ok (fn := Try.f37) k37 (by kernel_rfl) (by kernel_rfl) (startF_done k37 done_plain ?_)
  rw [r37]
  have h0 : tabP.op n (edD E) = 0 := by show openS n (unE (edD E)) = 0; rw [unE_ed]; exact hn
  have g : isP (tabP.op n (edD E) = 0 ∧ isE (edD E) E.length = true ∧ isI (ints l) = true ∧ (ints l).length = l.length ∧ false = false) = true := isP_iff.2 ⟨h0, isE_ed E, isI_ints l, len_ints l, rfl⟩
  have hG : tabP.G n (edD E) (ints l) = gracB n E l := by show gracB n (unE (edD E)) (unI (ints l)) = _; rw [unE_ed, unI_ints]
  have hP : tabP.P (edD E) (ints l) = partS l E := by show partS (unI (ints l)) (unE (edD E)) = _; rw [unE_ed, unI_ints]
  unfold pD37
  rw [g, hG, hP, isE_ed, cond_true, cnd_pos h0, cond_true]
  cases hg : gracB n E l with
  | false => rfl
  | true =>
    obtain ⟨a1, a2, a3, a4, a5, a6, a7⟩ := gradh hn hg
    have hnl2 : nl2 = false := by
      cases nl2 with
      | false => rfl
      | true => rw [hnl rfl] at a1; simp at a1; omega
    have g2 : isP (tabP.op n (edD E) = 0 ∧ true = true ∧ true = true ∧ isI (ints l) = true ∧ (ints l).length = l.length ∧ false = false ∧ nl2 = false) = true := isP_iff.2 ⟨h0, rfl, rfl, isI_ints l, len_ints l, rfl, hnl2⟩
    rw [g2]
    simp only [cond_true, Bool.not_true, cond_false]
    have hs := parts_same E l a3 a2 a6 a7
    cases hp : partL E l E.length with
    | none =>
      have : ¬ 0 ≤ partS l E := fun q => by have := hs.1 q; rw [hp] at this; cases this
      rw [cnd_pos (by omega)]; rfl
    | some k =>
      have h3 := parts_val a3 a2 a6 a7 hp
      have : 0 ≤ partS l E := hs.2 (by rw [hp]; rfl)
      rw [cnd_neg (by omega), h3]; rfl

noncomputable def pD38 (n : Int) (E : List (Int × Int)) (l : List Int) : DV := bif gracB n E l then .tup [.sl (ints (turnL E l)) l.length 1 false false, iD 0] else .tup [nilS1, iD 1]

theorem tells38 (n : Int) (E : List (Int × Int)) (c : Bool) (l : List Int) (c2 nl2 : Bool) (hn : openS n E = 0) : PureOK Try.prog 38 [iD n, edgX E c false, lstX l c2 nl2] (pD38 n E l) := by
  refine ae_pure evP_ok (fn := Try.f38) k38 (by kernel_rfl) (by kernel_rfl) ?_
  have hd := r38d tabP n E c false l c2 nl2
  have hh := r38h tabP n E c false l c2 nl2
  have h0 : tabP.op n (edD E) = 0 := by show openS n (unE (edD E)) = 0; rw [unE_ed]; exact hn
  have g : isP (tabP.op n (edD E) = 0 ∧ isE (edD E) E.length = true ∧ isI (ints l) = true ∧ (ints l).length = l.length ∧ false = false) = true := isP_iff.2 ⟨h0, isE_ed E, isI_ints l, len_ints l, rfl⟩
  have hG : tabP.G n (edD E) (ints l) = gracB n E l := by show gracB n (unE (edD E)) (unI (ints l)) = _; rw [unE_ed, unI_ints]
  rw [g, hG, isE_ed, cond_true, cnd_pos h0, cond_true] at hd hh
  unfold pD38
  cases hg : gracB n E l with
  | false => rw [hg] at hd; exact startF_done k38 done_plain hd
  | true =>
    rw [hg] at hh
    obtain ⟨a1, a2, a3, a4, a5, a6, a7⟩ := gradh hn hg
    have loop := l38_0 E c false l c2 nl2 a7 (by omega) (a2.mono a7) l 0 [] rfl (by omega) rfl
    have := startF_one k38 done_plain hh loop (r38_x ..)
    rw [this, List.nil_append, turn_fix (n := l.length) (by simp [turnL]) (by omega)]
    rfl
end Go.Proofs.Ytkcdbndpcabelaa

/- Chapter 02: the law on what is told of labels, on data. -/
namespace Go.Proofs.Ytkcdbndpcabelaa
open Go Go.AE

theorem k9 : OkSeg Try.f9 none [0] := ⟨by kernel_rfl, by kernel_rfl, by decide⟩
theorem k9_0 : OkSeg Try.f9 (some 0) [] := ⟨by kernel_rfl, by kernel_rfl, by decide⟩
structure TabT where
  G : Int → List DV → List DV → Bool
  pI : List DV → List DV → Bool
  pC : List DV → List DV → Int
  tu : List DV → List DV → List DV
noncomputable def okT (n : Int) (es : List DV) (m : Nat) (cs : List DV) (k : Nat) (nl : Bool) : Bool := isP (openS n (unE es) = 0 ∧ isE es m = true ∧ isI cs = true ∧ cs.length = k ∧ (nl = true → k = 0))
noncomputable def okU (n : Int) (es : List DV) (m : Nat) : Bool := isP (openS n (unE es) = 0 ∧ isE es m = true)
noncomputable def sp36 (T : TabT) : List DV → Tr DV
  | [.int .i64 n, .sl es m 2 _ false, .sl cs k 1 _ nl] => .node (okT n es m cs k nl) (.leaf (.tup [bD (T.G n es cs), iD 0])) .fail
  | _ => .fail
noncomputable def sp37 (T : TabT) : List DV → Tr DV
  | [.int .i64 n, .sl es m 2 _ false, .sl cs k 1 _ nl] => .node (okT n es m cs k nl) (.node (T.G n es cs) (.node (T.pI es cs) (.leaf (.tup [iD (T.pC es cs), bD true, iD 0])) (.leaf (.tup [iD 0, bD false, iD 0]))) (.leaf (.tup [iD 0, bD false, iD 0]))) .fail
  | _ => .fail
noncomputable def sp38 (T : TabT) : List DV → Tr DV
  | [.int .i64 n, .sl es m 2 _ false, .sl cs k 1 _ nl] => .node (okT n es m cs k nl) (.node (T.G n es cs) (.leaf (.tup [.sl (T.tu es cs) k 1 false false, iD 0])) (.leaf (.tup [nilS1, iD 1]))) .fail
  | _ => .fail
noncomputable def sp16u (T : TabT) : List DV → Tr DV
  | [.int .i64 n, .sl es m 2 _ _, .sl cs k 1 _ nl] => .node (okT n es m cs k nl) (.leaf (bD (T.G n es cs))) .fail
  | _ => .fail
noncomputable def okV (es : List DV) (m : Nat) (cs : List DV) (k : Nat) : Bool := isP (isE es m = true ∧ isI cs = true ∧ cs.length = k ∧ EdOK k (unE es) ∧ m ≤ 10 ∧ LabOK 10 (unI cs) ∧ 1 ≤ k ∧ k ≤ 100)
noncomputable def sp39u (T : TabT) : List DV → Tr DV
  | [.sl es m 2 _ _, .sl cs k 1 _ _] => .node (okV es m cs k) (.node (T.pI es cs) (.leaf (.tup [iD (T.pC es cs), bD true])) (.leaf (.tup [iD 0, bD false]))) .fail
  | _ => .fail
noncomputable def sp40u (T : TabT) : List DV → Tr DV
  | [.sl es m 2 _ _, .sl cs k 1 _ _] => .node (okV es m cs k) (.leaf (.sl (T.tu es cs) k 1 false false)) .fail
  | _ => .fail
/-- Whether two lists of numbers are the same, of lists that are. -/
noncomputable def sp23s : List DV → Tr DV
  | [.sl a n 1 _ _, .sl b m 1 _ _] => .node (isP (isI a = true ∧ a.length = n ∧ b = a ∧ m = n ∧ n ≤ 100)) (.leaf (bD true)) .fail
  | _ => .fail
noncomputable def sp19u (U : TabF) : List DV → Tr DV
  | [.int .i64 n, .sl es m 2 _ _, .bool part] => .node (okU n es m) (.node (U.is n es part) (.leaf (.sl (U.cs n es part) (U.len n es part) 1 false false)) (.leaf (.sl [] 0 1 false true))) .fail
  | _ => .fail
noncomputable def evR9 (n : Int) (E : List (Int × Int)) (c nl : Bool) (m : Int) (F : List (Int × Int)) (T : TabT) (U : TabF) : Ev := (((((((((Ev.nil.add 13 (sp13 n E c nl m F)).add 14 sp14).add 36 (sp36 T)).add 37 (sp37 T)).add 38 (sp38 T)).add 16 (sp16u T)).add 39 (sp39u T)).add 40 (sp40u T)).add 23 sp23s).add 19 (sp19u U) |>.add 20 sp20
noncomputable def s9 (m : Int) (F : List (Int × Int)) (l : DV) (x : List DV) (k : Nat) (c2 nl2 : Bool) (r : Int) : St := ⟨[(2, .d l), (7, .d (iD m)), (8, .d (edgX F false false)), (9, .d (.sl x k 1 c2 nl2)), (10, .d (iD r))], [], []⟩


theorem r9 (n : Int) (E : List (Int × Int)) (c nl : Bool) (m : Int) (F : List (Int × Int)) (T : TabT) (U : TabF) (l : List Int) (c2 nl2 : Bool) : startS aeC (evR9 n E c nl m F T U) 9 0 Try.f9 none ⟨envOf 0 ([iD n, edgX E c nl, lstX l c2 nl2].map .d), [], []⟩ (heldD aeC 9 0) =
  bif isAt (n, edD E, List.length E, c, nl, 10) (n, edD E, List.length E, c, nl, tenI) then
    bif isI (ints l) && (Nat.beq (List.length (ints l)) (List.length l) && true) then
      bif true && Nat.beq (List.length (ints (List.take 10 (unI (ints l))))) 0 || true then
        some (0, ⟨[(2, .d (DV.sl (ints l) (List.length l) 1 c2 nl2)), (7, .d (iD m)), (8, .d (DV.sl (edD F) (List.length F) 2 false false)), (9, .d (DV.sl (ints (List.take 10 (unI (ints l)))) (lenOf 1 (List.length (ints (List.take 10 (unI (ints l)))))) 1 false (true && Nat.beq (List.length (ints (List.take 10 (unI (ints l))))) 0))), (10, .d (iD 0))], [], []⟩)
      else
        none
    else
      none
  else
    none := by kernel_rfl

theorem r9_0 (n : Int) (E : List (Int × Int)) (c nl : Bool) (m : Int) (F : List (Int × Int)) (T : TabT) (U : TabF) (l : List Int) (c3 nl3 : Bool) (x : List DV) (k : Nat) (c2 nl2 : Bool) (r : Int) : startS aeC (evR9 n E c nl m F T U) 9 0 Try.f9 (some 0) (s9 m F (lstX l c3 nl3) x k c2 nl2 r) (roundD aeC 9 0 0) =
  bif decide (r < 2) then
    bif okT m (edD F) (List.length F) x k nl2 then
      bif okT m (edD F) (List.length F) x k nl2 then
        bif okT m (edD F) (List.length F) x k nl2 then
          bif TabT.G T m (edD F) x then
            bif TabT.pI T (edD F) x then
              bif okT m (edD F) (List.length F) x k nl2 then
                bif TabT.G T m (edD F) x then
                  bif !decide (TabT.G T m (edD F) x = TabT.G T m (edD F) x) then
                    some (Ex.ret, ⟨[(6, .d (bD false))], [], []⟩)
                  else
                    bif !TabT.G T m (edD F) x then
                      some (Ex.ret, ⟨[(6, .d (bD false))], [], []⟩)
                    else
                      bif okV (edD F) (List.length F) x k then
                        bif TabT.pI T (edD F) x then
                          bif !decide (TabT.pC T (edD F) x = TabT.pC T (edD F) x) then
                            some (Ex.ret, ⟨[(6, .d (bD false))], [], []⟩)
                          else
                            bif okV (edD F) (List.length F) x k then
                              bif isP (isI (TabT.tu T (edD F) x) = true ∧ List.length (TabT.tu T (edD F) x) = k ∧ TabT.tu T (edD F) x = TabT.tu T (edD F) x ∧ k = k ∧ k ≤ 100) then
                                bif okU m (edD F) (List.length F) then
                                  bif TabF.is U m (edD F) (decide (Int.tmod (↑(List.length l) : Int) 2 = 0)) then
                                    some (Ex.norm, ⟨[(2, .d (DV.sl (ints l) (List.length l) 1 c3 nl3)), (7, .d (iD m)), (8, .d (DV.sl (edD F) (List.length F) 2 false false)), (9, .d (DV.sl (TabF.cs U m (edD F) (decide (Int.tmod (↑(List.length l) : Int) 2 = 0))) (TabF.len U m (edD F) (decide (Int.tmod (↑(List.length l) : Int) 2 = 0))) 1 false false)), (10, .d (iD (IntKind.wrap IntKind.i64 (r + 1))))], [], []⟩)
                                  else
                                    some (Ex.norm, ⟨[(2, .d (DV.sl (ints l) (List.length l) 1 c3 nl3)), (7, .d (iD m)), (8, .d (DV.sl (edD F) (List.length F) 2 false false)), (9, .d (DV.sl [] 0 1 false true)), (10, .d (iD (IntKind.wrap IntKind.i64 (r + 1))))], [], []⟩)
                                else
                                  none
                              else
                                none
                            else
                              none
                        else
                          some (Ex.ret, ⟨[(6, .d (bD false))], [], []⟩)
                      else
                        none
                else
                  bif !decide (TabT.G T m (edD F) x = TabT.G T m (edD F) x) then
                    some (Ex.ret, ⟨[(6, .d (bD false))], [], []⟩)
                  else
                    bif !TabT.G T m (edD F) x then
                      some (Ex.ret, ⟨[(6, .d (bD false))], [], []⟩)
                    else
                      bif okV (edD F) (List.length F) x k then
                        bif TabT.pI T (edD F) x then
                          bif !decide (TabT.pC T (edD F) x = TabT.pC T (edD F) x) then
                            some (Ex.ret, ⟨[(6, .d (bD false))], [], []⟩)
                          else
                            some (Ex.ret, ⟨[(6, .d (bD false))], [], []⟩)
                        else
                          some (Ex.ret, ⟨[(6, .d (bD false))], [], []⟩)
                      else
                        none
              else
                none
            else
              bif okT m (edD F) (List.length F) x k nl2 then
                bif TabT.G T m (edD F) x then
                  bif !decide (TabT.G T m (edD F) x = TabT.G T m (edD F) x) then
                    some (Ex.ret, ⟨[(6, .d (bD false))], [], []⟩)
                  else
                    bif !TabT.G T m (edD F) x then
                      some (Ex.ret, ⟨[(6, .d (bD false))], [], []⟩)
                    else
                      bif okV (edD F) (List.length F) x k then
                        bif TabT.pI T (edD F) x then
                          some (Ex.ret, ⟨[(6, .d (bD false))], [], []⟩)
                        else
                          bif okV (edD F) (List.length F) x k then
                            bif isP (isI (TabT.tu T (edD F) x) = true ∧ List.length (TabT.tu T (edD F) x) = k ∧ TabT.tu T (edD F) x = TabT.tu T (edD F) x ∧ k = k ∧ k ≤ 100) then
                              bif okU m (edD F) (List.length F) then
                                bif TabF.is U m (edD F) (decide (Int.tmod (↑(List.length l) : Int) 2 = 0)) then
                                  some (Ex.norm, ⟨[(2, .d (DV.sl (ints l) (List.length l) 1 c3 nl3)), (7, .d (iD m)), (8, .d (DV.sl (edD F) (List.length F) 2 false false)), (9, .d (DV.sl (TabF.cs U m (edD F) (decide (Int.tmod (↑(List.length l) : Int) 2 = 0))) (TabF.len U m (edD F) (decide (Int.tmod (↑(List.length l) : Int) 2 = 0))) 1 false false)), (10, .d (iD (IntKind.wrap IntKind.i64 (r + 1))))], [], []⟩)
                                else
                                  some (Ex.norm, ⟨[(2, .d (DV.sl (ints l) (List.length l) 1 c3 nl3)), (7, .d (iD m)), (8, .d (DV.sl (edD F) (List.length F) 2 false false)), (9, .d (DV.sl [] 0 1 false true)), (10, .d (iD (IntKind.wrap IntKind.i64 (r + 1))))], [], []⟩)
                              else
                                none
                            else
                              none
                          else
                            none
                      else
                        none
                else
                  bif !decide (TabT.G T m (edD F) x = TabT.G T m (edD F) x) then
                    some (Ex.ret, ⟨[(6, .d (bD false))], [], []⟩)
                  else
                    bif !TabT.G T m (edD F) x then
                      bif okU m (edD F) (List.length F) then
                        bif TabF.is U m (edD F) (decide (Int.tmod (↑(List.length l) : Int) 2 = 0)) then
                          some (Ex.norm, ⟨[(2, .d (DV.sl (ints l) (List.length l) 1 c3 nl3)), (7, .d (iD m)), (8, .d (DV.sl (edD F) (List.length F) 2 false false)), (9, .d (DV.sl (TabF.cs U m (edD F) (decide (Int.tmod (↑(List.length l) : Int) 2 = 0))) (TabF.len U m (edD F) (decide (Int.tmod (↑(List.length l) : Int) 2 = 0))) 1 false false)), (10, .d (iD (IntKind.wrap IntKind.i64 (r + 1))))], [], []⟩)
                        else
                          some (Ex.norm, ⟨[(2, .d (DV.sl (ints l) (List.length l) 1 c3 nl3)), (7, .d (iD m)), (8, .d (DV.sl (edD F) (List.length F) 2 false false)), (9, .d (DV.sl [] 0 1 false true)), (10, .d (iD (IntKind.wrap IntKind.i64 (r + 1))))], [], []⟩)
                      else
                        none
                    else
                      bif okV (edD F) (List.length F) x k then
                        bif TabT.pI T (edD F) x then
                          some (Ex.ret, ⟨[(6, .d (bD false))], [], []⟩)
                        else
                          some (Ex.ret, ⟨[(6, .d (bD false))], [], []⟩)
                      else
                        none
              else
                none
          else
            bif okT m (edD F) (List.length F) x k nl2 then
              bif TabT.G T m (edD F) x then
                bif !decide (TabT.G T m (edD F) x = TabT.G T m (edD F) x) then
                  some (Ex.ret, ⟨[(6, .d (bD false))], [], []⟩)
                else
                  bif !TabT.G T m (edD F) x then
                    some (Ex.ret, ⟨[(6, .d (bD false))], [], []⟩)
                  else
                    bif okV (edD F) (List.length F) x k then
                      bif TabT.pI T (edD F) x then
                        some (Ex.ret, ⟨[(6, .d (bD false))], [], []⟩)
                      else
                        bif okV (edD F) (List.length F) x k then
                          bif isP (isI (TabT.tu T (edD F) x) = true ∧ List.length (TabT.tu T (edD F) x) = k ∧ TabT.tu T (edD F) x = TabT.tu T (edD F) x ∧ k = k ∧ k ≤ 100) then
                            bif okU m (edD F) (List.length F) then
                              bif TabF.is U m (edD F) (decide (Int.tmod (↑(List.length l) : Int) 2 = 0)) then
                                some (Ex.norm, ⟨[(2, .d (DV.sl (ints l) (List.length l) 1 c3 nl3)), (7, .d (iD m)), (8, .d (DV.sl (edD F) (List.length F) 2 false false)), (9, .d (DV.sl (TabF.cs U m (edD F) (decide (Int.tmod (↑(List.length l) : Int) 2 = 0))) (TabF.len U m (edD F) (decide (Int.tmod (↑(List.length l) : Int) 2 = 0))) 1 false false)), (10, .d (iD (IntKind.wrap IntKind.i64 (r + 1))))], [], []⟩)
                              else
                                some (Ex.norm, ⟨[(2, .d (DV.sl (ints l) (List.length l) 1 c3 nl3)), (7, .d (iD m)), (8, .d (DV.sl (edD F) (List.length F) 2 false false)), (9, .d (DV.sl [] 0 1 false true)), (10, .d (iD (IntKind.wrap IntKind.i64 (r + 1))))], [], []⟩)
                            else
                              none
                          else
                            none
                        else
                          none
                    else
                      none
              else
                bif !decide (TabT.G T m (edD F) x = TabT.G T m (edD F) x) then
                  some (Ex.ret, ⟨[(6, .d (bD false))], [], []⟩)
                else
                  bif !TabT.G T m (edD F) x then
                    bif okU m (edD F) (List.length F) then
                      bif TabF.is U m (edD F) (decide (Int.tmod (↑(List.length l) : Int) 2 = 0)) then
                        some (Ex.norm, ⟨[(2, .d (DV.sl (ints l) (List.length l) 1 c3 nl3)), (7, .d (iD m)), (8, .d (DV.sl (edD F) (List.length F) 2 false false)), (9, .d (DV.sl (TabF.cs U m (edD F) (decide (Int.tmod (↑(List.length l) : Int) 2 = 0))) (TabF.len U m (edD F) (decide (Int.tmod (↑(List.length l) : Int) 2 = 0))) 1 false false)), (10, .d (iD (IntKind.wrap IntKind.i64 (r + 1))))], [], []⟩)
                      else
                        some (Ex.norm, ⟨[(2, .d (DV.sl (ints l) (List.length l) 1 c3 nl3)), (7, .d (iD m)), (8, .d (DV.sl (edD F) (List.length F) 2 false false)), (9, .d (DV.sl [] 0 1 false true)), (10, .d (iD (IntKind.wrap IntKind.i64 (r + 1))))], [], []⟩)
                    else
                      none
                  else
                    bif okV (edD F) (List.length F) x k then
                      bif TabT.pI T (edD F) x then
                        some (Ex.ret, ⟨[(6, .d (bD false))], [], []⟩)
                      else
                        some (Ex.ret, ⟨[(6, .d (bD false))], [], []⟩)
                    else
                      none
            else
              none
        else
          none
      else
        none
    else
      none
  else
    some (Ex.exit 0, ⟨[], [], []⟩) := by kernel_rfl

theorem r9_x (n : Int) (E : List (Int × Int)) (c nl : Bool) (m : Int) (F : List (Int × Int)) (T : TabT) (U : TabF) : nextS aeC (evR9 n E c nl m F T U) 9 0 Try.f9 none 0 (.exit 0) ⟨[], [], []⟩ (doneE aeC Try.f9 0 fun v h => freezeV h 4 v) =
  some (bD true) := by kernel_rfl

noncomputable def tabT : TabT := ⟨fun n es cs => gracB n (unE es) (unI cs), fun es cs => (partL (unE es) (unI cs) (unE es).length).isSome, fun es cs => (partL (unE es) (unI cs) (unE es).length).getD 0, fun es cs => ints (turnL (unE es) (unI cs))⟩

theorem okT_open {n : Int} {es : List DV} {m : Nat} {cs : List DV} {k : Nat} {nl : Bool} (h : okT n es m cs k nl = true) : ∃ E l, es = edD E ∧ m = E.length ∧ cs = ints l ∧ k = l.length ∧ openS n E = 0 ∧ (nl = true → l = []) := by
  obtain ⟨q1, q2, q3, q4, q5⟩ := isP_iff.1 h
  obtain ⟨e1, e2⟩ := ed_unE q2
  obtain ⟨l, rfl⟩ := isI_iff.1 q3
  rw [len_ints] at q4
  exact ⟨unE es, l, e1, e2, rfl, q4.symm, q1, fun h => List.length_eq_zero_iff.1 (by rw [q4]; exact q5 h)⟩

theorem sp36_ok : ∀ ds d, (sp36 tabT ds).val = some d → PureOK Try.prog 36 ds d := by
  intro ds d h
  unfold sp36 at h
  split at h
  · rename_i n es m c cs k c2 nl
    simp only [Tr.val] at h
    obtain ⟨hg, h2⟩ := cond_none h
    obtain ⟨E, l, rfl, rfl, rfl, rfl, q1, q2⟩ := okT_open hg
    cases h2
    have := tells36 n E c l c2 nl q1
    simp only [tabT, unE_ed, unI_ints]
    exact this
  · cases h

theorem sp37_ok : ∀ ds d, (sp37 tabT ds).val = some d → PureOK Try.prog 37 ds d := by
  intro ds d h
  unfold sp37 at h
  split at h
  · rename_i n es m c cs k c2 nl
    simp only [Tr.val] at h
    obtain ⟨hg, h2⟩ := cond_none h
    clear h
    obtain ⟨E, l, rfl, rfl, rfl, rfl, q1, q2⟩ := okT_open hg
    have := tells37 n E c l c2 nl q1 q2
    unfold pD37 at this
    simp only [tabT, unE_ed, unI_ints] at h2
    cases hgr : gracB n E l with
    | false => rw [hgr] at h2 this; cases h2; exact this
    | true =>
      rw [hgr] at h2 this
      simp only [cond_true] at h2 this
      cases hp : (partL E l E.length).isSome with
      | false => rw [hp] at h2 this; cases h2; exact this
      | true => rw [hp] at h2 this; cases h2; exact this
  · cases h

theorem sp38_ok : ∀ ds d, (sp38 tabT ds).val = some d → PureOK Try.prog 38 ds d := by
  intro ds d h
  unfold sp38 at h
  split at h
  · rename_i n es m c cs k c2 nl
    simp only [Tr.val] at h
    obtain ⟨hg, h2⟩ := cond_none h
    clear h
    obtain ⟨E, l, rfl, rfl, rfl, rfl, q1, q2⟩ := okT_open hg
    have := tells38 n E c l c2 nl q1
    unfold pD38 at this
    simp only [tabT, unE_ed, unI_ints] at h2
    cases hgr : gracB n E l with
    | false => rw [hgr] at h2 this; cases h2; exact this
    | true => rw [hgr] at h2 this; cases h2; exact this
  · cases h

theorem sp16u_ok : ∀ ds d, (sp16u tabT ds).val = some d → PureOK Try.prog 16 ds d := by
  intro ds d h
  unfold sp16u at h
  split at h
  · rename_i n es m c nl0 cs k c2 nl
    simp only [Tr.val] at h
    obtain ⟨hg, h2⟩ := cond_none h
    obtain ⟨E, l, rfl, rfl, rfl, rfl, q1, q2⟩ := okT_open hg
    cases h2
    obtain ⟨g1, g2, g3⟩ := open_graph q1
    have := grac_ok n.toNat E c nl0 l c2 nl g1.2.2.2.2 (by omega) (by have := g1.2.2.2.1; simp only at this; omega)
    rw [show ((n.toNat : Nat) : Int) = n by omega] at this
    simp only [tabT, unE_ed, unI_ints]
    exact this
  · cases h

theorem okV_open {es : List DV} {m : Nat} {cs : List DV} {k : Nat} (h : okV es m cs k = true) : ∃ E l, es = edD E ∧ m = E.length ∧ cs = ints l ∧ k = l.length ∧ EdOK l.length E ∧ E.length ≤ 10 ∧ LabOK 10 l ∧ 1 ≤ l.length ∧ l.length ≤ 100 := by
  obtain ⟨q1, q2, q3, q4, q5, q6, q7, q8⟩ := isP_iff.1 h
  obtain ⟨e1, e2⟩ := ed_unE q1
  obtain ⟨l, rfl⟩ := isI_iff.1 q2
  rw [len_ints] at q3
  subst q3
  rw [unI_ints] at q6
  exact ⟨unE es, l, e1, e2, rfl, rfl, q4, by omega, q6, q7, q8⟩

theorem sp39u_ok : ∀ ds d, (sp39u tabT ds).val = some d → PureOK Try.prog 39 ds d := by
  intro ds d h
  unfold sp39u at h
  split at h
  · rename_i es m c nl cs k c2 nl2
    simp only [Tr.val] at h
    obtain ⟨hg, h2⟩ := cond_none h
    clear h
    obtain ⟨E, l, rfl, rfl, rfl, rfl, q1, q2, q3, q4, q5⟩ := okV_open hg
    have := rparts_ok E c nl l c2 nl2 q1 (by omega)
    unfold partD at this
    simp only [tabT, unE_ed, unI_ints] at h2
    cases hp : (partL E l E.length).isSome with
    | false => rw [hp] at h2 this; cases h2; exact this
    | true => rw [hp] at h2 this; cases h2; exact this
  · cases h

theorem sp40u_ok : ∀ ds d, (sp40u tabT ds).val = some d → PureOK Try.prog 40 ds d := by
  intro ds d h
  unfold sp40u at h
  split at h
  · rename_i es m c nl cs k c2 nl2
    simp only [Tr.val] at h
    obtain ⟨hg, h2⟩ := cond_none h
    obtain ⟨E, l, rfl, rfl, rfl, rfl, q1, q2, q3, q4, q5⟩ := okV_open hg
    cases h2
    simp only [tabT, unE_ed, unI_ints]
    exact rturned_ok E c nl l c2 nl2 q2 q5 q4 q3
  · cases h

theorem sp23s_ok : ∀ ds d, (sp23s ds).val = some d → PureOK Try.prog 23 ds d := by
  intro ds d h
  unfold sp23s at h
  split at h
  · rename_i a n c nl b m c2 nl2
    simp only [Tr.val] at h
    obtain ⟨hg, h2⟩ := cond_none h
    obtain ⟨q1, q2, rfl, rfl, q3⟩ := isP_iff.1 hg
    cases h2
    obtain ⟨l, rfl⟩ := isI_iff.1 q1
    rw [len_ints] at q2
    subst q2
    have := ints_ok2 l l c c2 nl nl2 (by unfold Small; omega)
    rw [decide_eq_true rfl] at this
    exact this
  · cases h

theorem sp19u_ok : ∀ ds d, (sp19u tabF ds).val = some d → PureOK Try.prog 19 ds d := by
  intro ds d h
  unfold sp19u at h
  split at h
  · exact sp19t_ok _ _ h
  · cases h

theorem l9 (n : Int) (E : List (Int × Int)) (c nl : Bool) (m : Int) (F : List (Int × Int)) (hF : openS m F = 0) (l : List Int) (c3 nl3 : Bool) : ∀ (k : Nat) (x : List Int) (c2 nl2 : Bool), k ≤ 2 → x.length ≤ 100 → (nl2 = true → x = []) →
    LoopAt aeC (evR9 n E c nl m F tabT tabF) 9 0 Try.f9 0 (s9 m F (lstX l c3 nl3) (ints x) x.length c2 nl2 (2 - (k : Int))) (.exit 0) ⟨[], [], []⟩
  | 0, x, c2, nl2, hk, hx, hnl => .out k9_0 (by simp) ((r9_0 ..).trans (by rw [cnd_neg (by omega)]))
  | k + 1, x, c2, nl2, hk, hx, hnl => by
    obtain ⟨hg, h2, h7⟩ := open_graph hF
    have res := r9_0 n E c nl m F tabT tabF l c3 nl3 (ints x) x.length c2 nl2 (2 - ((k + 1 : Nat) : Int))
    have g1 : okT m (edD F) F.length (ints x) x.length nl2 = true := isP_iff.2 ⟨by rw [unE_ed]; exact hF, isE_ed F, isI_ints x, len_ints x, fun h => by rw [hnl h]; rfl⟩
    have g2 : okU m (edD F) F.length = true := isP_iff.2 ⟨by rw [unE_ed]; exact hF, isE_ed F⟩
    rw [cnd_pos (by omega), g1, g2, wrap64 (by omega) (by omega), show 2 - ((k + 1 : Nat) : Int) + 1 = 2 - (k : Int) by omega] at res
    have hsame : ∀ b : Bool, decide (b = b) = true := fun b => decide_eq_true rfl
    have hsameI : ∀ b : Int, decide (b = b) = true := fun b => decide_eq_true rfl
    have next : startS aeC (evR9 n E c nl m F tabT tabF) 9 0 Try.f9 (some 0) (s9 m F (lstX l c3 nl3) (ints x) x.length c2 nl2 (2 - ((k + 1 : Nat) : Int))) (roundD aeC 9 0 0) =
        (bif tabF.is m (edD F) (decide (Int.tmod (l.length : Int) 2 = 0)) then some (.norm, ⟨[(2, .d (DV.sl (ints l) l.length 1 c3 nl3)), (7, .d (iD m)), (8, .d (DV.sl (edD F) F.length 2 false false)), (9, .d (DV.sl (tabF.cs m (edD F) (decide (Int.tmod (l.length : Int) 2 = 0))) (tabF.len m (edD F) (decide (Int.tmod (l.length : Int) 2 = 0))) 1 false false)), (10, .d (iD (2 - (k : Int))))], [], []⟩)
          else some (.norm, ⟨[(2, .d (DV.sl (ints l) l.length 1 c3 nl3)), (7, .d (iD m)), (8, .d (DV.sl (edD F) F.length 2 false false)), (9, .d (DV.sl [] 0 1 false true)), (10, .d (iD (2 - (k : Int))))], [], []⟩)) →
        LoopAt aeC (evR9 n E c nl m F tabT tabF) 9 0 Try.f9 0 (s9 m F (lstX l c3 nl3) (ints x) x.length c2 nl2 (2 - ((k + 1 : Nat) : Int))) (.exit 0) ⟨[], [], []⟩ := by
      generalize decide (Int.tmod (l.length : Int) 2 = 0) = b
      intro hres
      cases hs : (srS m F b true m.toNat []).1 with
      | none =>
        have : tabF.is m (edD F) b = false := by simp only [tabF, unE_ed, hs]; rfl
        rw [this] at hres
        exact .next k9_0 hres (l9 n E c nl m F hF l c3 nl3 k [] false true (by omega) (by simp) (fun _ => rfl))
      | some o =>
        have e1 : tabF.is m (edD F) b = true := by simp only [tabF, unE_ed, hs]; rfl
        have e2 : tabF.cs m (edD F) b = ints o := by simp only [tabF, unE_ed, hs]; rfl
        have e3 : tabF.len m (edD F) b = o.length := by simp only [tabF, unE_ed, hs]; rfl
        rw [e1, e2, e3] at hres
        have := grac_len (srS_some hs)
        exact .next k9_0 hres (l9 n E c nl m F hF l c3 nl3 k o false false (by omega) (by omega) (by simp))
    cases hgr : gracB m F x with
    | false =>
      have e : tabT.G m (edD F) (ints x) = false := by simp only [tabT, unE_ed, unI_ints, hgr]
      simp only [e, cond_true, cond_false, hsame, Bool.not_true, Bool.not_false] at res
      exact next res
    | true =>
      have e : tabT.G m (edD F) (ints x) = true := by simp only [tabT, unE_ed, unI_ints, hgr]
      obtain ⟨a1, a2, a3, a4, a5, a6, a7⟩ := gradh hF hgr
      have g3 : okV (edD F) F.length (ints x) x.length = true := isP_iff.2 ⟨isE_ed F, isI_ints x, len_ints x, by rw [unE_ed]; exact a3, a7, by rw [unI_ints]; exact a2.mono a7, by omega, by omega⟩
      have g4 : isP (isI (tabT.tu (edD F) (ints x)) = true ∧ (tabT.tu (edD F) (ints x)).length = x.length ∧ tabT.tu (edD F) (ints x) = tabT.tu (edD F) (ints x) ∧ x.length = x.length ∧ x.length ≤ 100) = true := by
        refine isP_iff.2 ⟨?_, ?_, rfl, rfl, by omega⟩
        · simp only [tabT]; exact isI_ints _
        · simp only [tabT, unE_ed, unI_ints, len_ints]; simp [turnL]
      rw [g3, g4] at res
      cases hp : tabT.pI (edD F) (ints x) with
      | true =>
        simp only [e, hp, cond_true, cond_false, hsame, hsameI, Bool.not_true, Bool.not_false] at res
        exact next res
      | false =>
        simp only [e, hp, cond_true, cond_false, hsame, hsameI, Bool.not_true, Bool.not_false] at res
        exact next res

theorem law9 (n : Int) (E : List (Int × Int)) (c nl : Bool) (l : List Int) (c2 nl2 : Bool) (hE : E.length < 9223372036854775808) : PureOK Try.prog 9 [iD n, edgX E c nl, lstX l c2 nl2] (bD true) := by
  obtain ⟨m, F, hF, ht⟩ := tame_ok n E c nl hE
  have hev : EvOK Try.prog (evR9 n E c nl m F tabT tabF) := EvOK.add (EvOK.add (EvOK.add (EvOK.add (EvOK.add (EvOK.add (EvOK.add (EvOK.add (EvOK.add (EvOK.add (EvOK.add EvOK.nil (sp13_ok ht)) sp14_ok) sp36_ok) sp37_ok) sp38_ok) sp16u_ok) sp39u_ok) sp40u_ok) sp23s_ok) sp19u_ok) sp20_ok
  refine ae_pure hev (fn := Try.f9) k9 (by kernel_rfl) (by kernel_rfl) ?_
  have h0 := r9 n E c nl m F tabT tabF l c2 nl2
  have ha : isAt (n, edD E, E.length, c, nl, (10 : Int)) (n, edD E, E.length, c, nl, tenI) = true := isAt_iff.2 rfl
  have hb : (isI (ints l) && (Nat.beq (ints l).length l.length && true)) = true := by rw [isI_ints, len_ints, Nat.beq_refl]; rfl
  rw [ha, hb, unI_ints, Bool.or_true, cond_true, cond_true, cond_true, Go.AE.lenOf_1, len_ints] at h0
  exact startF_one k9 done_plain h0 (l9 n E c nl m F hF l c2 nl2 2 (l.take 10) false (true && Nat.beq (l.take 10).length 0) (by omega) (by rw [List.length_take]; omega) (fun h => List.length_eq_zero_iff.1 (Nat.eq_of_beq_eq_true (by simpa using h)))) (r9_x ..)
end Go.Proofs.Ytkcdbndpcabelaa
