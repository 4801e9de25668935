/- Part 5 of what the law stands on: the abstract machine over the model, and what the functions answer. No condition. -/
import Derived.Test.YtkcdbndpcabelaaM4
set_option linter.unusedSimpArgs false
set_option linter.unusedVariables false

/- Chapter 02: whether marks are a ruler, and the first ruler that begins with them: the program's functions. -/
namespace Go.Proofs.Ytkcdbndpcabelaa
open Go Go.AE

noncomputable def s51 (cs : List DV) (n : Nat) (c nl : Bool) (i : Int) (h : List Blk) : St := ⟨[(0, .d (DV.sl cs n 1 c nl)), (3, AV.ref 0 0), (4, AV.fn 62 [AV.ref 0 0] []), (25, .d (DV.sl cs n 1 c nl)), (26, .d (iD n)), (27, .d (iD i))], h, []⟩
noncomputable def h51 (ms : List DV) (ds : List Bool) : List Blk := [.ac (.grow 1 1 false :: diffsA ds), .dc ms]

theorem k51 : OkSeg Try.f51 none [0] := ⟨by kernel_rfl, by kernel_rfl, by decide⟩
theorem k51_0 : OkSeg Try.f51 (some 0) [] := ⟨by kernel_rfl, by kernel_rfl, by decide⟩

theorem r51 (cs : List DV) (n : Nat) (c nl : Bool) : startS aeC ev6 51 0 Try.f51 none ⟨envOf 0 ([DV.sl cs n 1 c nl].map .d), [], []⟩ (heldD aeC 51 0) =
  bif decide ((n : Int) < 2) then none else bif decide (7 < (n : Int)) then none else bif inRange 0 n then getI (nth cs 0) fun x0 => bif !decide (x0 = 0) then none else some (0, s51 cs n c nl 0 [.dc (nilS1 :: bools noDiffs)]) else none := by kernel_rfl

theorem r51_d (cs : List DV) (n : Nat) (c nl : Bool) : startS aeC ev6 51 0 Try.f51 none ⟨envOf 0 ([DV.sl cs n 1 c nl].map .d), [], []⟩ (doneE aeC Try.f51 0 fun v h => freezeV h 4 v) =
  bif decide ((n : Int) < 2) then some .nilp else bif decide (7 < (n : Int)) then some .nilp else bif inRange 0 n then getI (nth cs 0) fun x0 => bif !decide (x0 = 0) then some .nilp else none else none := by kernel_rfl

theorem r51_0a (cs : List DV) (n : Nat) (c nl : Bool) : startS aeC ev6 51 0 Try.f51 (some 0) (s51 cs n c nl 0 [.dc (nilS1 :: bools noDiffs)]) (roundD aeC 51 0 0) =
  bif decide (0 < (n : Int)) then bif inRange 0 n then getI (nth cs 0) fun x0 => bif decide (25 < x0) then some (.ret, ⟨[(2, .d .nilp)], [], []⟩) else some (.norm, s51 cs n c nl (IntKind.wrap .i64 (0 + 1)) (h51 [iD x0] noDiffs)) else none
  else some (.exit 0, ⟨[(3, AV.ref 0 0)], [.dc (nilS1 :: bools noDiffs)], []⟩) := by kernel_rfl

theorem r51_0 (cs : List DV) (n : Nat) (c nl : Bool) (i : Int) (ms : List DV) (ds : List Bool) (hd : ds.length = 26) (hi : decide (0 < i) = true) : startS aeC ev6 51 0 Try.f51 (some 0) (s51 cs n c nl i (h51 ms ds)) (roundD aeC 51 0 0) =
  bif decide (i < (n : Int)) then
    bif inRange i n then
      getI (nth cs (Int.toNat i * 1)) fun x0 =>
        bif inRange (IntKind.wrap IntKind.i64 (i - 1)) n then
          getI (nth cs (Int.toNat (IntKind.wrap IntKind.i64 (i - 1)) * 1)) fun x1 =>
          bif decide (x0 ≤ x1) then some (.ret, ⟨[(2, .d .nilp)], [], []⟩)
          else bif decide (25 < x0) then some (.ret, ⟨[(2, .d .nilp)], [], []⟩)
          else bif ok62 ms x0 (diffsA ds) then
              bif (ad62 ms x0 (diffsA ds)).isSome then some (.norm, s51 cs n c nl (IntKind.wrap .i64 (i + 1)) [.ac (.grow 1 1 false :: expl fun i => ((ad62 ms x0 (diffsA ds)).getD []).getD i false), .dc (ms ++ [iD x0])])
              else some (.ret, ⟨[(2, .d .nilp)], [], []⟩)
            else none
        else none
    else none
  else some (.exit 0, ⟨[(3, AV.ref 0 0)], h51 ms ds, []⟩) := by
  have key : startS aeC ev6 51 0 Try.f51 (some 0) (s51 cs n c nl i (h51 ms ds)) (roundD aeC 51 0 0) =
    bif decide (i < (n : Int)) then
      bif inRange i n then
        getI (nth cs (Int.toNat i * 1)) fun x0 =>
          bif decide (0 < i) then
            bif inRange (IntKind.wrap IntKind.i64 (i - 1)) n then
            getI (nth cs (Int.toNat (IntKind.wrap IntKind.i64 (i - 1)) * 1)) fun x1 =>
            bif decide (x0 ≤ x1) then some (.ret, ⟨[(2, .d .nilp)], [], []⟩)
            else bif decide (25 < x0) then some (.ret, ⟨[(2, .d .nilp)], [], []⟩)
            else bif ok62 ms x0 (diffsA ds) then
                bif (ad62 ms x0 (diffsA ds)).isSome then some (.norm, s51 cs n c nl (IntKind.wrap .i64 (i + 1)) [.ac (.grow 1 1 false :: expl fun i => ((ad62 ms x0 (diffsA ds)).getD []).getD i false), .dc (ms ++ [iD x0])])
                else some (.ret, ⟨[(2, .d .nilp)], [], []⟩)
              else none
            else none
          else bif decide (25 < x0) then some (.ret, ⟨[(2, .d .nilp)], [], []⟩)
            else bif ok62 ms x0 (diffsA ds) then
                bif (ad62 ms x0 (diffsA ds)).isSome then some (.norm, s51 cs n c nl (IntKind.wrap .i64 (i + 1)) [.ac (.grow 1 1 false :: expl fun i => ((ad62 ms x0 (diffsA ds)).getD []).getD i false), .dc (ms ++ [iD x0])])
                else some (.ret, ⟨[(2, .d .nilp)], [], []⟩)
              else none
      else none
    else some (.exit 0, ⟨[(3, AV.ref 0 0)], h51 ms ds, []⟩) := by
    obtain ⟨b0, b1, b2, b3, b4, b5, b6, b7, b8, b9, b10, b11, b12, b13, b14, b15, b16, b17, b18, b19, b20, b21, b22, b23, b24, b25, rfl⟩ := len26 hd
    kernel_rfl
  rw [key, hi]
  simp only [cond_true]

theorem r51_x (ms : List DV) (ds : List Bool) (hd : ds.length = 26) : nextS aeC ev6 51 0 Try.f51 none 0 (.exit 0) ⟨[(3, AV.ref 0 0)], h51 ms ds, []⟩ (doneE aeC Try.f51 0 fun v h => freezeV h 4 v) =
  some (.ptr (.sl ms (lenOf 1 ms.length) 1 false (!false && Nat.beq ms.length 0) :: bools ds) 0) := by
  obtain ⟨b0, b1, b2, b3, b4, b5, b6, b7, b8, b9, b10, b11, b12, b13, b14, b15, b16, b17, b18, b19, b20, b21, b22, b23, b24, b25, rfl⟩ := len26 hd
  kernel_rfl
theorem r51_xr : nextS aeC ev6 51 0 Try.f51 none 0 .ret ⟨[(2, .d .nilp)], [], []⟩ (doneE aeC Try.f51 0 fun v h => freezeV h 4 v) = some .nilp := by kernel_rfl

theorem getLastD_take {l : List Int} {i : Nat} (h0 : 1 ≤ i) (h1 : i ≤ l.length) : lastI (l.take i) = l.getD (i - 1) 0 := by
  unfold lastI
  rw [List.getLastD_eq_getLast?, List.getLast?_eq_getElem?, List.length_take, Nat.min_eq_left h1]
  simp [List.getElem?_take, show i - 1 < i by omega]

theorem l51 (l : List Int) (c nl : Bool) (hl : l.length ≤ 7) : ∀ (r : List Int) (i : Nat) (ds : List Bool), ds.length = 26 → 1 ≤ i → l.drop i = r → (∀ x ∈ l.take i, markOK x) → lastI (l.take i) ≤ 25 →
      LoopAt aeC ev6 51 0 Try.f51 0 (s51 (ints l) l.length c nl i (h51 (ints (l.take i)) ds)) (match begS (l.take i) r ds with | some _ => .exit 0 | none => .ret)
        (match begS (l.take i) r ds with | some ds' => ⟨[(3, AV.ref 0 0)], h51 (ints l) ds', []⟩ | none => ⟨[(2, .d .nilp)], [], []⟩)
  | [], i, ds, hn, hi, hr, hm, hm2 => by
    have h1 := drop_nil_o hr
    refine .out k51_0 (by simp [begS]) ((r51_0 _ _ _ _ _ _ ds hn (by simp; omega)).trans ?_)
    simp (disch := omega) only [cnd_pos, cnd_neg, inR_pos, ble_pos, blt_pos, beq_pos, cond_and, cond_or, Bool.cond_not, cond_true, cond_false, Bool.and_true, Bool.true_and, getI_some, getB_some, nth_ints_o, nth_bools_o, wrap64_o, len_ints, len_bools, lenOf_1, Int.toNat_natCast, Nat.mul_one, Nat.zero_add, setNth_bools_o, setNth_ints_o, len_set_i, len_set_b, Option.bind_some, List.length_append, List.length_cons, List.length_nil, unI_ints, unB_bools, ints_app1, bools_app1, nth_pr1, nth_pr2, len_prs, abs_if, Nat.add_zero, cond_same]
    rw [List.take_of_length_le h1]
    rfl
  | x :: r, i, ds, hn, hi, hr, hm, hm2 => by
    obtain ⟨h1, h2, h3⟩ := drop_cons_o (d := 0) hr
    have hlast := getLastD_take (l := l) hi (by omega)
    have res := r51_0 (ints l) l.length c nl i (ints (l.take i)) ds hn (by simp; omega)
    revert res
    simp (disch := omega) only [cnd_pos, cnd_neg, inR_pos, ble_pos, blt_pos, beq_pos, cond_and, cond_or, Bool.cond_not, cond_true, cond_false, Bool.and_true, Bool.true_and, getI_some, getB_some, nth_ints_o, nth_bools_o, wrap64_o, len_ints, len_bools, lenOf_1, Int.toNat_natCast, Nat.mul_one, Nat.zero_add, setNth_bools_o, setNth_ints_o, len_set_i, len_set_b, Option.bind_some, List.length_append, List.length_cons, List.length_nil, unI_ints, unB_bools, ints_app1, bools_app1, nth_pr1, nth_pr2, len_prs, abs_if, Nat.add_zero, cond_same, show ((i : Int) - 1).toNat = i - 1 by omega]
    rw [h2]
    intro res
    simp only [begS, hlast]
    by_cases c1 : x ≤ l.getD (i - 1) 0
    · rw [if_pos c1]
      rw [cnd_pos c1] at res
      exact .out k51_0 (by simp) res
    rw [cnd_neg c1] at res
    rw [if_neg c1]
    by_cases c2 : 25 < x
    · rw [if_pos c2]
      rw [cnd_pos c2] at res
      exact .out k51_0 (by simp) res
    rw [cnd_neg c2] at res
    rw [if_neg c2]
    have hx : markOK x := by
      have hq : l.getD (i - 1) 0 ∈ l.take i := by
        rw [← getD_take_o (show i - 1 < i by omega)]
        have : i - 1 < (l.take i).length := by rw [List.length_take]; omega
        rw [List.getD_eq_getElem?_getD, List.getElem?_eq_getElem this]
        exact List.getElem_mem this
      have := hm _ hq
      exact ⟨by have := this.1; omega, by omega⟩
    have hok : ok62 (ints (l.take i)) x (diffsA ds) = true := by
      simp only [ok62, isI_ints, len_ints, unI_ints, isA_diffs, length_diffs, hn, Nat.beq_refl, Bool.true_and, Bool.and_true, Bool.and_eq_true, List.all_eq_true, okM_iff, Nat.blt_eq]
      exact ⟨by rw [List.length_take]; omega, hx, hm⟩
    have had : ad62 (ints (l.take i)) x (diffsA ds) = addS (l.take i) x ds := by simp only [ad62, unI_ints, unA_diffs]
    rw [hok, had] at res
    simp only [cond_true] at res
    cases ha : addS (l.take i) x ds with
    | none =>
      rw [ha] at res
      exact .out k51_0 (by simp) res
    | some ds' =>
      rw [ha] at res
      have hd' := (addS_length ha).trans hn
      have htk : l.take i ++ [x] = l.take (i + 1) := by
        rw [List.take_add_one, ← h2]; simp [h1]
      simp only [Option.isSome_some, cond_true, Option.getD_some, expl_eq hd', htk] at res
      simp only [htk]
      refine .next k51_0 res ?_
      refine l51 l c nl hl r (i + 1) ds' hd' (by omega) h3 ?_ ?_
      · rw [← htk]
        intro y hy
        rcases List.mem_append.1 hy with hy | hy
        · exact hm y hy
        · simp at hy; subst hy; exact hx
      · rw [← htk, lastI_append]; omega

/-- The differences of marks that are a ruler. -/
def begR (l : List Int) : Option (List Bool) := if 2 ≤ l.length ∧ l.length ≤ 7 ∧ l.getD 0 0 = 0 then begS [0] l.tail noDiffs else none

theorem begR_ruler (l : List Int) : (begR l).isSome = rulerB l := by
  unfold begR rulerB
  by_cases h1 : 2 ≤ l.length <;> by_cases h2 : l.length ≤ 7 <;> by_cases h3 : l.getD 0 0 = 0 <;> simp only [h1, h2, h3, and_self, and_false, false_and, if_true, if_false, decide_true, decide_false, Bool.true_and, Bool.false_and] <;> rfl

theorem begS_length : ∀ (r p : List Int) (ds ds' : List Bool), begS p r ds = some ds' → ds'.length = ds.length
  | [], p, ds, ds', h => by simp only [begS, Option.some.injEq] at h; rw [h]
  | m :: r, p, ds, ds', h => by
    simp only [begS] at h
    split at h
    · cases h
    split at h
    · cases h
    cases ha : addS p m ds with
    | none => rw [ha] at h; cases h
    | some d1 => rw [ha] at h; rw [begS_length r _ _ _ h, addS_length ha]

theorem begR_length {l : List Int} {ds : List Bool} (h : begR l = some ds) : ds.length = 26 := by
  unfold begR at h
  split at h
  · exact begS_length _ _ _ _ h
  · cases h

def begD (l : List Int) : DV := match begR l with
  | some ds => .ptr (.sl (ints l) l.length 1 false false :: bools ds) 0
  | none => .nilp

theorem begun_ok (l : List Int) (c nl : Bool) : PureOK Try.prog 51 [.sl (ints l) l.length 1 c nl] (begD l) := by
  refine ae_pure ev6_ok (fn := Try.f51) k51 (by kernel_rfl) (by kernel_rfl) ?_
  have res := r51_d (ints l) l.length c nl
  have resh := r51 (ints l) l.length c nl
  unfold begD begR
  by_cases h1 : 2 ≤ l.length
  rotate_left
  · rw [cnd_pos (by omega)] at res
    rw [if_neg (by omega)]
    exact startF_done k51 done_plain res
  by_cases h2 : l.length ≤ 7
  rotate_left
  · rw [cnd_neg (by omega), cnd_pos (by omega)] at res
    rw [if_neg (by omega)]
    exact startF_done k51 done_plain res
  revert res resh
  simp (disch := omega) only [cnd_pos, cnd_neg, inR_pos, ble_pos, blt_pos, beq_pos, cond_and, cond_or, Bool.cond_not, cond_true, cond_false, Bool.and_true, Bool.true_and, getI_some, getB_some, nth_ints_o, nth_bools_o, wrap64_o, len_ints, len_bools, lenOf_1, Int.toNat_natCast, Nat.mul_one, Nat.zero_add, setNth_bools_o, setNth_ints_o, len_set_i, len_set_b, Option.bind_some, List.length_append, List.length_cons, List.length_nil, unI_ints, unB_bools, ints_app1, bools_app1, nth_pr1, nth_pr2, len_prs, abs_if, Nat.add_zero, cond_same]
  intro res resh
  by_cases h3 : l.getD 0 0 = 0
  rotate_left
  · rw [cnd_neg h3] at res
    rw [if_neg (fun h => h3 h.2.2)]
    exact startF_done k51 done_plain res
  rw [cnd_pos h3] at resh
  rw [if_pos ⟨h1, h2, h3⟩]
  have ht : l.take 1 = [0] := by
    cases l with
    | nil => simp at h1
    | cons x r => simp at h3; subst h3; rfl
  have first := r51_0a (ints l) l.length c nl
  revert first
  simp (disch := omega) only [cnd_pos, cnd_neg, inR_pos, ble_pos, blt_pos, beq_pos, cond_and, cond_or, Bool.cond_not, cond_true, cond_false, Bool.and_true, Bool.true_and, getI_some, getB_some, nth_ints_o, nth_bools_o, wrap64_o, len_ints, len_bools, lenOf_1, Int.toNat_natCast, Nat.mul_one, Nat.zero_add, setNth_bools_o, setNth_ints_o, len_set_i, len_set_b, Option.bind_some, List.length_append, List.length_cons, List.length_nil, unI_ints, unB_bools, ints_app1, bools_app1, nth_pr1, nth_pr2, len_prs, abs_if, Nat.add_zero, cond_same]
  rw [h3]
  intro first
  have loop := l51 l c nl h2 l.tail 1 noDiffs rfl (by omega) (by rw [← List.drop_one]) (by rw [ht]; intro x hx; simp at hx; subst hx; exact ⟨by omega, by omega⟩) (by rw [ht]; decide)
  rw [ht] at loop
  have loop0 := LoopAt.next k51_0 first loop
  rw [startF_seg k51 resh loop0]
  refine nextF_done k51 done_plain ?_
  cases hb : begS [0] l.tail noDiffs with
  | none => exact r51_xr
  | some ds =>
    refine (r51_x (ints l) ds (begS_length _ _ _ _ hb)).trans ?_
    rw [len_ints, show Nat.beq l.length 0 = false by cases l with
      | nil => simp at h1
      | cons x r => rfl]
    rfl

def sp51 : List DV → Tr DV
  | [.sl cs n 1 _ _] => .node (isI cs && Nat.beq cs.length n) (.node (begR (unI cs)).isSome (.leaf (.ptr (.sl cs n 1 false false :: explD fun i => ((begR (unI cs)).getD []).getD i false) 0)) (.leaf .nilp)) .fail
  | _ => .fail
theorem sp51_ok : ∀ ds d, (sp51 ds).val = some d → PureOK Try.prog 51 ds d := by
  intro ds d h
  unfold sp51 at h
  split at h
  · rename_i cs n c nl
    simp only [Tr.val] at h
    obtain ⟨hg, h2⟩ := cond_none h
    simp only [Bool.and_eq_true] at hg
    obtain ⟨l, rfl⟩ := isI_iff.1 hg.1
    have hn := Nat.eq_of_beq_eq_true hg.2
    rw [len_ints] at hn
    subst hn
    rw [unI_ints] at h2
    have := begun_ok l c nl
    unfold begD at this
    cases hb : begR l with
    | none => rw [hb] at h2 this; cases h2; exact this
    | some ds =>
      rw [hb] at h2 this
      simp only [Option.isSome_some, cond_true, Option.getD_some, explD_eq (begR_length hb)] at h2
      cases h2; exact this
  · cases h

/-! ### 'IsRuler' and 'Extend' -/
def evI : Ev := ev6.add 51 sp51
theorem evI_ok : EvOK Try.prog evI := EvOK.add ev6_ok sp51_ok
theorem k25 : OkSeg Try.f25 none [] := ⟨by kernel_rfl, by kernel_rfl, by decide⟩
theorem k26 : OkSeg Try.f26 none [] := ⟨by kernel_rfl, by kernel_rfl, by decide⟩

theorem r25 (cs : List DV) (n : Nat) (c nl : Bool) : startS aeC evI 25 0 Try.f25 none ⟨envOf 0 ([DV.sl cs n 1 c nl].map .d), [], []⟩ (doneE aeC Try.f25 0 fun v h => freezeV h 4 v) =
  bif isI cs && Nat.beq cs.length n then bif (begR (unI cs)).isSome then some (.tup [bD true, iD 0]) else some (.tup [bD false, iD 0]) else none := by kernel_rfl

def sp25 : List DV → Tr DV
  | [.sl cs n 1 _ _] => .node (isI cs && Nat.beq cs.length n) (.leaf (.tup [bD (rulerB (unI cs)), iD 0])) .fail
  | _ => .fail
theorem sp25_ok : ∀ ds d, (sp25 ds).val = some d → PureOK Try.prog 25 ds d := by
  intro ds d h
  unfold sp25 at h
  split at h
  · rename_i cs n c nl
    simp only [Tr.val] at h
    obtain ⟨hg, h2⟩ := cond_none h
    cases h2
    refine ae_pure evI_ok (fn := Try.f25) k25 (by kernel_rfl) (by kernel_rfl) (startF_done k25 done_plain ?_)
    rw [r25, hg, ← begR_ruler]
    cases (begR (unI cs)).isSome <;> rfl
  · cases h

noncomputable def evG (f : Nat) : Ev := evI.add 50 (sp50 f)
theorem evG_ok (f : Nat) : EvOK Try.prog (evG f) := EvOK.add evI_ok (sp50_ok f)

theorem r26 (f : Nat) (cs : List DV) (n : Nat) (c nl : Bool) (many : Int) : startS aeC (evG f) 26 0 Try.f26 none ⟨envOf 0 ([DV.sl cs n 1 c nl, iD many].map .d), [], []⟩ (doneE aeC Try.f26 0 fun v h => freezeV h 4 v) =
  bif isI cs && Nat.beq cs.length n then bif (begR (unI cs)).isSome then
      bif decide (many < 2) then some (.tup [nilS1, bD false, iD 1])
      else bif decide (7 < many) then some (.tup [nilS1, bD false, iD 1])
      else bif decide (many < (n : Int)) then some (.tup [nilS1, bD false, iD 0])
      else bif okG f cs n (explD fun i => ((begR (unI cs)).getD []).getD i false) 25 then
        bif (outG f cs (explD fun i => ((begR (unI cs)).getD []).getD i false) many 25).isSome then
          some (.tup [.sl (ints ((outG f cs (explD fun i => ((begR (unI cs)).getD []).getD i false) many 25).getD [])) ((outG f cs (explD fun i => ((begR (unI cs)).getD []).getD i false) many 25).getD []).length 1 false false, bD true, iD 0])
        else some (.tup [.sl [] 0 1 false true, bD false, iD 0])
      else none
    else some (.tup [nilS1, bD false, iD 1]) else none := by kernel_rfl

def sp26 : List DV → Tr DV
  | [.sl cs n 1 _ _, .int .i64 many] => .node (isI cs && Nat.beq cs.length n) (.node (rulerB (unI cs)) (.node (decide (many < 2)) (.leaf (.tup [nilS1, bD false, iD 1]))
      (.node (decide (7 < many)) (.leaf (.tup [nilS1, bD false, iD 1])) (.node (decide (many < (n : Int))) (.leaf (.tup [nilS1, bD false, iD 0])) (.node (extS many 25 8 (unI cs)).isSome
        (.leaf (.tup [.sl (ints ((extS many 25 8 (unI cs)).getD [])) ((extS many 25 8 (unI cs)).getD []).length 1 false false, bD true, iD 0])) (.leaf (.tup [.sl [] 0 1 false true, bD false, iD 0])))))) (.leaf (.tup [nilS1, bD false, iD 1]))) .fail
  | _ => .fail

theorem begR_beg {l : List Int} {ds : List Bool} (h : begR l = some ds) : Beg l ds := by
  unfold begR at h
  split at h
  · rename_i hc; exact ⟨hc.2.2, by omega, h⟩
  · cases h

theorem begS_mem : ∀ (r p : List Int) (ds : List Bool), (begS p r ds).isSome = true → (∀ x ∈ p, markOK x) → 0 ≤ lastI p → ∀ x ∈ p ++ r, markOK x
  | [], p, ds, h, hm, h0 => by simpa using hm
  | m :: r, p, ds, h, hm, h0 => by
    simp only [begS] at h
    split at h
    · cases h
    split at h
    · cases h
    cases ha : addS p m ds with
    | none => rw [ha] at h; cases h
    | some d1 =>
      rw [ha] at h
      have := begS_mem r (p ++ [m]) d1 h (by
        intro x hx
        rcases List.mem_append.1 hx with hx | hx
        · exact hm x hx
        · simp at hx; subst hx; exact ⟨by omega, by omega⟩) (by rw [lastI_append]; omega)
      simpa using this

theorem sp26_ok : ∀ ds d, (sp26 ds).val = some d → PureOK Try.prog 26 ds d := by
  intro ds d h
  unfold sp26 at h
  split at h
  · rename_i cs n c nl many
    simp only [Tr.val] at h
    obtain ⟨hg, h2⟩ := cond_none h
    clear h
    refine ae_pure (evG_ok 26) (fn := Try.f26) k26 (by kernel_rfl) (by kernel_rfl) (startF_done k26 done_plain ?_)
    rw [r26, hg, cond_true]
    simp only [Bool.and_eq_true] at hg
    obtain ⟨l, rfl⟩ := isI_iff.1 hg.1
    have hn := Nat.eq_of_beq_eq_true hg.2
    rw [len_ints] at hn
    subst hn
    rw [unI_ints] at h2 ⊢
    rw [← begR_ruler] at h2
    cases hb : begR l with
    | none => rw [hb] at h2; exact h2
    | some ds =>
      rw [hb] at h2
      simp only [Option.isSome_some, cond_true, Option.getD_some, explD_eq (begR_length hb)] at h2 ⊢
      by_cases c1 : many < 2
      · rw [cnd_pos c1] at h2 ⊢; exact h2
      rw [cnd_neg c1] at h2 ⊢
      by_cases c2 : 7 < many
      · rw [cnd_pos c2] at h2 ⊢; exact h2
      rw [cnd_neg c2] at h2 ⊢
      by_cases c3 : many < (l.length : Int)
      · rw [cnd_pos c3] at h2 ⊢; exact h2
      rw [cnd_neg c3] at h2 ⊢
      have hbeg := begR_beg hb
      have hlast := hbeg.last
      have hmem : ∀ x ∈ l, markOK x := by
        have := begS_mem l.tail [0] noDiffs (by rw [hbeg.2.2]; rfl) (by intro x hx; simp at hx; subst hx; exact ⟨by omega, by omega⟩) (by decide)
        rw [hbeg.cons] at this
        exact this
      have hok : okG 26 (ints l) l.length (bools ds) 25 = true := by
        have := hbeg.2.1
        simp only [okG, isI_ints, isB_bools, length_bools, unI_ints, begR_length hb, Nat.beq_refl, len_ints, Bool.true_and, Bool.and_eq_true, List.all_eq_true, okM_iff, Nat.blt_eq, decide_eq_true_eq]
        exact ⟨by omega, hmem, by omega, by omega, by omega, by omega⟩
      have hout : outG 26 (ints l) (bools ds) many 25 = extS many 25 8 l := by
        simp only [outG, unI_ints, unB_bools]
        exact grow_ext many 25 (by omega) (by omega) 8 26 l ds hbeg (by omega) (by omega) (by omega) (by have := hbeg.2.1; omega)
      rw [hok, hout, cond_true]
      exact h2
  · cases h
end Go.Proofs.Ytkcdbndpcabelaa

/- Chapter 02: the law on rulers, on data. -/
namespace Go.Proofs.Ytkcdbndpcabelaa
open Go Go.AE

def sp14 : List DV → Tr DV
  | [.sl cs n 1 _ _, .int .i64 most] => .node (isI cs && (Nat.beq cs.length n && (decide (0 ≤ most) && decide (most ≤ 1000)))) (.leaf (.sl (ints ((unI cs).take most.toNat)) (lenOf 1 (ints ((unI cs).take most.toNat)).length) 1 false (true && Nat.beq (ints ((unI cs).take most.toNat)).length 0))) .fail
  | _ => .fail
noncomputable def evR5 : Ev := (((((((Ev.nil.add 14 sp14).add 20 sp20).add 22 sp22).add 23 sp23).add 25 sp25).add 26 sp26).add 27 (sp27 8))
/-- A row as data. -/
noncomputable def rowX (c nl : Bool) (x : List Int) : DV := .sl (ints x) (lenOf 1 (ints x).length) 1 c nl
/-- A row that is built: in a block of its own, or data so far. -/
noncomputable def rowV (own : Bool) (x : List DV) : AV := bif own then .grow 0 1 false else .d (.sl x (lenOf 1 x.length) 1 true false)
noncomputable def rowH (own : Bool) (x : List DV) : List Blk := bif own then [.dc x] else []
noncomputable def s5 (c nl : Bool) (x : List Int) (many r : Int) : St := ⟨[(1, .d (iD many)), (5, .d (rowX c nl x)), (6, .d (iD r))], [], []⟩
noncomputable def t5 (c nl : Bool) (x : List Int) (many r : Int) (own : Bool) (nx : List DV) (i : Int) : St := ⟨[(1, .d (iD many)), (5, .d (rowX c nl x)), (6, .d (iD r)), (14, rowV own nx), (15, .d (iD i))], rowH own nx, []⟩
noncomputable def x5 (many r : Int) (own : Bool) (nx : List DV) : St := ⟨[(1, .d (iD many)), (6, .d (iD r)), (14, rowV own nx)], rowH own nx, []⟩

theorem k14 : OkSeg Try.f14 none [] := ⟨by kernel_rfl, by kernel_rfl, by decide⟩
theorem ints_take (l : List Int) (k : Nat) : (ints l).take k = ints (l.take k) := by simp [ints, List.map_take]

theorem r14 (cs : List DV) (n : Nat) (c nl : Bool) (most : Int) : startS aeC Ev.nil 14 0 Try.f14 none ⟨envOf 0 ([DV.sl cs n 1 c nl, iD most].map .d), [], []⟩ (doneE aeC Try.f14 0 fun v h => freezeV h 4 v) =
  bif nl || true then
    bif decide (0 ≤ if most < (n : Int) then most else (n : Int)) && decide ((if most < (n : Int) then most else (n : Int)) ≤ (n : Int)) then
      bif nl || true then
        bif Nat.ble (Int.toNat (if most < (n : Int) then most else (n : Int)) - 0) 1048576 then
          some (DV.sl (sub cs 0 ((Int.toNat (if most < (n : Int) then most else (n : Int)) - 0) * 1)) (lenOf 1 (List.length (sub cs 0 ((Int.toNat (if most < (n : Int) then most else (n : Int)) - 0) * 1)))) 1 false (true && Nat.beq (List.length (sub cs 0 ((Int.toNat (if most < (n : Int) then most else (n : Int)) - 0) * 1))) 0))
        else none
      else none
    else none
  else none := by kernel_rfl

theorem few_ok (l : List Int) (c nl : Bool) (most : Int) (h0 : 0 ≤ most) (hm : most ≤ 1000) :
    PureOK Try.prog 14 [.sl (ints l) l.length 1 c nl, iD most] (.sl (ints (l.take most.toNat)) (lenOf 1 (ints (l.take most.toNat)).length) 1 false (true && Nat.beq (ints (l.take most.toNat)).length 0)) := by
  refine ae_pure EvOK.nil (fn := Try.f14) k14 (by kernel_rfl) (by kernel_rfl) (startF_done k14 done_plain ?_)
  rw [r14]
  generalize hk : (if most < (l.length : Int) then most else (l.length : Int)) = k
  have h1 : 0 ≤ k ∧ k ≤ 1000 ∧ k ≤ l.length ∧ l.take k.toNat = l.take most.toNat := by
    split at hk
    · subst hk; exact ⟨h0, hm, by omega, rfl⟩
    · subst hk
      refine ⟨by omega, by omega, by omega, ?_⟩
      rw [List.take_of_length_le (by omega), List.take_of_length_le (by omega)]
  obtain ⟨g1, g2, g3, g4⟩ := h1
  rw [show sub (ints l) 0 ((k.toNat - 0) * 1) = ints (l.take most.toNat) by rw [← g4, ← ints_take]; simp [sub]]
  simp only [Bool.or_true, cond_true, decide_eq_true g1, decide_eq_true g3, Bool.and_self]
  rw [ble_pos (by omega)]

theorem sp14_ok : ∀ ds d, (sp14 ds).val = some d → PureOK Try.prog 14 ds d := by
  intro ds d h
  unfold sp14 at h
  split at h
  · rename_i cs n c nl most
    simp only [Tr.val] at h
    obtain ⟨hg, h2⟩ := cond_none h
    cases h2
    simp only [Bool.and_eq_true, decide_eq_true_eq] at hg
    obtain ⟨l, rfl⟩ := isI_iff.1 hg.1
    have hn := Nat.eq_of_beq_eq_true hg.2.1
    rw [len_ints] at hn
    subst hn
    rw [unI_ints]
    exact few_ok l c nl most hg.2.2.1 hg.2.2.2
  · cases h

theorem evR5_ok : EvOK Try.prog evR5 := EvOK.add (EvOK.add (EvOK.add (EvOK.add (EvOK.add (EvOK.add (EvOK.add EvOK.nil sp14_ok) sp20_ok) sp22_ok) sp23_ok) sp25_ok) sp26_ok) (sp27_ok 8).2

theorem k5 : OkSeg Try.f5 none [0] := ⟨by kernel_rfl, by kernel_rfl, by decide⟩
theorem k5_0 : OkSeg Try.f5 (some 0) [2] := ⟨by kernel_rfl, by kernel_rfl, by decide⟩
theorem k5_2 : OkSeg Try.f5 (some 2) [] := ⟨by kernel_rfl, by kernel_rfl, by decide⟩

theorem r5 (cs : List DV) (n : Nat) (c nl : Bool) (many : Int) : startS aeC evR5 5 0 Try.f5 none ⟨envOf 0 ([DV.sl cs n 1 c nl, iD many].map .d), [], []⟩ (heldD aeC 5 0) =
  bif isI cs && (Nat.beq (List.length cs) n && true) then
    bif true && Nat.beq (List.length (ints (List.take 9 (unI cs)))) 0 || true then
      some (0, ⟨[(1, .d (iD many)), (5, .d (DV.sl (ints (List.take 9 (unI cs))) (lenOf 1 (List.length (ints (List.take 9 (unI cs))))) 1 false (true && Nat.beq (List.length (ints (List.take 9 (unI cs)))) 0))), (6, .d (iD 0))], [], []⟩)
    else
      none
  else
    none := by kernel_rfl

theorem r5_0h (c nl : Bool) (x : List Int) (many r : Int) : startS aeC evR5 5 0 Try.f5 (some 0) (s5 c nl x many r) (heldD aeC 5 0) =
  bif decide (r < 2) then
    bif isI (ints x) && Nat.beq (List.length (ints x)) (lenOf 1 (List.length (ints x))) then
      bif isI (ints x) && Nat.beq (List.length (ints x)) (lenOf 1 (List.length (ints x))) then
        bif rulerB (unI (ints x)) then
          bif decide (many < 2) then
            bif isI (ints x) && (Nat.beq (List.length (ints x)) (lenOf 1 (List.length (ints x))) && Nat.blt (lenOf 1 (List.length (ints x))) 4611686018427387904) then
              bif !decide (rulerB (unI (ints x)) = rulerB (unI (ints x))) then
                none
              else
                bif !rulerB (unI (ints x)) then
                  some (2, ⟨[(1, .d (iD many)), (5, .d (DV.sl (ints x) (lenOf 1 (List.length (ints x))) 1 c nl)), (6, .d (iD r)), (14, .d (DV.sl [iD 0] 1 1 true false)), (15, .d (iD 0))], [], []⟩)
                else
                  bif decide (many < 2) then
                    some (2, ⟨[(1, .d (iD many)), (5, .d (DV.sl (ints x) (lenOf 1 (List.length (ints x))) 1 c nl)), (6, .d (iD r)), (14, .d (DV.sl [iD 0] 1 1 true false)), (15, .d (iD 0))], [], []⟩)
                  else
                    bif decide (7 < many) then
                      some (2, ⟨[(1, .d (iD many)), (5, .d (DV.sl (ints x) (lenOf 1 (List.length (ints x))) 1 c nl)), (6, .d (iD r)), (14, .d (DV.sl [iD 0] 1 1 true false)), (15, .d (iD 0))], [], []⟩)
                    else
                      bif extG 8 (ints x) (lenOf 1 (List.length (ints x))) nl many 25 then
                        bif Option.isSome (extS many 25 8 (unI (ints x))) then
                          none
                        else
                          none
                      else
                        none
            else
              none
          else
            bif decide (7 < many) then
              bif isI (ints x) && (Nat.beq (List.length (ints x)) (lenOf 1 (List.length (ints x))) && Nat.blt (lenOf 1 (List.length (ints x))) 4611686018427387904) then
                bif !decide (rulerB (unI (ints x)) = rulerB (unI (ints x))) then
                  none
                else
                  bif !rulerB (unI (ints x)) then
                    some (2, ⟨[(1, .d (iD many)), (5, .d (DV.sl (ints x) (lenOf 1 (List.length (ints x))) 1 c nl)), (6, .d (iD r)), (14, .d (DV.sl [iD 0] 1 1 true false)), (15, .d (iD 0))], [], []⟩)
                  else
                    bif decide (many < 2) then
                      some (2, ⟨[(1, .d (iD many)), (5, .d (DV.sl (ints x) (lenOf 1 (List.length (ints x))) 1 c nl)), (6, .d (iD r)), (14, .d (DV.sl [iD 0] 1 1 true false)), (15, .d (iD 0))], [], []⟩)
                    else
                      bif decide (7 < many) then
                        some (2, ⟨[(1, .d (iD many)), (5, .d (DV.sl (ints x) (lenOf 1 (List.length (ints x))) 1 c nl)), (6, .d (iD r)), (14, .d (DV.sl [iD 0] 1 1 true false)), (15, .d (iD 0))], [], []⟩)
                      else
                        bif extG 8 (ints x) (lenOf 1 (List.length (ints x))) nl many 25 then
                          bif Option.isSome (extS many 25 8 (unI (ints x))) then
                            none
                          else
                            none
                        else
                          none
              else
                none
            else
              bif decide (many < (↑(lenOf 1 (List.length (ints x))) : Int)) then
                bif isI (ints x) && (Nat.beq (List.length (ints x)) (lenOf 1 (List.length (ints x))) && Nat.blt (lenOf 1 (List.length (ints x))) 4611686018427387904) then
                  bif !decide (rulerB (unI (ints x)) = rulerB (unI (ints x))) then
                    none
                  else
                    bif !rulerB (unI (ints x)) then
                      none
                    else
                      bif decide (many < 2) then
                        none
                      else
                        bif decide (7 < many) then
                          none
                        else
                          bif extG 8 (ints x) (lenOf 1 (List.length (ints x))) nl many 25 then
                            bif Option.isSome (extS many 25 8 (unI (ints x))) then
                              none
                            else
                              some (2, ⟨[(1, .d (iD many)), (5, .d (DV.sl (ints x) (lenOf 1 (List.length (ints x))) 1 c nl)), (6, .d (iD r)), (14, .d (DV.sl [iD 0] 1 1 true false)), (15, .d (iD 0))], [], []⟩)
                          else
                            none
                else
                  none
              else
                bif Option.isSome (extS many 25 8 (unI (ints x))) then
                  bif isI (ints x) && (Nat.beq (List.length (ints x)) (lenOf 1 (List.length (ints x))) && Nat.blt (lenOf 1 (List.length (ints x))) 4611686018427387904) then
                    bif !decide (rulerB (unI (ints x)) = rulerB (unI (ints x))) then
                      none
                    else
                      bif !rulerB (unI (ints x)) then
                        none
                      else
                        bif decide (many < 2) then
                          none
                        else
                          bif decide (7 < many) then
                            none
                          else
                            bif extG 8 (ints x) (lenOf 1 (List.length (ints x))) nl many 25 then
                              bif Option.isSome (extS many 25 8 (unI (ints x))) then
                                bif isI (ints (Option.getD (extS many 25 8 (unI (ints x))) [])) && (isI (ints (Option.getD (extS many 25 8 (unI (ints x))) [])) && (Nat.beq (List.length (ints (Option.getD (extS many 25 8 (unI (ints x))) []))) (List.length (Option.getD (extS many 25 8 (unI (ints x))) [])) && (Nat.beq (List.length (ints (Option.getD (extS many 25 8 (unI (ints x))) []))) (List.length (Option.getD (extS many 25 8 (unI (ints x))) [])) && Nat.blt (List.length (Option.getD (extS many 25 8 (unI (ints x))) [])) 4611686018427387904))) then
                                  bif !decide (unI (ints (Option.getD (extS many 25 8 (unI (ints x))) [])) = unI (ints (Option.getD (extS many 25 8 (unI (ints x))) []))) then
                                    none
                                  else
                                    some (2, ⟨[(1, .d (iD many)), (5, .d (DV.sl (ints x) (lenOf 1 (List.length (ints x))) 1 c nl)), (6, .d (iD r)), (14, .d (DV.sl [iD 0] 1 1 true false)), (15, .d (iD 0))], [], []⟩)
                                else
                                  none
                              else
                                none
                            else
                              none
                  else
                    none
                else
                  bif isI (ints x) && (Nat.beq (List.length (ints x)) (lenOf 1 (List.length (ints x))) && Nat.blt (lenOf 1 (List.length (ints x))) 4611686018427387904) then
                    bif !decide (rulerB (unI (ints x)) = rulerB (unI (ints x))) then
                      none
                    else
                      bif !rulerB (unI (ints x)) then
                        none
                      else
                        bif decide (many < 2) then
                          none
                        else
                          bif decide (7 < many) then
                            none
                          else
                            bif extG 8 (ints x) (lenOf 1 (List.length (ints x))) nl many 25 then
                              bif Option.isSome (extS many 25 8 (unI (ints x))) then
                                none
                              else
                                some (2, ⟨[(1, .d (iD many)), (5, .d (DV.sl (ints x) (lenOf 1 (List.length (ints x))) 1 c nl)), (6, .d (iD r)), (14, .d (DV.sl [iD 0] 1 1 true false)), (15, .d (iD 0))], [], []⟩)
                            else
                              none
                  else
                    none
        else
          bif isI (ints x) && (Nat.beq (List.length (ints x)) (lenOf 1 (List.length (ints x))) && Nat.blt (lenOf 1 (List.length (ints x))) 4611686018427387904) then
            bif !decide (rulerB (unI (ints x)) = rulerB (unI (ints x))) then
              none
            else
              bif !rulerB (unI (ints x)) then
                some (2, ⟨[(1, .d (iD many)), (5, .d (DV.sl (ints x) (lenOf 1 (List.length (ints x))) 1 c nl)), (6, .d (iD r)), (14, .d (DV.sl [iD 0] 1 1 true false)), (15, .d (iD 0))], [], []⟩)
              else
                bif decide (many < 2) then
                  some (2, ⟨[(1, .d (iD many)), (5, .d (DV.sl (ints x) (lenOf 1 (List.length (ints x))) 1 c nl)), (6, .d (iD r)), (14, .d (DV.sl [iD 0] 1 1 true false)), (15, .d (iD 0))], [], []⟩)
                else
                  bif decide (7 < many) then
                    some (2, ⟨[(1, .d (iD many)), (5, .d (DV.sl (ints x) (lenOf 1 (List.length (ints x))) 1 c nl)), (6, .d (iD r)), (14, .d (DV.sl [iD 0] 1 1 true false)), (15, .d (iD 0))], [], []⟩)
                  else
                    bif extG 8 (ints x) (lenOf 1 (List.length (ints x))) nl many 25 then
                      bif Option.isSome (extS many 25 8 (unI (ints x))) then
                        none
                      else
                        none
                    else
                      none
          else
            none
      else
        none
    else
      none
  else
    none := by kernel_rfl

theorem r5_0x (c nl : Bool) (x : List Int) (many : Int) : startS aeC evR5 5 0 Try.f5 (some 0) (s5 c nl x many 2) (roundD aeC 5 0 0) =
  some (Ex.exit 0, ⟨[], [], []⟩) := by kernel_rfl

theorem r5_e  : nextS aeC evR5 5 0 Try.f5 none 0 (.exit 0) ⟨[], [], []⟩ (doneE aeC Try.f5 0 fun v h => freezeV h 4 v) =
  some (bD true) := by kernel_rfl

theorem r5_2 (c nl : Bool) (x : List Int) (many r : Int) (own : Bool) (nx : List DV) (i : Int) : startS aeC evR5 5 0 Try.f5 (some 2) (t5 c nl x many r own nx i) (roundD aeC 5 0 2) =
  bif decide (i < (lenOf 1 (List.length (ints x)) : Int)) then
    bif decide ((lenOf 1 (List.length nx) : Int) < 6) then
      bif Nat.ble (lenOf 1 (List.length nx)) 1048576 then
        bif inRange (IntKind.wrap IntKind.i64 ((lenOf 1 (List.length nx) : Int) - 1)) (lenOf 1 (List.length nx)) then
          getI (nth nx (Int.toNat (IntKind.wrap IntKind.i64 ((lenOf 1 (List.length nx) : Int) - 1)) * 1)) fun x0 =>
          bif inRange i (lenOf 1 (List.length (ints x))) then
            getI (nth (ints x) (Int.toNat i * 1)) fun x1 =>
            bif Nat.ble (lenOf 1 (List.length nx) + 1) 1048576 then
              bif isI (nx ++ [iD (IntKind.wrap IntKind.i64 (IntKind.wrap IntKind.i64 (x0 + 1) + IntKind.wrap IntKind.i64 (Int.tmod (IntKind.wrap IntKind.u64 x1) 7)))]) && (Nat.beq (List.length (nx ++ [iD (IntKind.wrap IntKind.i64 (IntKind.wrap IntKind.i64 (x0 + 1) + IntKind.wrap IntKind.i64 (Int.tmod (IntKind.wrap IntKind.u64 x1) 7)))])) (lenOf 1 (List.length (nx ++ [iD (IntKind.wrap IntKind.i64 (IntKind.wrap IntKind.i64 (x0 + 1) + IntKind.wrap IntKind.i64 (Int.tmod (IntKind.wrap IntKind.u64 x1) 7)))]))) && Nat.blt (lenOf 1 (List.length (nx ++ [iD (IntKind.wrap IntKind.i64 (IntKind.wrap IntKind.i64 (x0 + 1) + IntKind.wrap IntKind.i64 (Int.tmod (IntKind.wrap IntKind.u64 x1) 7)))]))) 4611686018427387904) then
                bif rulerB (unI (nx ++ [iD (IntKind.wrap IntKind.i64 (IntKind.wrap IntKind.i64 (x0 + 1) + IntKind.wrap IntKind.i64 (Int.tmod (IntKind.wrap IntKind.u64 x1) 7)))])) then
                  some (.norm, t5 c nl x many r true (nx ++ [iD (IntKind.wrap IntKind.i64 (IntKind.wrap IntKind.i64 (x0 + 1) + IntKind.wrap IntKind.i64 (Int.tmod (IntKind.wrap IntKind.u64 x1) 7)))]) (IntKind.wrap IntKind.i64 (i + 1)))
                else some (.norm, t5 c nl x many r own nx (IntKind.wrap IntKind.i64 (i + 1)))
              else none
            else none
          else none
        else none
      else none
    else some (.exit 2, x5 many r own nx)
  else some (.exit 2, x5 many r own nx) := by cases own <;> kernel_rfl

/-- What follows a row that was built. -/
theorem r5_x (many r : Int) (own : Bool) (nx : List Int) (h1 : 1 ≤ nx.length) (h2 : nx.length ≤ 6) (hr : 0 ≤ r ∧ r < 5) : ∃ c nl x many', x.length ≤ 9 ∧ (nl = true → x = []) ∧ nextS aeC evR5 5 0 Try.f5 (some 0) 2 (.exit 2) (x5 many r own (ints nx)) (roundD aeC 5 0 0) = some (.norm, s5 c nl x many' (r + 1)) := by
  have hrw : IntKind.wrap .i64 (r + 1) = r + 1 := wrap64 (by omega) (by omega)
  cases own with
  | true =>
    have key : nextS aeC evR5 5 0 Try.f5 (some 0) 2 (.exit 2) (x5 many r true (ints nx)) (roundD aeC 5 0 0) =
        bif decide ((lenOf 1 (List.length (ints nx)) : Int) < 2) then
          bif Nat.ble (lenOf 1 (List.length (ints nx)) + 1) 1048576 then
            some (.norm, ⟨[(1, .d (iD (IntKind.wrap .i64 (2 + IntKind.wrap .i64 (Int.tmod (IntKind.wrap .u64 many) 6))))), (5, .d (.sl (ints nx ++ [iD 1]) (lenOf 1 (ints nx ++ [iD 1]).length) 1 false (true && Nat.beq (List.length (ints nx ++ [iD 1])) 0))), (6, .d (iD (IntKind.wrap .i64 (r + 1))))], [], []⟩)
          else none
        else some (.norm, s5 false (true && Nat.beq (List.length (ints nx)) 0) nx (IntKind.wrap .i64 (2 + IntKind.wrap .i64 (Int.tmod (IntKind.wrap .u64 many) 6))) (IntKind.wrap .i64 (r + 1))) := by kernel_rfl
    by_cases hc : nx.length < 2
    · refine ⟨false, (true && Nat.beq (List.length (ints (nx ++ [1]))) 0), nx ++ [1], IntKind.wrap .i64 (2 + IntKind.wrap .i64 (Int.tmod (IntKind.wrap .u64 many) 6)), by simp; omega, ?_, key.trans ?_⟩
      · intro h; rw [Bool.true_and, len_ints] at h; have := Nat.eq_of_beq_eq_true h; simp at this
      · rw [cnd_pos (by rw [lenOf_1, len_ints]; omega), ble_pos (by rw [lenOf_1, len_ints]; omega), hrw, ints_app1]
        rfl
    · refine ⟨false, (true && Nat.beq (List.length (ints nx)) 0), nx, IntKind.wrap .i64 (2 + IntKind.wrap .i64 (Int.tmod (IntKind.wrap .u64 many) 6)), by omega, ?_, key.trans ?_⟩
      · intro h; rw [Bool.true_and, len_ints] at h; have := Nat.eq_of_beq_eq_true h; omega
      · rw [cnd_neg (by rw [lenOf_1, len_ints]; omega), hrw]
  | false =>
    have key : nextS aeC evR5 5 0 Try.f5 (some 0) 2 (.exit 2) (x5 many r false (ints nx)) (roundD aeC 5 0 0) =
        bif decide ((lenOf 1 (List.length (ints nx)) : Int) < 2) then
          bif Nat.ble (lenOf 1 (List.length (ints nx)) + 1) 1048576 then
            bif Nat.beq (lenOf 1 (List.length (ints nx))) 0 then some (.norm, ⟨[(1, .d (iD (IntKind.wrap .i64 (2 + IntKind.wrap .i64 (Int.tmod (IntKind.wrap .u64 many) 6))))), (5, .d (.sl [iD 1] 1 1 false false)), (6, .d (iD (IntKind.wrap .i64 (r + 1))))], [], []⟩) else
            some (.norm, ⟨[(1, .d (iD (IntKind.wrap .i64 (2 + IntKind.wrap .i64 (Int.tmod (IntKind.wrap .u64 many) 6))))), (5, .d (.sl (ints nx ++ [iD 1]) (lenOf 1 (ints nx ++ [iD 1]).length) 1 false (false && Nat.beq (List.length (ints nx ++ [iD 1])) 0))), (6, .d (iD (IntKind.wrap .i64 (r + 1))))], [], []⟩)
          else none
        else some (.norm, s5 true false nx (IntKind.wrap .i64 (2 + IntKind.wrap .i64 (Int.tmod (IntKind.wrap .u64 many) 6))) (IntKind.wrap .i64 (r + 1))) := by
      kernel_rfl
    by_cases hc : nx.length < 2
    · have hne : Nat.beq (lenOf 1 (List.length (ints nx))) 0 = false := by
        rw [lenOf_1, len_ints]
        cases h : Nat.beq nx.length 0 with
        | false => rfl
        | true => have := Nat.eq_of_beq_eq_true h; omega
      refine ⟨false, false, nx ++ [1], IntKind.wrap .i64 (2 + IntKind.wrap .i64 (Int.tmod (IntKind.wrap .u64 many) 6)), by simp; omega, by simp, key.trans ?_⟩
      rw [cnd_pos (by rw [lenOf_1, len_ints]; omega), ble_pos (by rw [lenOf_1, len_ints]; omega), hne, hrw, ints_app1]
      rfl
    · refine ⟨true, false, nx, IntKind.wrap .i64 (2 + IntKind.wrap .i64 (Int.tmod (IntKind.wrap .u64 many) 6)), by omega, by simp, key.trans ?_⟩
      rw [cnd_neg (by rw [lenOf_1, len_ints]; omega), hrw]

theorem l5_2 (c nl : Bool) (x : List Int) (many r : Int) (hx : x.length ≤ 9) : ∀ (k i : Nat) (own : Bool) (nx : List Int), i + k = x.length → 1 ≤ nx.length → nx.length ≤ 6 →
    ∃ own' nx', 1 ≤ nx'.length ∧ nx'.length ≤ 6 ∧ LoopAt aeC evR5 5 0 Try.f5 2 (t5 c nl x many r own (ints nx) i) (.exit 2) (x5 many r own' (ints nx'))
  | 0, i, own, nx, hk, h1, h2 => by
    refine ⟨own, nx, h1, h2, .out k5_2 (by simp) ((r5_2 ..).trans ?_)⟩
    simp (disch := omega) only [cnd_pos, cnd_neg, inR_pos, ble_pos, blt_pos, beq_pos, cond_and, cond_or, Bool.cond_not, cond_true, cond_false, Bool.and_true, Bool.true_and, getI_some, getB_some, nth_ints_o, nth_bools_o, wrap64_o, len_ints, len_bools, lenOf_1, Int.toNat_natCast, Nat.mul_one, Nat.zero_add, setNth_bools_o, setNth_ints_o, len_set_i, len_set_b, Option.bind_some, List.length_append, List.length_cons, List.length_nil, unI_ints, unB_bools, ints_app1, bools_app1, nth_pr1, nth_pr2, len_prs, abs_if, Nat.add_zero, cond_same]
  | k + 1, i, own, nx, hk, h1, h2 => by
    have res := r5_2 c nl x many r own (ints nx) i
    revert res
    simp (disch := omega) only [cnd_pos, cnd_neg, inR_pos, ble_pos, blt_pos, beq_pos, cond_and, cond_or, Bool.cond_not, cond_true, cond_false, Bool.and_true, Bool.true_and, getI_some, getB_some, nth_ints_o, nth_bools_o, wrap64_o, len_ints, len_bools, lenOf_1, Int.toNat_natCast, Nat.mul_one, Nat.zero_add, setNth_bools_o, setNth_ints_o, len_set_i, len_set_b, Option.bind_some, List.length_append, List.length_cons, List.length_nil, unI_ints, unB_bools, ints_app1, bools_app1, nth_pr1, nth_pr2, len_prs, abs_if, Nat.add_zero, cond_same, Bool.and_true]
    intro res
    by_cases h6 : (nx.length : Int) < 6
    · rw [cnd_pos h6] at res
      revert res
      simp (disch := omega) only [cnd_pos, cnd_neg, inR_pos, ble_pos, blt_pos, beq_pos, cond_and, cond_or, Bool.cond_not, cond_true, cond_false, Bool.and_true, Bool.true_and, getI_some, getB_some, nth_ints_o, nth_bools_o, wrap64_o, len_ints, len_bools, lenOf_1, Int.toNat_natCast, Nat.mul_one, Nat.zero_add, setNth_bools_o, setNth_ints_o, len_set_i, len_set_b, Option.bind_some, List.length_append, List.length_cons, List.length_nil, unI_ints, unB_bools, ints_app1, bools_app1, nth_pr1, nth_pr2, len_prs, abs_if, Nat.add_zero, cond_same, isI_ints, Nat.beq_refl]
      generalize IntKind.wrap IntKind.i64 (IntKind.wrap IntKind.i64 (nx.getD ((nx.length : Int) - 1).toNat 0 + 1) + IntKind.wrap IntKind.i64 (Int.tmod (IntKind.wrap IntKind.u64 (x.getD i 0)) 7)) = v
      intro res
      cases hr : rulerB (nx ++ [v]) with
      | true =>
        rw [hr, cond_true] at res
        obtain ⟨o', n', q1, q2, q3⟩ := l5_2 c nl x many r hx k (i + 1) true (nx ++ [v]) (by omega) (by simp) (by simp; omega)
        exact ⟨o', n', q1, q2, .next k5_2 res q3⟩
      | false =>
        rw [hr, cond_false] at res
        obtain ⟨o', n', q1, q2, q3⟩ := l5_2 c nl x many r hx k (i + 1) own nx (by omega) h1 h2
        exact ⟨o', n', q1, q2, .next k5_2 res q3⟩
    · rw [cnd_neg h6] at res
      exact ⟨own, nx, h1, h2, .out k5_2 (by simp) res⟩

theorem head5 (c nl : Bool) (x : List Int) (many r : Int) (hx : x.length ≤ 9) (hnl : nl = true → x = []) (hr : r < 2) : startS aeC evR5 5 0 Try.f5 (some 0) (s5 c nl x many r) (heldD aeC 5 0) = some (2, t5 c nl x many r false (ints [0]) (0 : Nat)) := by
  rw [r5_0h]
  have hb : (isI (ints x) && (Nat.beq (List.length (ints x)) (lenOf 1 (List.length (ints x))) && Nat.blt (lenOf 1 (List.length (ints x))) 4611686018427387904)) = true := by
    rw [isI_ints, lenOf_1, Nat.beq_refl, len_ints, show Nat.blt x.length 4611686018427387904 = true by rw [Nat.blt_eq]; omega]; rfl
  have hb2 : (isI (ints x) && Nat.beq (List.length (ints x)) (lenOf 1 (List.length (ints x)))) = true := by rw [isI_ints, lenOf_1, Nat.beq_refl]; rfl
  have hsame : decide (rulerB x = rulerB x) = true := decide_eq_true rfl
  rw [cnd_pos hr]
  simp only [hb, hb2, unI_ints, hsame, cond_true, Bool.not_true, cond_false]
  cases hru : rulerB x with
  | false => rfl
  | true =>
    have h2 : 2 ≤ x.length ∧ x.length ≤ 7 ∧ x.getD 0 0 = 0 := by
      simp only [rulerB, Bool.and_eq_true, decide_eq_true_eq] at hru
      exact ⟨hru.1, hru.2.1, hru.2.2.1⟩
    simp only [cond_true, Bool.not_true, cond_false]
    by_cases c1 : many < 2
    · simp only [cnd_pos c1]; rfl
    by_cases c2 : 7 < many
    · simp only [cnd_neg c1, cnd_pos c2]; rfl
    have hnl' : nl = false := by
      cases nl with
      | false => rfl
      | true => rw [hnl rfl] at h2; simp at h2
    have hg : extG 8 (ints x) (lenOf 1 (List.length (ints x))) nl many 25 = true := isP_iff.2 ⟨by omega, hnl', isI_ints _, rfl, by rw [lenOf_1, len_ints]; omega, by rw [lenOf_1, len_ints]; omega, by omega, by omega, by rw [unI_ints]; exact h2.2.2, by rw [lenOf_1, len_ints]; omega⟩
    simp only [cnd_neg c1, cnd_neg c2, hg, cond_true]
    by_cases c3 : many < (lenOf 1 (List.length (ints x)) : Int)
    · have he : extS many 25 8 x = none := by simp only [extS]; rw [lenOf_1, len_ints] at c3; rw [if_pos c3]
      simp only [cnd_pos c3, he, Option.isSome_none, cond_false]; rfl
    · simp only [cnd_neg c3]
      cases he : extS many 25 8 x with
      | none => rfl
      | some o =>
        have ho := (extS_some _ _ _ _ _ he).1
        have hb3 : (isI (ints o) && (isI (ints o) && (Nat.beq (ints o).length o.length && (Nat.beq (ints o).length o.length && Nat.blt o.length 4611686018427387904)))) = true := by
          rw [isI_ints, len_ints, Nat.beq_refl, show Nat.blt o.length 4611686018427387904 = true by rw [Nat.blt_eq]; omega]; rfl
        simp only [Option.isSome_some, cond_true, Option.getD_some, hb3, unI_ints, decide_true, Bool.not_true, cond_false]; rfl

theorem l5 : ∀ (k : Nat) (c nl : Bool) (x : List Int) (many : Int), k ≤ 2 → x.length ≤ 9 → (nl = true → x = []) → LoopAt aeC evR5 5 0 Try.f5 0 (s5 c nl x many (2 - (k : Int))) (.exit 0) ⟨[], [], []⟩
  | 0, c, nl, x, many, hk, hx, hnl => .out k5_0 (by simp) (r5_0x c nl x many)
  | k + 1, c, nl, x, many, hk, hx, hnl => by
    obtain ⟨own, nx, h1, h2, h3⟩ := l5_2 c nl x many (2 - ((k + 1 : Nat) : Int)) hx x.length 0 false [0] (by omega) (by simp) (by simp)
    obtain ⟨c', nl', x', many', g1, g2, g3⟩ := r5_x many (2 - ((k + 1 : Nat) : Int)) own nx h1 h2 (by omega)
    refine .nextF k5_0 ((startF_seg k5_0 (head5 c nl x many _ hx hnl (by omega)) h3).trans (nextF_done k5_0 roundD_plain g3)) ?_
    rw [show 2 - ((k + 1 : Nat) : Int) + 1 = 2 - (k : Int) by omega]
    exact l5 k c' nl' x' many' (by omega) g1 g2

theorem law5 (l : List Int) (c nl : Bool) (many : Int) : PureOK Try.prog 5 [.sl (ints l) l.length 1 c nl, iD many] (bD true) := by
  refine ae_pure evR5_ok (fn := Try.f5) k5 (by kernel_rfl) (by kernel_rfl) ?_
  have h0 := r5 (ints l) l.length c nl many
  have hb : (isI (ints l) && (Nat.beq (ints l).length l.length && true)) = true := by rw [isI_ints, len_ints, Nat.beq_refl]; rfl
  rw [hb, unI_ints, Bool.or_true, cond_true, cond_true] at h0
  exact startF_one k5 done_plain h0 (l5 2 false (true && Nat.beq (ints (l.take 9)).length 0) (l.take 9) many (by omega) (by rw [List.length_take]; omega) (by
    intro h
    rw [Bool.true_and, len_ints] at h
    exact List.length_eq_zero_iff.1 (Nat.eq_of_beq_eq_true h))) r5_e
end Go.Proofs.Ytkcdbndpcabelaa

/- Chapter 02: the document's words on labels: what fits, what is graceful. -/
namespace Go.Proofs.Ytkcdbndpcabelaa
open Go Go.AE

theorem k61 : OkSeg Try.f61 none [0, 2] := ⟨by kernel_rfl, by kernel_rfl, by decide⟩
theorem k61_0 : OkSeg Try.f61 (some 0) [] := ⟨by kernel_rfl, by kernel_rfl, by decide⟩
theorem k61_2 : OkSeg Try.f61 (some 2) [] := ⟨by kernel_rfl, by kernel_rfl, by decide⟩
theorem k16 : OkSeg Try.f16 none [0, 4] := ⟨by kernel_rfl, by kernel_rfl, by decide⟩
theorem k16_0 : OkSeg Try.f16 (some 0) [2] := ⟨by kernel_rfl, by kernel_rfl, by decide⟩
theorem k16_2 : OkSeg Try.f16 (some 2) [] := ⟨by kernel_rfl, by kernel_rfl, by decide⟩
theorem k16_4 : OkSeg Try.f16 (some 4) [] := ⟨by kernel_rfl, by kernel_rfl, by decide⟩

noncomputable def edgX (E : List (Int × Int)) (c nl : Bool) : DV := .sl (edD E) E.length 2 c nl
noncomputable def lstX (l : List Int) (c nl : Bool) : DV := .sl (ints l) l.length 1 c nl
noncomputable def s61 (E : List (Int × Int)) (c nl : Bool) (l : List Int) (c2 nl2 : Bool) (x : Int) (met : List DV) (e : Int) : St := ⟨[(0, .d (edgX E c nl)), (1, .d (lstX l c2 nl2)), (2, .d (iD x)), (7, .ref 0 0), (8, .d (iD e))], [.dc met], []⟩
noncomputable def t61 (l : List Int) (c2 nl2 : Bool) (x : Int) (v : Int) : St := ⟨[(1, .d (lstX l c2 nl2)), (2, .d (iD x)), (13, .d (iD v))], [], []⟩
noncomputable def x61 (l : List Int) (c2 nl2 : Bool) (x : Int) : St := ⟨[(1, .d (lstX l c2 nl2)), (2, .d (iD x))], [], []⟩
noncomputable def s16 (n : Int) (E : List (Int × Int)) (c nl : Bool) (l : List Int) (c2 nl2 : Bool) (v : Int) : St := ⟨[(0, .d (iD n)), (1, .d (edgX E c nl)), (2, .d (lstX l c2 nl2)), (7, .d (iD E.length)), (8, .d (iD v))], [], []⟩
noncomputable def t16 (n : Int) (E : List (Int × Int)) (c nl : Bool) (l : List Int) (c2 nl2 : Bool) (v u : Int) : St := ⟨[(0, .d (iD n)), (1, .d (edgX E c nl)), (2, .d (lstX l c2 nl2)), (7, .d (iD E.length)), (8, .d (iD v)), (9, .d (iD u))], [], []⟩
noncomputable def x16 (E : List (Int × Int)) (c nl : Bool) (l : List Int) (c2 nl2 : Bool) : St := ⟨[(1, .d (edgX E c nl)), (2, .d (lstX l c2 nl2)), (7, .d (iD E.length))], [], []⟩
noncomputable def u16 (E : List (Int × Int)) (c nl : Bool) (l : List Int) (c2 nl2 : Bool) (k : Nat) (met : List DV) (e : Int) : St := ⟨[(1, .d (edgX E c nl)), (2, .d (lstX l c2 nl2)), (7, .d (iD E.length)), (10, .row 0 0 k k 1 true), (11, .d (iD e))], [.dc met], []⟩


theorem r61 (E : List (Int × Int)) (c nl : Bool) (l : List Int) (c2 nl2 : Bool) (x : Int) : startS aeC Ev.nil 61 0 Try.f61 none ⟨envOf 0 ([edgX E c nl, lstX l c2 nl2, iD x].map .d), [], []⟩ (heldD aeC 61 0) =
  some (0, ⟨[(0, .d (DV.sl (edD E) (List.length E) 2 c nl)), (1, .d (DV.sl (ints l) (List.length l) 1 c2 nl2)), (2, .d (iD x)), (7, AV.ref 0 0), (8, .d (iD 0))], [.dc [bD false, bD false, bD false, bD false, bD false, bD false, bD false, bD false, bD false, bD false, bD false]], []⟩) := by kernel_rfl

theorem r61_0 (E : List (Int × Int)) (c nl : Bool) (l : List Int) (c2 nl2 : Bool) (x : Int) (met : List DV) (e : Int) : startS aeC Ev.nil 61 0 Try.f61 (some 0) (s61 E c nl l c2 nl2 x met e) (roundD aeC 61 0 0) =
  bif decide (e < (↑(List.length E) : Int)) then
    bif inRange e (List.length E) then
      getI (nth (edD E) (Int.toNat e * 2 + 0)) fun x0 =>
      bif inRange e (List.length E) then
        getI (nth (edD E) (Int.toNat e * 2 + 1)) fun x1 =>
        bif decide ((↑(List.length l) : Int) < x1) then
          some (Ex.norm, ⟨[(0, .d (DV.sl (edD E) (List.length E) 2 c nl)), (1, .d (DV.sl (ints l) (List.length l) 1 c2 nl2)), (2, .d (iD x)), (7, AV.ref 0 0), (8, .d (iD (IntKind.wrap IntKind.i64 (e + 1))))], [.dc met], []⟩)
        else
          bif decide (x1 < (↑(List.length l) : Int)) then
            bif inRange x1 (List.length l) then
              getI (nth (ints l) (Int.toNat x1 * 1)) fun x2 =>
              bif inRange x0 (List.length l) then
                getI (nth (ints l) (Int.toNat x0 * 1)) fun x3 =>
                bif inRange x0 (List.length l) then
                  getI (nth (ints l) (Int.toNat x0 * 1)) fun x4 =>
                  bif inRange (if IntKind.wrap IntKind.i64 (x2 - x4) > IntKind.wrap IntKind.i64 (x3 - x2) then IntKind.wrap IntKind.i64 (x2 - x4) else IntKind.wrap IntKind.i64 (x3 - x2)) 11 then
                    getB (nth met (0 + Int.toNat (if IntKind.wrap IntKind.i64 (x2 - x4) > IntKind.wrap IntKind.i64 (x3 - x2) then IntKind.wrap IntKind.i64 (x2 - x4) else IntKind.wrap IntKind.i64 (x3 - x2)) * 1)) fun y5 =>
                    bif y5 then
                      some (Ex.ret, ⟨[(6, .d (bD false))], [], []⟩)
                    else
                      bif inRange (if IntKind.wrap IntKind.i64 (x2 - x4) > IntKind.wrap IntKind.i64 (x3 - x2) then IntKind.wrap IntKind.i64 (x2 - x4) else IntKind.wrap IntKind.i64 (x3 - x2)) 11 then
                        bif Nat.ble (0 + Int.toNat (if IntKind.wrap IntKind.i64 (x2 - x4) > IntKind.wrap IntKind.i64 (x3 - x2) then IntKind.wrap IntKind.i64 (x2 - x4) else IntKind.wrap IntKind.i64 (x3 - x2)) * 1 + 1) (List.length met) && true then
                          some (Ex.norm, ⟨[(0, .d (DV.sl (edD E) (List.length E) 2 c nl)), (1, .d (DV.sl (ints l) (List.length l) 1 c2 nl2)), (2, .d (iD x)), (7, AV.ref 0 0), (8, .d (iD (IntKind.wrap IntKind.i64 (e + 1))))], [.dc (setNth met (0 + Int.toNat (if IntKind.wrap IntKind.i64 (x2 - x4) > IntKind.wrap IntKind.i64 (x3 - x2) then IntKind.wrap IntKind.i64 (x2 - x4) else IntKind.wrap IntKind.i64 (x3 - x2)) * 1) (bD true))], []⟩)
                        else
                          none
                      else
                        none
                  else
                    none
                else
                  none
              else
                none
            else
              none
          else
            bif inRange x0 (List.length l) then
              getI (nth (ints l) (Int.toNat x0 * 1)) fun x6 =>
              bif inRange x0 (List.length l) then
                getI (nth (ints l) (Int.toNat x0 * 1)) fun x7 =>
                bif inRange (if IntKind.wrap IntKind.i64 (x - x7) > IntKind.wrap IntKind.i64 (x6 - x) then IntKind.wrap IntKind.i64 (x - x7) else IntKind.wrap IntKind.i64 (x6 - x)) 11 then
                  getB (nth met (0 + Int.toNat (if IntKind.wrap IntKind.i64 (x - x7) > IntKind.wrap IntKind.i64 (x6 - x) then IntKind.wrap IntKind.i64 (x - x7) else IntKind.wrap IntKind.i64 (x6 - x)) * 1)) fun y8 =>
                  bif y8 then
                    some (Ex.ret, ⟨[(6, .d (bD false))], [], []⟩)
                  else
                    bif inRange (if IntKind.wrap IntKind.i64 (x - x7) > IntKind.wrap IntKind.i64 (x6 - x) then IntKind.wrap IntKind.i64 (x - x7) else IntKind.wrap IntKind.i64 (x6 - x)) 11 then
                      bif Nat.ble (0 + Int.toNat (if IntKind.wrap IntKind.i64 (x - x7) > IntKind.wrap IntKind.i64 (x6 - x) then IntKind.wrap IntKind.i64 (x - x7) else IntKind.wrap IntKind.i64 (x6 - x)) * 1 + 1) (List.length met) && true then
                        some (Ex.norm, ⟨[(0, .d (DV.sl (edD E) (List.length E) 2 c nl)), (1, .d (DV.sl (ints l) (List.length l) 1 c2 nl2)), (2, .d (iD x)), (7, AV.ref 0 0), (8, .d (iD (IntKind.wrap IntKind.i64 (e + 1))))], [.dc (setNth met (0 + Int.toNat (if IntKind.wrap IntKind.i64 (x - x7) > IntKind.wrap IntKind.i64 (x6 - x) then IntKind.wrap IntKind.i64 (x - x7) else IntKind.wrap IntKind.i64 (x6 - x)) * 1) (bD true))], []⟩)
                      else
                        none
                    else
                      none
                else
                  none
              else
                none
            else
              none
      else
        none
    else
      none
  else
    some (Ex.exit 0, ⟨[(1, .d (DV.sl (ints l) (List.length l) 1 c2 nl2)), (2, .d (iD x))], [], []⟩) := by kernel_rfl

theorem r61_1 (l : List Int) (c2 nl2 : Bool) (x : Int) : nextS aeC Ev.nil 61 0 Try.f61 none 0 (.exit 0) (x61 l c2 nl2 x) (heldD aeC 61 0) =
  some (2, ⟨[(1, .d (DV.sl (ints l) (List.length l) 1 c2 nl2)), (2, .d (iD x)), (13, .d (iD 0))], [], []⟩) := by kernel_rfl

theorem r61_1r  : nextS aeC Ev.nil 61 0 Try.f61 none 0 .ret ⟨[(6, .d (bD false))], [], []⟩ (doneE aeC Try.f61 0 fun v h => freezeV h 4 v) =
  some (bD false) := by kernel_rfl

theorem r61_2 (l : List Int) (c2 nl2 : Bool) (x : Int) (v : Int) : startS aeC Ev.nil 61 0 Try.f61 (some 2) (t61 l c2 nl2 x v) (roundD aeC 61 0 2) =
  bif decide (v < (↑(List.length l) : Int)) then
    bif inRange v (List.length l) then
      getI (nth (ints l) (Int.toNat v * 1)) fun x0 =>
      bif decide (x0 = x) then
        some (Ex.ret, ⟨[(6, .d (bD false))], [], []⟩)
      else
        some (Ex.norm, ⟨[(1, .d (DV.sl (ints l) (List.length l) 1 c2 nl2)), (2, .d (iD x)), (13, .d (iD (IntKind.wrap IntKind.i64 (v + 1))))], [], []⟩)
    else
      none
  else
    some (Ex.exit 2, ⟨[], [], []⟩) := by kernel_rfl

theorem r61_x  : nextS aeC Ev.nil 61 0 Try.f61 none 2 (.exit 2) ⟨[], [], []⟩ (doneE aeC Try.f61 0 fun v h => freezeV h 4 v) =
  some (bD true) := by kernel_rfl

theorem r61_xr  : nextS aeC Ev.nil 61 0 Try.f61 none 2 .ret ⟨[(6, .d (bD false))], [], []⟩ (doneE aeC Try.f61 0 fun v h => freezeV h 4 v) =
  some (bD false) := by kernel_rfl

theorem r16 (n : Int) (E : List (Int × Int)) (c nl : Bool) (l : List Int) (c2 nl2 : Bool) : startS aeC Ev.nil 16 0 Try.f16 none ⟨envOf 0 ([iD n, edgX E c nl, lstX l c2 nl2].map .d), [], []⟩ (heldD aeC 16 0) =
  bif !decide ((↑(List.length l) : Int) = n) then
    none
  else
    some (0, ⟨[(0, .d (iD n)), (1, .d (DV.sl (edD E) (List.length E) 2 c nl)), (2, .d (DV.sl (ints l) (List.length l) 1 c2 nl2)), (7, .d (iD (↑(List.length E) : Int))), (8, .d (iD 0))], [], []⟩) := by kernel_rfl

theorem r16_0 (n : Int) (E : List (Int × Int)) (c nl : Bool) (l : List Int) (c2 nl2 : Bool) (v : Int) : startS aeC Ev.nil 16 0 Try.f16 (some 0) (s16 n E c nl l c2 nl2 v) (roundD aeC 16 0 0) =
  bif decide (v < n) then
    bif inRange v (List.length l) then
      getI (nth (ints l) (Int.toNat v * 1)) fun x0 =>
      bif decide (x0 < 0) then
        some (Ex.ret, ⟨[(6, .d (bD false))], [], []⟩)
      else
        bif inRange v (List.length l) then
          getI (nth (ints l) (Int.toNat v * 1)) fun x1 =>
          bif decide ((↑(List.length E) : Int) < x1) then
            some (Ex.ret, ⟨[(6, .d (bD false))], [], []⟩)
          else
            none
        else
          none
    else
      none
  else
    some (Ex.exit 0, ⟨[(1, .d (DV.sl (edD E) (List.length E) 2 c nl)), (2, .d (DV.sl (ints l) (List.length l) 1 c2 nl2)), (7, .d (iD (↑(List.length E) : Int)))], [], []⟩) := by kernel_rfl

theorem r16_0h (n : Int) (E : List (Int × Int)) (c nl : Bool) (l : List Int) (c2 nl2 : Bool) (v : Int) : startS aeC Ev.nil 16 0 Try.f16 (some 0) (s16 n E c nl l c2 nl2 v) (heldD aeC 16 0) =
  bif decide (v < n) then
    bif inRange v (List.length l) then
      getI (nth (ints l) (Int.toNat v * 1)) fun x0 =>
      bif decide (x0 < 0) then
        none
      else
        bif inRange v (List.length l) then
          getI (nth (ints l) (Int.toNat v * 1)) fun x1 =>
          bif decide ((↑(List.length E) : Int) < x1) then
            none
          else
            some (2, ⟨[(0, .d (iD n)), (1, .d (DV.sl (edD E) (List.length E) 2 c nl)), (2, .d (DV.sl (ints l) (List.length l) 1 c2 nl2)), (7, .d (iD (↑(List.length E) : Int))), (8, .d (iD v)), (9, .d (iD 0))], [], []⟩)
        else
          none
    else
      none
  else
    none := by kernel_rfl

theorem r16_2 (n : Int) (E : List (Int × Int)) (c nl : Bool) (l : List Int) (c2 nl2 : Bool) (v u : Int) : startS aeC Ev.nil 16 0 Try.f16 (some 2) (t16 n E c nl l c2 nl2 v u) (roundD aeC 16 0 2) =
  bif decide (u < v) then
    bif inRange u (List.length l) then
      getI (nth (ints l) (Int.toNat u * 1)) fun x0 =>
      bif inRange v (List.length l) then
        getI (nth (ints l) (Int.toNat v * 1)) fun x1 =>
        bif decide (x0 = x1) then
          some (Ex.ret, ⟨[(6, .d (bD false))], [], []⟩)
        else
          some (Ex.norm, ⟨[(0, .d (iD n)), (1, .d (DV.sl (edD E) (List.length E) 2 c nl)), (2, .d (DV.sl (ints l) (List.length l) 1 c2 nl2)), (7, .d (iD (↑(List.length E) : Int))), (8, .d (iD v)), (9, .d (iD (IntKind.wrap IntKind.i64 (u + 1))))], [], []⟩)
      else
        none
    else
      none
  else
    some (Ex.exit 2, ⟨[(0, .d (iD n)), (1, .d (DV.sl (edD E) (List.length E) 2 c nl)), (2, .d (DV.sl (ints l) (List.length l) 1 c2 nl2)), (7, .d (iD (↑(List.length E) : Int))), (8, .d (iD v))], [], []⟩) := by kernel_rfl

theorem r16_d (n : Int) (E : List (Int × Int)) (c nl : Bool) (l : List Int) (c2 nl2 : Bool) : startS aeC Ev.nil 16 0 Try.f16 none ⟨envOf 0 ([iD n, edgX E c nl, lstX l c2 nl2].map .d), [], []⟩ (doneE aeC Try.f16 0 fun v h => freezeV h 4 v) =
  bif !decide ((↑(List.length l) : Int) = n) then
    some (bD false)
  else
    none := by kernel_rfl

theorem r16_2n (n : Int) (E : List (Int × Int)) (c nl : Bool) (l : List Int) (c2 nl2 : Bool) (v : Int) : nextS aeC Ev.nil 16 0 Try.f16 (some 0) 2 (.exit 2) (s16 n E c nl l c2 nl2 v) (roundD aeC 16 0 0) =
  some (Ex.norm, ⟨[(0, .d (iD n)), (1, .d (DV.sl (edD E) (List.length E) 2 c nl)), (2, .d (DV.sl (ints l) (List.length l) 1 c2 nl2)), (7, .d (iD (↑(List.length E) : Int))), (8, .d (iD (IntKind.wrap IntKind.i64 (v + 1))))], [], []⟩) := by kernel_rfl

theorem r16_2r  : nextS aeC Ev.nil 16 0 Try.f16 (some 0) 2 .ret ⟨[(6, .d (bD false))], [], []⟩ (roundD aeC 16 0 0) =
  some (Ex.ret, ⟨[(6, .d (bD false))], [], []⟩) := by kernel_rfl

theorem r16_1 (E : List (Int × Int)) (c nl : Bool) (l : List Int) (c2 nl2 : Bool) : nextS aeC Ev.nil 16 0 Try.f16 none 0 (.exit 0) (x16 E c nl l c2 nl2) (heldD aeC 16 0) =
  bif decide (0 ≤ IntKind.wrap IntKind.i64 ((↑(List.length E) : Int) + 1)) && decide (IntKind.wrap IntKind.i64 ((↑(List.length E) : Int) + 1) ≤ IntKind.wrap IntKind.i64 ((↑(List.length E) : Int) + 1)) && decide (IntKind.wrap IntKind.i64 ((↑(List.length E) : Int) + 1) ≤ 1048576) && true then
    some (4, ⟨[(1, .d (DV.sl (edD E) (List.length E) 2 c nl)), (2, .d (DV.sl (ints l) (List.length l) 1 c2 nl2)), (7, .d (iD (↑(List.length E) : Int))), (10, AV.row 0 0 (Int.toNat (IntKind.wrap IntKind.i64 ((↑(List.length E) : Int) + 1))) (Int.toNat (IntKind.wrap IntKind.i64 ((↑(List.length E) : Int) + 1))) 1 true), (11, .d (iD 0))], [.dc (List.flatten (List.replicate (Int.toNat (IntKind.wrap IntKind.i64 ((↑(List.length E) : Int) + 1))) [bD false]))], []⟩)
  else
    none := by kernel_rfl

theorem r16_1r  : nextS aeC Ev.nil 16 0 Try.f16 none 0 .ret ⟨[(6, .d (bD false))], [], []⟩ (doneE aeC Try.f16 0 fun v h => freezeV h 4 v) =
  some (bD false) := by kernel_rfl

theorem r16_4 (E : List (Int × Int)) (c nl : Bool) (l : List Int) (c2 nl2 : Bool) (k : Nat) (met : List DV) (e : Int) : startS aeC Ev.nil 16 0 Try.f16 (some 4) (u16 E c nl l c2 nl2 k met e) (roundD aeC 16 0 4) =
  bif decide (e < (↑(List.length E) : Int)) then
    bif inRange e (List.length E) then
      getI (nth (edD E) (Int.toNat e * 2 + 0)) fun x0 =>
      bif inRange x0 (List.length l) then
        getI (nth (ints l) (Int.toNat x0 * 1)) fun x1 =>
        bif inRange e (List.length E) then
          getI (nth (edD E) (Int.toNat e * 2 + 1)) fun x2 =>
          bif inRange x2 (List.length l) then
            getI (nth (ints l) (Int.toNat x2 * 1)) fun x3 =>
            bif inRange e (List.length E) then
              getI (nth (edD E) (Int.toNat e * 2 + 1)) fun x4 =>
              bif inRange x4 (List.length l) then
                getI (nth (ints l) (Int.toNat x4 * 1)) fun x5 =>
                bif inRange e (List.length E) then
                  getI (nth (edD E) (Int.toNat e * 2 + 0)) fun x6 =>
                  bif inRange x6 (List.length l) then
                    getI (nth (ints l) (Int.toNat x6 * 1)) fun x7 =>
                    bif inRange (if IntKind.wrap IntKind.i64 (x5 - x7) > IntKind.wrap IntKind.i64 (x1 - x3) then IntKind.wrap IntKind.i64 (x5 - x7) else IntKind.wrap IntKind.i64 (x1 - x3)) k && true then
                      getB (nth met (0 + Int.toNat (if IntKind.wrap IntKind.i64 (x5 - x7) > IntKind.wrap IntKind.i64 (x1 - x3) then IntKind.wrap IntKind.i64 (x5 - x7) else IntKind.wrap IntKind.i64 (x1 - x3)) * 1)) fun y8 =>
                      bif y8 then
                        some (Ex.ret, ⟨[(6, .d (bD false))], [], []⟩)
                      else
                        bif inRange (if IntKind.wrap IntKind.i64 (x5 - x7) > IntKind.wrap IntKind.i64 (x1 - x3) then IntKind.wrap IntKind.i64 (x5 - x7) else IntKind.wrap IntKind.i64 (x1 - x3)) k && true then
                          bif Nat.ble (0 + Int.toNat (if IntKind.wrap IntKind.i64 (x5 - x7) > IntKind.wrap IntKind.i64 (x1 - x3) then IntKind.wrap IntKind.i64 (x5 - x7) else IntKind.wrap IntKind.i64 (x1 - x3)) * 1 + 1) (List.length met) && true then
                            some (Ex.norm, ⟨[(1, .d (DV.sl (edD E) (List.length E) 2 c nl)), (2, .d (DV.sl (ints l) (List.length l) 1 c2 nl2)), (7, .d (iD (↑(List.length E) : Int))), (10, AV.row 0 0 k k 1 true), (11, .d (iD (IntKind.wrap IntKind.i64 (e + 1))))], [.dc (setNth met (0 + Int.toNat (if IntKind.wrap IntKind.i64 (x5 - x7) > IntKind.wrap IntKind.i64 (x1 - x3) then IntKind.wrap IntKind.i64 (x5 - x7) else IntKind.wrap IntKind.i64 (x1 - x3)) * 1) (bD true))], []⟩)
                          else
                            none
                        else
                          none
                    else
                      none
                  else
                    none
                else
                  none
              else
                none
            else
              none
          else
            none
        else
          none
      else
        none
    else
      none
  else
    some (Ex.exit 4, ⟨[], [], []⟩) := by kernel_rfl

theorem r16_x  : nextS aeC Ev.nil 16 0 Try.f16 none 4 (.exit 4) ⟨[], [], []⟩ (doneE aeC Try.f16 0 fun v h => freezeV h 4 v) =
  some (bD true) := by kernel_rfl

theorem r16_xr  : nextS aeC Ev.nil 16 0 Try.f16 none 4 .ret ⟨[(6, .d (bD false))], [], []⟩ (doneE aeC Try.f16 0 fun v h => freezeV h 4 v) =
  some (bD false) := by kernel_rfl

/-- How far an edge's labels are apart. -/
def dlt (l : List Int) (e : Int × Int) : Nat := dist (labAt l e.2) (labAt l e.1)
/-- Edges between n nodes. -/
def EdOK (n : Nat) (E : List (Int × Int)) : Prop := ∀ e ∈ E, 0 ≤ e.1 ∧ e.1 < e.2 ∧ e.2 < n
/-- Labels from 0 to m. -/
def LabOK (m : Nat) (l : List Int) : Prop := ∀ x ∈ l, 0 ≤ x ∧ x ≤ m

theorem EdOK.get {n : Nat} {E : List (Int × Int)} (h : EdOK n E) {i : Nat} (hi : i < E.length) : 0 ≤ (E.getD i (0, 0)).1 ∧ (E.getD i (0, 0)).1 < (E.getD i (0, 0)).2 ∧ (E.getD i (0, 0)).2 < n := by
  have : E.getD i (0, 0) = E[i] := by simp [hi]
  rw [this]; exact h _ (List.getElem_mem hi)
theorem LabOK.get {m : Nat} {l : List Int} (h : LabOK m l) {i : Nat} (hi : i < l.length) : 0 ≤ l.getD i 0 ∧ l.getD i 0 ≤ m := by
  have : l.getD i 0 = l[i] := by simp [hi]
  rw [this]; exact h _ (List.getElem_mem hi)
theorem LabOK.at {m : Nat} {l : List Int} (h : LabOK m l) {a : Int} (h0 : 0 ≤ a) (h1 : a < l.length) : 0 ≤ labAt l a ∧ labAt l a ≤ m := h.get (by omega)

/-! ### 'fits' -/
/-- The edges up to a node. -/
def upTo (k : Nat) (E : List (Int × Int)) : List (Int × Int) := E.filter fun e => decide (e.2 ≤ k)

theorem labAt_snoc {l : List Int} {x a : Int} (h0 : 0 ≤ a) (h1 : a < l.length) : labAt (l ++ [x]) a = labAt l a := by
  unfold labAt
  have : a.toNat < l.length := by omega
  simp [List.getD_eq_getElem?_getD, List.getElem?_append, this]
theorem labAt_last {l : List Int} {x : Int} {a : Int} (h : a = l.length) : labAt (l ++ [x]) a = x := by
  subst h; simp [labAt]

theorem l61_0 (E : List (Int × Int)) (c nl : Bool) (l : List Int) (c2 nl2 : Bool) (x : Int) (n : Nat) (hE : EdOK n E) (hn : n ≤ 100) (hlen : E.length ≤ 100) (hl : LabOK 10 l) (hln : l.length ≤ n) (hx : 0 ≤ x ∧ x ≤ 10) :
    ∀ (r : List (Int × Int)) (e : Nat) (met : List Bool), met.length = 11 → e ≤ E.length → E.drop e = r →
      LoopAt aeC Ev.nil 61 0 Try.f61 0 (s61 E c nl l c2 nl2 x (bools met) e) (bif (chkD ((upTo l.length r).map (dlt (l ++ [x]))) met).isSome then .exit 0 else .ret)
        (bif (chkD ((upTo l.length r).map (dlt (l ++ [x]))) met).isSome then x61 l c2 nl2 x else ⟨[(6, .d (bD false))], [], []⟩)
  | [], e, met, hm, he, hr => by
    have h1 := drop_nil_o hr
    refine .out k61_0 (by simp [upTo, chkD]) ((r61_0 ..).trans ?_)
    simp (disch := omega) only [cnd_pos, cnd_neg, inR_pos, ble_pos, blt_pos, beq_pos, cond_and, cond_or, Bool.cond_not, cond_true, cond_false, Bool.and_true, Bool.true_and, getI_some, getB_some, nth_ints_o, nth_bools_o, wrap64_o, len_ints, len_bools, lenOf_1, Int.toNat_natCast, Nat.mul_one, Nat.zero_add, setNth_bools_o, setNth_ints_o, len_set_i, len_set_b, Option.bind_some, List.length_append, List.length_cons, List.length_nil, unI_ints, unB_bools, ints_app1, bools_app1, nth_pr1, nth_pr2, len_prs, abs_if, Nat.add_zero, cond_same]
    rfl
  | d :: r, e, met, hm, he, hr => by
    obtain ⟨h1, h2, h3⟩ := drop_cons_o (d := (0, 0)) hr
    have hd := hE.get h1
    have res := r61_0 E c nl l c2 nl2 x (bools met) e
    revert res
    simp (disch := omega) only [cnd_pos, cnd_neg, inR_pos, ble_pos, blt_pos, beq_pos, cond_and, cond_or, Bool.cond_not, cond_true, cond_false, Bool.and_true, Bool.true_and, getI_some, getB_some, nth_ints_o, nth_bools_o, wrap64_o, len_ints, len_bools, lenOf_1, Int.toNat_natCast, Nat.mul_one, Nat.zero_add, setNth_bools_o, setNth_ints_o, len_set_i, len_set_b, Option.bind_some, List.length_append, List.length_cons, List.length_nil, unI_ints, unB_bools, ints_app1, bools_app1, nth_pr1, nth_pr2, len_prs, abs_if, Nat.add_zero, cond_same]
    rw [h2] at hd ⊢
    intro res
    by_cases c1 : (l.length : Int) < d.2
    · rw [cnd_pos c1] at res
      have hu : upTo l.length (d :: r) = upTo l.length r := by
        unfold upTo; rw [List.filter_cons_of_neg (by simp; omega)]
      rw [hu]
      exact .next k61_0 res (l61_0 E c nl l c2 nl2 x n hE hn hlen hl hln hx r (e + 1) met hm h1 h3)
    rw [cnd_neg c1] at res
    have hu : upTo l.length (d :: r) = d :: upTo l.length r := by
      unfold upTo; rw [List.filter_cons_of_pos (by simp; omega)]
    have ha := hl.at hd.1 (show d.1 < l.length by omega)
    have key : ∀ y : Int, y = labAt (l ++ [x]) d.2 → 0 ≤ y ∧ y ≤ 10 → (max y (labAt l d.1) - min y (labAt l d.1)).toNat = dlt (l ++ [x]) d := by
      intro y hy _
      unfold dlt dist
      rw [← hy, labAt_snoc hd.1 (by omega)]
    rw [hu, List.map_cons, chkD]
    have hla : l.getD d.1.toNat 0 = labAt l d.1 := rfl
    by_cases q2 : d.2 < (l.length : Int)
    · have hb := hl.at (show 0 ≤ d.2 by omega) q2
      have k1 := key (labAt l d.2) (labAt_snoc (by omega) q2).symm hb
      have hlb : l.getD d.2.toNat 0 = labAt l d.2 := rfl
      rw [cnd_pos q2] at res
      revert res
      simp (disch := omega) only [cnd_pos, cnd_neg, inR_pos, ble_pos, blt_pos, beq_pos, cond_and, cond_or, Bool.cond_not, cond_true, cond_false, Bool.and_true, Bool.true_and, getI_some, getB_some, nth_ints_o, nth_bools_o, wrap64_o, len_ints, len_bools, lenOf_1, Int.toNat_natCast, Nat.mul_one, Nat.zero_add, setNth_bools_o, setNth_ints_o, len_set_i, len_set_b, Option.bind_some, List.length_append, List.length_cons, List.length_nil, unI_ints, unB_bools, ints_app1, bools_app1, nth_pr1, nth_pr2, len_prs, abs_if, Nat.add_zero, cond_same, hla, hlb]
      rw [k1]
      have hlt : dlt (l ++ [x]) d < met.length := by omega
      try simp (disch := omega) only [cnd_pos, cnd_neg, inR_pos, ble_pos, blt_pos, beq_pos, cond_and, cond_or, Bool.cond_not, cond_true, cond_false, Bool.and_true, Bool.true_and, getI_some, getB_some, nth_ints_o, nth_bools_o, wrap64_o, len_ints, len_bools, lenOf_1, Int.toNat_natCast, Nat.mul_one, Nat.zero_add, setNth_bools_o, setNth_ints_o, len_set_i, len_set_b, Option.bind_some, List.length_append, List.length_cons, List.length_nil, unI_ints, unB_bools, ints_app1, bools_app1, nth_pr1, nth_pr2, len_prs, abs_if, Nat.add_zero, cond_same]
      intro res
      cases hbit : met.getD (dlt (l ++ [x]) d) false with
      | true =>
        rw [hbit] at res
        exact .out k61_0 (by simp) res
      | false =>
        rw [hbit] at res
        exact .next k61_0 res (l61_0 E c nl l c2 nl2 x n hE hn hlen hl hln hx r (e + 1) _ (by simpa using hm) h1 h3)
    · have k1 := key x (labAt_last (by omega)).symm hx
      rw [cnd_neg q2] at res
      revert res
      simp (disch := omega) only [cnd_pos, cnd_neg, inR_pos, ble_pos, blt_pos, beq_pos, cond_and, cond_or, Bool.cond_not, cond_true, cond_false, Bool.and_true, Bool.true_and, getI_some, getB_some, nth_ints_o, nth_bools_o, wrap64_o, len_ints, len_bools, lenOf_1, Int.toNat_natCast, Nat.mul_one, Nat.zero_add, setNth_bools_o, setNth_ints_o, len_set_i, len_set_b, Option.bind_some, List.length_append, List.length_cons, List.length_nil, unI_ints, unB_bools, ints_app1, bools_app1, nth_pr1, nth_pr2, len_prs, abs_if, Nat.add_zero, cond_same, hla]
      rw [k1]
      have hlt : dlt (l ++ [x]) d < met.length := by omega
      try simp (disch := omega) only [cnd_pos, cnd_neg, inR_pos, ble_pos, blt_pos, beq_pos, cond_and, cond_or, Bool.cond_not, cond_true, cond_false, Bool.and_true, Bool.true_and, getI_some, getB_some, nth_ints_o, nth_bools_o, wrap64_o, len_ints, len_bools, lenOf_1, Int.toNat_natCast, Nat.mul_one, Nat.zero_add, setNth_bools_o, setNth_ints_o, len_set_i, len_set_b, Option.bind_some, List.length_append, List.length_cons, List.length_nil, unI_ints, unB_bools, ints_app1, bools_app1, nth_pr1, nth_pr2, len_prs, abs_if, Nat.add_zero, cond_same]
      intro res
      cases hbit : met.getD (dlt (l ++ [x]) d) false with
      | true =>
        rw [hbit] at res
        exact .out k61_0 (by simp) res
      | false =>
        rw [hbit] at res
        exact .next k61_0 res (l61_0 E c nl l c2 nl2 x n hE hn hlen hl hln hx r (e + 1) _ (by simpa using hm) h1 h3)

theorem l61_2 (l : List Int) (c2 nl2 : Bool) (x : Int) (hl : l.length ≤ 100) : ∀ (r : List Int) (v : Nat), v ≤ l.length → l.drop v = r →
      LoopAt aeC Ev.nil 61 0 Try.f61 2 (t61 l c2 nl2 x v) (bif r.contains x then .ret else .exit 2) (bif r.contains x then ⟨[(6, .d (bD false))], [], []⟩ else ⟨[], [], []⟩)
  | [], v, hv, hr => by
    have h1 := drop_nil_o hr
    refine .out k61_2 (by simp) ((r61_2 ..).trans ?_)
    simp (disch := omega) only [cnd_pos, cnd_neg, inR_pos, ble_pos, blt_pos, beq_pos, cond_and, cond_or, Bool.cond_not, cond_true, cond_false, Bool.and_true, Bool.true_and, getI_some, getB_some, nth_ints_o, nth_bools_o, wrap64_o, len_ints, len_bools, lenOf_1, Int.toNat_natCast, Nat.mul_one, Nat.zero_add, setNth_bools_o, setNth_ints_o, len_set_i, len_set_b, Option.bind_some, List.length_append, List.length_cons, List.length_nil, unI_ints, unB_bools, ints_app1, bools_app1, nth_pr1, nth_pr2, len_prs, abs_if, Nat.add_zero, cond_same]
    rfl
  | y :: r, v, hv, hr => by
    obtain ⟨h1, h2, h3⟩ := drop_cons_o (d := 0) hr
    have res := r61_2 l c2 nl2 x v
    revert res
    simp (disch := omega) only [cnd_pos, cnd_neg, inR_pos, ble_pos, blt_pos, beq_pos, cond_and, cond_or, Bool.cond_not, cond_true, cond_false, Bool.and_true, Bool.true_and, getI_some, getB_some, nth_ints_o, nth_bools_o, wrap64_o, len_ints, len_bools, lenOf_1, Int.toNat_natCast, Nat.mul_one, Nat.zero_add, setNth_bools_o, setNth_ints_o, len_set_i, len_set_b, Option.bind_some, List.length_append, List.length_cons, List.length_nil, unI_ints, unB_bools, ints_app1, bools_app1, nth_pr1, nth_pr2, len_prs, abs_if, Nat.add_zero, cond_same]
    rw [h2]
    intro res
    by_cases c : y = x
    · rw [cnd_pos c] at res
      subst c
      have : List.contains (y :: r) y = true := by simp
      rw [this]
      exact .out k61_2 (by simp) res
    · rw [cnd_neg c] at res
      have : List.contains (y :: r) x = List.contains r x := by
        simp [Ne.symm c]
      rw [this]
      exact .next k61_2 res (l61_2 l c2 nl2 x hl r (v + 1) h1 h3)

/-- A label fits as the next one. -/
def fitsB (E : List (Int × Int)) (l : List Int) (x : Int) : Bool := (chkD ((upTo l.length E).map (dlt (l ++ [x]))) (List.replicate 11 false)).isSome && !l.contains x

theorem fits_ok (E : List (Int × Int)) (c nl : Bool) (l : List Int) (c2 nl2 : Bool) (x : Int) (n : Nat) (hE : EdOK n E) (hn : n ≤ 100) (hlen : E.length ≤ 100) (hl : LabOK 10 l) (hln : l.length ≤ n) (hx : 0 ≤ x ∧ x ≤ 10) :
    PureOK Try.prog 61 [edgX E c nl, lstX l c2 nl2, iD x] (bD (fitsB E l x)) := by
  refine ae_pure EvOK.nil (fn := Try.f61) k61 (by kernel_rfl) (by kernel_rfl) ?_
  rw [startF_seg k61 (r61 ..) (l61_0 E c nl l c2 nl2 x n hE hn hlen hl hln hx E 0 (List.replicate 11 false) rfl (by omega) rfl)]
  unfold fitsB
  cases h : (chkD ((upTo l.length E).map (dlt (l ++ [x]))) (List.replicate 11 false)).isSome with
  | false => exact nextF_done k61 done_plain r61_1r
  | true =>
    simp only [cond_true, Bool.true_and]
    rw [nextF_seg k61 (by simp) (exit_small (by omega)) (r61_1 ..) (l61_2 l c2 nl2 x (by omega) l 0 (by omega) rfl)]
    cases List.contains l x with
    | true => exact nextF_done k61 done_plain r61_xr
    | false => exact nextF_done k61 done_plain r61_x

/-! ### 'Graceful' -/
/-- Labels from 0 to m, each of them new. -/
def newS (m : Nat) : List Int → List Int → Bool
  | _, [] => true
  | p, x :: r => decide (0 ≤ x) && (decide (x ≤ m) && (!p.contains x && newS m (p ++ [x]) r))

/-- Labels are graceful. -/
def gracB (n : Int) (E : List (Int × Int)) (l : List Int) : Bool := decide ((l.length : Int) = n) && (newS E.length [] l && (chkD (E.map (dlt l)) (List.replicate (E.length + 1) false)).isSome)

theorem l16_2 (n : Int) (E : List (Int × Int)) (c nl : Bool) (l : List Int) (c2 nl2 : Bool) (v : Nat) (hv : v < l.length) (hl : l.length ≤ 100) : ∀ (r : List Int) (u : Nat), u ≤ v → (l.take v).drop u = r →
      LoopAt aeC Ev.nil 16 0 Try.f16 2 (t16 n E c nl l c2 nl2 v u) (bif r.contains (l.getD v 0) then .ret else .exit 2) (bif r.contains (l.getD v 0) then ⟨[(6, .d (bD false))], [], []⟩ else s16 n E c nl l c2 nl2 v)
  | [], u, hu, hr => by
    have h1 := drop_nil_o hr
    rw [List.length_take] at h1
    refine .out k16_2 (by simp) ((r16_2 ..).trans ?_)
    simp (disch := omega) only [cnd_pos, cnd_neg, inR_pos, ble_pos, blt_pos, beq_pos, cond_and, cond_or, Bool.cond_not, cond_true, cond_false, Bool.and_true, Bool.true_and, getI_some, getB_some, nth_ints_o, nth_bools_o, wrap64_o, len_ints, len_bools, lenOf_1, Int.toNat_natCast, Nat.mul_one, Nat.zero_add, setNth_bools_o, setNth_ints_o, len_set_i, len_set_b, Option.bind_some, List.length_append, List.length_cons, List.length_nil, unI_ints, unB_bools, ints_app1, bools_app1, nth_pr1, nth_pr2, len_prs, abs_if, Nat.add_zero, cond_same]
    rfl
  | y :: r, u, hu, hr => by
    obtain ⟨h1, h2, h3⟩ := drop_cons_o (d := 0) hr
    rw [List.length_take] at h1
    rw [getD_take_o (by omega)] at h2
    have res := r16_2 n E c nl l c2 nl2 v u
    revert res
    simp (disch := omega) only [cnd_pos, cnd_neg, inR_pos, ble_pos, blt_pos, beq_pos, cond_and, cond_or, Bool.cond_not, cond_true, cond_false, Bool.and_true, Bool.true_and, getI_some, getB_some, nth_ints_o, nth_bools_o, wrap64_o, len_ints, len_bools, lenOf_1, Int.toNat_natCast, Nat.mul_one, Nat.zero_add, setNth_bools_o, setNth_ints_o, len_set_i, len_set_b, Option.bind_some, List.length_append, List.length_cons, List.length_nil, unI_ints, unB_bools, ints_app1, bools_app1, nth_pr1, nth_pr2, len_prs, abs_if, Nat.add_zero, cond_same]
    rw [h2]
    intro res
    by_cases hc : y = l.getD v 0
    · rw [cnd_pos hc] at res
      have : List.contains (y :: r) (l.getD v 0) = true := by rw [← hc]; simp
      rw [this]
      exact .out k16_2 (by simp) res
    · rw [cnd_neg hc] at res
      have : List.contains (y :: r) (l.getD v 0) = List.contains r (l.getD v 0) := by
        rw [List.contains_cons, show (l.getD v 0 == y) = false by simpa using Ne.symm hc, Bool.false_or]
      rw [this]
      exact .next k16_2 res (l16_2 n E c nl l c2 nl2 v hv hl r (u + 1) (by omega) h3)

theorem l16_0 (n : Int) (E : List (Int × Int)) (c nl : Bool) (l : List Int) (c2 nl2 : Bool) (hn : (l.length : Int) = n) (hl : l.length ≤ 100) (hE : E.length ≤ 100) : ∀ (r : List Int) (v : Nat), v ≤ l.length → l.drop v = r →
      LoopAt aeC Ev.nil 16 0 Try.f16 0 (s16 n E c nl l c2 nl2 v) (bif newS E.length (l.take v) r then .exit 0 else .ret) (bif newS E.length (l.take v) r then x16 E c nl l c2 nl2 else ⟨[(6, .d (bD false))], [], []⟩)
  | [], v, hv, hr => by
    have h1 := drop_nil_o hr
    refine .out k16_0 (by simp [newS]) ((r16_0 ..).trans ?_)
    simp (disch := omega) only [cnd_pos, cnd_neg, inR_pos, ble_pos, blt_pos, beq_pos, cond_and, cond_or, Bool.cond_not, cond_true, cond_false, Bool.and_true, Bool.true_and, getI_some, getB_some, nth_ints_o, nth_bools_o, wrap64_o, len_ints, len_bools, lenOf_1, Int.toNat_natCast, Nat.mul_one, Nat.zero_add, setNth_bools_o, setNth_ints_o, len_set_i, len_set_b, Option.bind_some, List.length_append, List.length_cons, List.length_nil, unI_ints, unB_bools, ints_app1, bools_app1, nth_pr1, nth_pr2, len_prs, abs_if, Nat.add_zero, cond_same]
    rfl
  | y :: r, v, hv, hr => by
    obtain ⟨h1, h2, h3⟩ := drop_cons_o (d := 0) hr
    have res := r16_0 n E c nl l c2 nl2 v
    have resh := r16_0h n E c nl l c2 nl2 v
    revert res resh
    simp (disch := omega) only [cnd_pos, cnd_neg, inR_pos, ble_pos, blt_pos, beq_pos, cond_and, cond_or, Bool.cond_not, cond_true, cond_false, Bool.and_true, Bool.true_and, getI_some, getB_some, nth_ints_o, nth_bools_o, wrap64_o, len_ints, len_bools, lenOf_1, Int.toNat_natCast, Nat.mul_one, Nat.zero_add, setNth_bools_o, setNth_ints_o, len_set_i, len_set_b, Option.bind_some, List.length_append, List.length_cons, List.length_nil, unI_ints, unB_bools, ints_app1, bools_app1, nth_pr1, nth_pr2, len_prs, abs_if, Nat.add_zero, cond_same]
    rw [h2]
    intro res resh
    simp only [newS]
    by_cases c1 : y < 0
    · rw [cnd_pos c1] at res
      rw [decide_eq_false (show ¬ 0 ≤ y by omega), Bool.false_and]
      exact .out k16_0 (by simp) res
    rw [cnd_neg c1] at res resh
    rw [decide_eq_true (show 0 ≤ y by omega), Bool.true_and]
    by_cases c3 : (E.length : Int) < y
    · rw [cnd_pos c3] at res
      rw [decide_eq_false (show ¬ y ≤ (E.length : Int) by omega), Bool.false_and]
      exact .out k16_0 (by simp) res
    rw [cnd_neg c3] at resh
    rw [decide_eq_true (show y ≤ (E.length : Int) by omega), Bool.true_and]
    have inner := l16_2 n E c nl l c2 nl2 v h1 hl (l.take v) 0 (by omega) rfl
    rw [h2] at inner
    have hseg := fun (D : Ex → St → Option (Ex × St)) => startF_seg (D := D) k16_0 resh inner
    cases hc : List.contains (l.take v) y with
    | true =>
      rw [hc] at hseg
      exact .outF k16_0 (by simp) ((hseg _).trans (nextF_done k16_0 roundD_plain r16_2r))
    | false =>
      rw [hc] at hseg
      have htk : l.take v ++ [y] = l.take (v + 1) := by
        rw [List.take_add_one, ← h2]; simp [h1]
      simp only [htk, Bool.not_false, Bool.true_and]
      refine .nextF k16_0 ((hseg _).trans (nextF_done k16_0 roundD_plain (r16_2n ..))) ?_
      rw [wrap64 (by omega) (by omega)]
      exact l16_0 n E c nl l c2 nl2 hn hl hE r (v + 1) h1 h3

theorem newS_lab : ∀ {m : Nat} {p r : List Int}, newS m p r = true → LabOK m r
  | m, p, [], _ => by intro x hx; cases hx
  | m, p, y :: r, h => by
    simp only [newS, Bool.and_eq_true, decide_eq_true_eq] at h
    intro x hx
    rcases List.mem_cons.1 hx with rfl | hx
    · exact ⟨h.1, h.2.1⟩
    · exact newS_lab h.2.2.2 x hx

theorem l16_4 (E : List (Int × Int)) (c nl : Bool) (l : List Int) (c2 nl2 : Bool) (hl : LabOK E.length l) (hEd : EdOK l.length E) (hln : l.length ≤ 100) (hlen : E.length ≤ 100) : ∀ (r : List (Int × Int)) (e : Nat) (met : List Bool), met.length = E.length + 1 → e ≤ E.length → E.drop e = r →
      LoopAt aeC Ev.nil 16 0 Try.f16 4 (u16 E c nl l c2 nl2 (E.length + 1) (bools met) e) (bif (chkD (r.map (dlt l)) met).isSome then .exit 4 else .ret) (bif (chkD (r.map (dlt l)) met).isSome then ⟨[], [], []⟩ else ⟨[(6, .d (bD false))], [], []⟩)
  | [], e, met, hm, he, hr => by
    have h1 := drop_nil_o hr
    refine .out k16_4 (by simp [chkD]) ((r16_4 ..).trans ?_)
    simp (disch := omega) only [cnd_pos, cnd_neg, inR_pos, ble_pos, blt_pos, beq_pos, cond_and, cond_or, Bool.cond_not, cond_true, cond_false, Bool.and_true, Bool.true_and, getI_some, getB_some, nth_ints_o, nth_bools_o, wrap64_o, len_ints, len_bools, lenOf_1, Int.toNat_natCast, Nat.mul_one, Nat.zero_add, setNth_bools_o, setNth_ints_o, len_set_i, len_set_b, Option.bind_some, List.length_append, List.length_cons, List.length_nil, unI_ints, unB_bools, ints_app1, bools_app1, nth_pr1, nth_pr2, len_prs, abs_if, Nat.add_zero, cond_same]
    rfl
  | d :: r, e, met, hm, he, hr => by
    obtain ⟨h1, h2, h3⟩ := drop_cons_o (d := (0, 0)) hr
    have hd := hEd.get h1
    have res := r16_4 E c nl l c2 nl2 (E.length + 1) (bools met) e
    have ha := hl.at hd.1 (by omega)
    have hb := hl.at (show 0 ≤ (E.getD e (0, 0)).2 by omega) hd.2.2
    rw [h2] at hd ha hb
    revert res
    simp (disch := omega) only [cnd_pos, cnd_neg, inR_pos, ble_pos, blt_pos, beq_pos, cond_and, cond_or, Bool.cond_not, cond_true, cond_false, Bool.and_true, Bool.true_and, getI_some, getB_some, nth_ints_o, nth_bools_o, wrap64_o, len_ints, len_bools, lenOf_1, Int.toNat_natCast, Nat.mul_one, Nat.zero_add, setNth_bools_o, setNth_ints_o, len_set_i, len_set_b, Option.bind_some, List.length_append, List.length_cons, List.length_nil, unI_ints, unB_bools, ints_app1, bools_app1, nth_pr1, nth_pr2, len_prs, abs_if, Nat.add_zero, cond_same, h2, show l.getD d.1.toNat 0 = labAt l d.1 from rfl, show l.getD d.2.toNat 0 = labAt l d.2 from rfl]
    have k1 : (max (labAt l d.2) (labAt l d.1) - min (labAt l d.2) (labAt l d.1)).toNat = dlt l d := rfl
    rw [k1]
    have hlt : dlt l d < met.length := by rw [← k1]; omega
    try simp (disch := omega) only [cnd_pos, cnd_neg, inR_pos, ble_pos, blt_pos, beq_pos, cond_and, cond_or, Bool.cond_not, cond_true, cond_false, Bool.and_true, Bool.true_and, getI_some, getB_some, nth_ints_o, nth_bools_o, wrap64_o, len_ints, len_bools, lenOf_1, Int.toNat_natCast, Nat.mul_one, Nat.zero_add, setNth_bools_o, setNth_ints_o, len_set_i, len_set_b, Option.bind_some, List.length_append, List.length_cons, List.length_nil, unI_ints, unB_bools, ints_app1, bools_app1, nth_pr1, nth_pr2, len_prs, abs_if, Nat.add_zero, cond_same]
    intro res
    rw [List.map_cons, chkD]
    cases hbit : met.getD (dlt l d) false with
    | true =>
      rw [hbit] at res
      exact .out k16_4 (by simp) res
    | false =>
      rw [hbit] at res
      exact .next k16_4 res (l16_4 E c nl l c2 nl2 hl hEd hln hlen r (e + 1) _ (by simpa using hm) h1 h3)

theorem flat_false : ∀ n : Nat, List.flatten (List.replicate n [bD false]) = bools (List.replicate n false)
  | 0 => rfl
  | n + 1 => by rw [List.replicate_succ, List.flatten_cons, flat_false n]; rfl

theorem grac_ok (n : Nat) (E : List (Int × Int)) (c nl : Bool) (l : List Int) (c2 nl2 : Bool) (hE : EdOK n E) (hn : n ≤ 100) (hlen : E.length ≤ 100) : PureOK Try.prog 16 [iD n, edgX E c nl, lstX l c2 nl2] (bD (gracB n E l)) := by
  refine ae_pure EvOK.nil (fn := Try.f16) k16 (by kernel_rfl) (by kernel_rfl) ?_
  unfold gracB
  by_cases hl : (l.length : Int) = n
  · have h0 := r16 n E c nl l c2 nl2
    rw [decide_eq_true hl, Bool.not_true, cond_false] at h0
    rw [decide_eq_true hl, Bool.true_and, startF_seg k16 h0 (l16_0 n E c nl l c2 nl2 hl (by omega) hlen l 0 (by omega) rfl)]
    rw [List.take_zero]
    cases hnew : newS E.length [] l with
    | false => exact nextF_done k16 done_plain r16_1r
    | true =>
      have h1 := r16_1 E c nl l c2 nl2
      rw [wrap64 (by omega) (by omega), decide_eq_true (show (0 : Int) ≤ E.length + 1 by omega), decide_eq_true (show (E.length : Int) + 1 ≤ E.length + 1 by omega), decide_eq_true (show (E.length : Int) + 1 ≤ 1048576 by omega), show ((E.length : Int) + 1).toNat = E.length + 1 by omega, flat_false] at h1
      simp only [Bool.and_self, cond_true] at h1
      simp only [cond_true, Bool.true_and]
      have hlE : l.length = n := by omega
      rw [nextF_seg k16 (by simp) (exit_small (by omega)) h1 (l16_4 E c nl l c2 nl2 (newS_lab hnew) (by rw [hlE]; exact hE) (by omega) hlen E 0 _ (by simp) (by omega) rfl)]
      cases (chkD (E.map (dlt l)) (List.replicate (E.length + 1) false)).isSome with
      | true => exact nextF_done k16 done_plain r16_x
      | false => exact nextF_done k16 done_plain r16_xr
  · have h0 := r16_d n E c nl l c2 nl2
    rw [decide_eq_false hl] at h0 ⊢
    exact startF_done k16 done_plain h0
end Go.Proofs.Ytkcdbndpcabelaa

/- Chapter 02: by which number labels part, by the document. -/
namespace Go.Proofs.Ytkcdbndpcabelaa
open Go Go.AE

theorem k39 : OkSeg Try.f39 none [0] := ⟨by kernel_rfl, by kernel_rfl, by decide⟩
theorem k39_0 : OkSeg Try.f39 (some 0) [2] := ⟨by kernel_rfl, by kernel_rfl, by decide⟩
theorem k39_2 : OkSeg Try.f39 (some 2) [] := ⟨by kernel_rfl, by kernel_rfl, by decide⟩

noncomputable def s39 (E : List (Int × Int)) (c nl : Bool) (l : List Int) (c2 nl2 : Bool) (k : Int) : St := ⟨[(0, .d (edgX E c nl)), (1, .d (lstX l c2 nl2)), (6, .d (iD k))], [], []⟩
noncomputable def t39 (E : List (Int × Int)) (c nl : Bool) (l : List Int) (c2 nl2 : Bool) (k : Int) (ok : Bool) (e : Int) : St := ⟨[(0, .d (edgX E c nl)), (1, .d (lstX l c2 nl2)), (6, .d (iD k)), (7, .d (bD ok)), (8, .d (iD e))], [], []⟩
noncomputable def x39 (E : List (Int × Int)) (c nl : Bool) (l : List Int) (c2 nl2 : Bool) (k : Int) (ok : Bool) : St := ⟨[(0, .d (edgX E c nl)), (1, .d (lstX l c2 nl2)), (6, .d (iD k)), (7, .d (bD ok))], [], []⟩


theorem r39 (E : List (Int × Int)) (c nl : Bool) (l : List Int) (c2 nl2 : Bool) : startS aeC Ev.nil 39 0 Try.f39 none ⟨envOf 0 ([edgX E c nl, lstX l c2 nl2].map .d), [], []⟩ (heldD aeC 39 0) =
  some (0, ⟨[(0, .d (DV.sl (edD E) (List.length E) 2 c nl)), (1, .d (DV.sl (ints l) (List.length l) 1 c2 nl2)), (6, .d (iD 0))], [], []⟩) := by kernel_rfl

theorem r39_0 (E : List (Int × Int)) (c nl : Bool) (l : List Int) (c2 nl2 : Bool) (k : Int) : startS aeC Ev.nil 39 0 Try.f39 (some 0) (s39 E c nl l c2 nl2 k) (roundD aeC 39 0 0) =
  bif decide (k < (↑(List.length E) : Int)) then
    none
  else
    some (Ex.exit 0, ⟨[], [], []⟩) := by kernel_rfl

theorem r39_0h (E : List (Int × Int)) (c nl : Bool) (l : List Int) (c2 nl2 : Bool) (k : Int) : startS aeC Ev.nil 39 0 Try.f39 (some 0) (s39 E c nl l c2 nl2 k) (heldD aeC 39 0) =
  bif decide (k < (↑(List.length E) : Int)) then
    some (2, ⟨[(0, .d (DV.sl (edD E) (List.length E) 2 c nl)), (1, .d (DV.sl (ints l) (List.length l) 1 c2 nl2)), (6, .d (iD k)), (7, .d (bD true)), (8, .d (iD 0))], [], []⟩)
  else
    none := by kernel_rfl

theorem r39_2 (E : List (Int × Int)) (c nl : Bool) (l : List Int) (c2 nl2 : Bool) (k : Int) (ok : Bool) (e : Int) : startS aeC Ev.nil 39 0 Try.f39 (some 2) (t39 E c nl l c2 nl2 k ok e) (roundD aeC 39 0 2) =
  bif decide (e < (↑(List.length E) : Int)) then
    bif ok then
      bif inRange e (List.length E) then
        getI (nth (edD E) (Int.toNat e * 2 + 0)) fun x0 =>
        bif inRange x0 (List.length l) then
          getI (nth (ints l) (Int.toNat x0 * 1)) fun x1 =>
          bif inRange e (List.length E) then
            getI (nth (edD E) (Int.toNat e * 2 + 1)) fun x2 =>
            bif inRange x2 (List.length l) then
              getI (nth (ints l) (Int.toNat x2 * 1)) fun x3 =>
              some (Ex.norm, ⟨[(0, .d (DV.sl (edD E) (List.length E) 2 c nl)), (1, .d (DV.sl (ints l) (List.length l) 1 c2 nl2)), (6, .d (iD k)), (7, .d (bD !decide (decide (x1 ≤ k) = decide (x3 ≤ k)))), (8, .d (iD (IntKind.wrap IntKind.i64 (e + 1))))], [], []⟩)
            else
              none
          else
            none
        else
          none
      else
        none
    else
      some (Ex.norm, ⟨[(0, .d (DV.sl (edD E) (List.length E) 2 c nl)), (1, .d (DV.sl (ints l) (List.length l) 1 c2 nl2)), (6, .d (iD k)), (7, .d (bD false)), (8, .d (iD (IntKind.wrap IntKind.i64 (e + 1))))], [], []⟩)
  else
    some (Ex.exit 2, ⟨[(0, .d (DV.sl (edD E) (List.length E) 2 c nl)), (1, .d (DV.sl (ints l) (List.length l) 1 c2 nl2)), (6, .d (iD k)), (7, .d (bD ok))], [], []⟩) := by kernel_rfl

theorem r39_2n (E : List (Int × Int)) (c nl : Bool) (l : List Int) (c2 nl2 : Bool) (k : Int) (ok : Bool) : nextS aeC Ev.nil 39 0 Try.f39 (some 0) 2 (.exit 2) (x39 E c nl l c2 nl2 k ok) (roundD aeC 39 0 0) =
  bif ok then
    some (Ex.ret, ⟨[(4, .d (iD k)), (5, .d (bD true))], [], []⟩)
  else
    some (Ex.norm, ⟨[(0, .d (DV.sl (edD E) (List.length E) 2 c nl)), (1, .d (DV.sl (ints l) (List.length l) 1 c2 nl2)), (6, .d (iD (IntKind.wrap IntKind.i64 (k + 1))))], [], []⟩) := by kernel_rfl

theorem r39_x  : nextS aeC Ev.nil 39 0 Try.f39 none 0 (.exit 0) ⟨[], [], []⟩ (doneE aeC Try.f39 0 fun v h => freezeV h 4 v) =
  some (DV.tup [iD 0, bD false]) := by kernel_rfl

theorem r39_xr (k : Int) : nextS aeC Ev.nil 39 0 Try.f39 none 0 .ret ⟨[(4, .d (iD k)), (5, .d (bD true))], [], []⟩ (doneE aeC Try.f39 0 fun v h => freezeV h 4 v) =
  some (DV.tup [iD k, bD true]) := by kernel_rfl

/-! ### 'Parts' -/
/-- An edge's labels lie on two sides of a number. -/
def splitE (l : List Int) (k : Int) (e : Int × Int) : Bool := !decide (decide (labAt l e.1 ≤ k) = decide (labAt l e.2 ≤ k))

theorem l39_2 (E : List (Int × Int)) (c nl : Bool) (l : List Int) (c2 nl2 : Bool) (k : Int) (hE : EdOK l.length E) (hlen : E.length ≤ 100) : ∀ (r : List (Int × Int)) (e : Nat) (ok : Bool), e ≤ E.length → E.drop e = r →
      LoopAt aeC Ev.nil 39 0 Try.f39 2 (t39 E c nl l c2 nl2 k ok e) (.exit 2) (x39 E c nl l c2 nl2 k (ok && r.all (splitE l k)))
  | [], e, ok, he, hr => by
    have h1 := drop_nil_o hr
    refine .out k39_2 (by simp) ((r39_2 ..).trans ?_)
    simp (disch := omega) only [cnd_pos, cnd_neg, inR_pos, ble_pos, blt_pos, beq_pos, cond_and, cond_or, Bool.cond_not, cond_true, cond_false, Bool.and_true, Bool.true_and, getI_some, getB_some, nth_ints_o, nth_bools_o, wrap64_o, len_ints, len_bools, lenOf_1, Int.toNat_natCast, Nat.mul_one, Nat.zero_add, setNth_bools_o, setNth_ints_o, len_set_i, len_set_b, Option.bind_some, List.length_append, List.length_cons, List.length_nil, unI_ints, unB_bools, ints_app1, bools_app1, nth_pr1, nth_pr2, len_prs, abs_if, Nat.add_zero, cond_same, List.all_nil]
    rfl
  | d :: r, e, ok, he, hr => by
    obtain ⟨h1, h2, h3⟩ := drop_cons_o (d := (0, 0)) hr
    have hd := hE.get h1
    have res := r39_2 E c nl l c2 nl2 k ok e
    rw [h2] at hd
    cases ok with
    | false =>
      revert res
      simp (disch := omega) only [cnd_pos, cnd_neg, inR_pos, ble_pos, blt_pos, beq_pos, cond_and, cond_or, Bool.cond_not, cond_true, cond_false, Bool.and_true, Bool.true_and, getI_some, getB_some, nth_ints_o, nth_bools_o, wrap64_o, len_ints, len_bools, lenOf_1, Int.toNat_natCast, Nat.mul_one, Nat.zero_add, setNth_bools_o, setNth_ints_o, len_set_i, len_set_b, Option.bind_some, List.length_append, List.length_cons, List.length_nil, unI_ints, unB_bools, ints_app1, bools_app1, nth_pr1, nth_pr2, len_prs, abs_if, Nat.add_zero, cond_same]
      intro res
      rw [Bool.false_and]
      have := l39_2 E c nl l c2 nl2 k hE hlen r (e + 1) false h1 h3
      rw [Bool.false_and] at this
      exact .next k39_2 res this
    | true =>
      revert res
      simp (disch := omega) only [cnd_pos, cnd_neg, inR_pos, ble_pos, blt_pos, beq_pos, cond_and, cond_or, Bool.cond_not, cond_true, cond_false, Bool.and_true, Bool.true_and, getI_some, getB_some, nth_ints_o, nth_bools_o, wrap64_o, len_ints, len_bools, lenOf_1, Int.toNat_natCast, Nat.mul_one, Nat.zero_add, setNth_bools_o, setNth_ints_o, len_set_i, len_set_b, Option.bind_some, List.length_append, List.length_cons, List.length_nil, unI_ints, unB_bools, ints_app1, bools_app1, nth_pr1, nth_pr2, len_prs, abs_if, Nat.add_zero, cond_same, h2, show l.getD d.1.toNat 0 = labAt l d.1 from rfl, show l.getD d.2.toNat 0 = labAt l d.2 from rfl]
      intro res
      rw [List.all_cons]
      exact .next k39_2 res (l39_2 E c nl l c2 nl2 k hE hlen r (e + 1) _ h1 h3)

/-- The least number by which labels part, j numbers ahead of the end. -/
def partL (E : List (Int × Int)) (l : List Int) : Nat → Option Int
  | 0 => none
  | j + 1 => if E.all (splitE l ((E.length : Int) - (j + 1 : Nat))) = true then some ((E.length : Int) - (j + 1 : Nat)) else partL E l j

def partD (o : Option Int) : DV := bif o.isSome then .tup [iD (o.getD 0), bD true] else .tup [iD 0, bD false]

theorem l39_0 (E : List (Int × Int)) (c nl : Bool) (l : List Int) (c2 nl2 : Bool) (hE : EdOK l.length E) (hlen : E.length ≤ 100) : ∀ (j : Nat), j ≤ E.length →
      LoopAt aeC Ev.nil 39 0 Try.f39 0 (s39 E c nl l c2 nl2 ((E.length : Int) - j)) (bif (partL E l j).isSome then .ret else .exit 0) (bif (partL E l j).isSome then ⟨[(4, .d (iD ((partL E l j).getD 0))), (5, .d (bD true))], [], []⟩ else ⟨[], [], []⟩)
  | 0, hj => by
    refine .out k39_0 (by simp [partL]) ((r39_0 ..).trans ?_)
    simp (disch := omega) only [cnd_pos, cnd_neg, inR_pos, ble_pos, blt_pos, beq_pos, cond_and, cond_or, Bool.cond_not, cond_true, cond_false, Bool.and_true, Bool.true_and, getI_some, getB_some, nth_ints_o, nth_bools_o, wrap64_o, len_ints, len_bools, lenOf_1, Int.toNat_natCast, Nat.mul_one, Nat.zero_add, setNth_bools_o, setNth_ints_o, len_set_i, len_set_b, Option.bind_some, List.length_append, List.length_cons, List.length_nil, unI_ints, unB_bools, ints_app1, bools_app1, nth_pr1, nth_pr2, len_prs, abs_if, Nat.add_zero, cond_same]
    rfl
  | j + 1, hj => by
    have h0 := r39_0h E c nl l c2 nl2 ((E.length : Int) - (j + 1 : Nat))
    rw [cnd_pos (by omega)] at h0
    have inner := l39_2 E c nl l c2 nl2 ((E.length : Int) - (j + 1 : Nat)) hE hlen E 0 true (by omega) rfl
    rw [Bool.true_and] at inner
    have hseg := fun (D : Ex → St → Option (Ex × St)) => startF_seg (D := D) k39_0 h0 inner
    have hn := r39_2n E c nl l c2 nl2 ((E.length : Int) - (j + 1 : Nat)) (E.all (splitE l ((E.length : Int) - (j + 1 : Nat))))
    simp only [partL]
    cases ha : E.all (splitE l ((E.length : Int) - (j + 1 : Nat))) with
    | true =>
      rw [ha] at hn hseg
      exact .outF k39_0 (by simp) ((hseg _).trans (nextF_done k39_0 roundD_plain hn))
    | false =>
      rw [ha] at hn hseg
      rw [if_neg (by simp)]
      refine .nextF k39_0 ((hseg _).trans (nextF_done k39_0 roundD_plain hn)) ?_
      rw [wrap64 (by omega) (by omega), show (E.length : Int) - (j + 1 : Nat) + 1 = (E.length : Int) - j by omega]
      exact l39_0 E c nl l c2 nl2 hE hlen j (by omega)

theorem rparts_ok (E : List (Int × Int)) (c nl : Bool) (l : List Int) (c2 nl2 : Bool) (hE : EdOK l.length E) (hlen : E.length ≤ 100) : PureOK Try.prog 39 [edgX E c nl, lstX l c2 nl2] (partD (partL E l E.length)) := by
  refine ae_pure EvOK.nil (fn := Try.f39) k39 (by kernel_rfl) (by kernel_rfl) ?_
  have loop := l39_0 E c nl l c2 nl2 hE hlen E.length (by omega)
  rw [Int.sub_self] at loop
  rw [startF_seg k39 (r39 ..) loop]
  refine nextF_done k39 done_plain ?_
  unfold partD
  cases partL E l E.length with
  | none => exact r39_x
  | some k => exact r39_xr k

/-! ### Oracles -/
/-- What edges and labels are as data. -/
noncomputable def okG16 (n : Int) (es : List DV) (m : Nat) (cs : List DV) (k : Nat) : Bool := isP (isE es m = true ∧ isI cs = true ∧ cs.length = k ∧ 0 ≤ n ∧ n ≤ 100 ∧ EdOK n.toNat (unE es) ∧ m ≤ 100)
noncomputable def sp16 : List DV → Tr DV
  | [.int .i64 n, .sl es m 2 _ _, .sl cs k 1 _ _] => .node (okG16 n es m cs k) (.leaf (bD (gracB n (unE es) (unI cs)))) .fail
  | _ => .fail
noncomputable def okG39 (es : List DV) (m : Nat) (cs : List DV) (k : Nat) : Bool := isP (isE es m = true ∧ isI cs = true ∧ cs.length = k ∧ EdOK k (unE es) ∧ m ≤ 100)
noncomputable def sp39 : List DV → Tr DV
  | [.sl es m 2 _ _, .sl cs k 1 _ _] => .node (okG39 es m cs k) (.node (partL (unE es) (unI cs) m).isSome (.leaf (.tup [iD ((partL (unE es) (unI cs) m).getD 0), bD true])) (.leaf (.tup [iD 0, bD false]))) .fail
  | _ => .fail
noncomputable def okG61 (es : List DV) (m : Nat) (cs : List DV) (k : Nat) (x : Int) : Bool := isP (isE es m = true ∧ isI cs = true ∧ cs.length = k ∧ (∃ n, EdOK n (unE es) ∧ k ≤ n ∧ n ≤ 100) ∧ m ≤ 100 ∧ LabOK 10 (unI cs) ∧ 0 ≤ x ∧ x ≤ 10)
noncomputable def sp61 : List DV → Tr DV
  | [.sl es m 2 _ _, .sl cs k 1 _ _, .int .i64 x] => .node (okG61 es m cs k x) (.leaf (bD (fitsB (unE es) (unI cs) x))) .fail
  | _ => .fail

theorem sp16_ok : ∀ ds d, (sp16 ds).val = some d → PureOK Try.prog 16 ds d := by
  intro ds d h
  unfold sp16 at h
  split at h
  · rename_i n es m c nl cs k c2 nl2
    simp only [Tr.val] at h
    obtain ⟨hg, h2⟩ := cond_none h
    cases h2
    obtain ⟨g1, g2, g3, g4, g5, g6, g7⟩ := isP_iff.1 hg
    obtain ⟨e1, e2⟩ := ed_unE g1
    obtain ⟨l, rfl⟩ := isI_iff.1 g2
    rw [len_ints] at g3
    subst g3
    have := grac_ok n.toNat (unE es) c nl l c2 nl2 g6 (by omega) (by omega)
    unfold edgX lstX at this
    rw [← e1, ← e2, show ((n.toNat : Nat) : Int) = n by omega] at this
    rw [unI_ints]
    exact this
  · cases h

theorem sp39_ok : ∀ ds d, (sp39 ds).val = some d → PureOK Try.prog 39 ds d := by
  intro ds d h
  unfold sp39 at h
  split at h
  · rename_i es m c nl cs k c2 nl2
    simp only [Tr.val] at h
    obtain ⟨hg, h2⟩ := cond_none h
    clear h
    obtain ⟨g1, g2, g3, g4, g5⟩ := isP_iff.1 hg
    obtain ⟨e1, e2⟩ := ed_unE g1
    obtain ⟨l, rfl⟩ := isI_iff.1 g2
    rw [len_ints] at g3
    subst g3
    have := rparts_ok (unE es) c nl l c2 nl2 g4 (by omega)
    unfold edgX lstX partD at this
    rw [← e1, ← e2] at this
    rw [unI_ints] at h2
    cases hp : (partL (unE es) l m).isSome with
    | true => rw [hp] at h2 this; cases h2; exact this
    | false => rw [hp] at h2 this; cases h2; exact this
  · cases h

theorem sp61_ok : ∀ ds d, (sp61 ds).val = some d → PureOK Try.prog 61 ds d := by
  intro ds d h
  unfold sp61 at h
  split at h
  · rename_i es m c nl cs k c2 nl2 x
    simp only [Tr.val] at h
    obtain ⟨hg, h2⟩ := cond_none h
    cases h2
    obtain ⟨g1, g2, g3, ⟨n, g4, g5, g6⟩, g7, g8, g9⟩ := isP_iff.1 hg
    obtain ⟨e1, e2⟩ := ed_unE g1
    obtain ⟨l, rfl⟩ := isI_iff.1 g2
    rw [len_ints] at g3
    subst g3
    rw [unI_ints] at g8 ⊢
    have := fits_ok (unE es) c nl l c2 nl2 x n g4 g6 (by omega) g8 g5 g9
    unfold edgX lstX at this
    rw [← e1, ← e2] at this
    exact this
  · cases h
end Go.Proofs.Ytkcdbndpcabelaa

/- Chapter 02: the document's search through labels. -/
namespace Go.Proofs.Ytkcdbndpcabelaa
open Go Go.AE

/-- The labels m + 1 - k and more of the next node, one after the other. -/
def loopX (next : List Int → Option (List Int) × Int) (E : List (Int × Int)) (l : List Int) (first : Bool) : Nat → Option (List Int) → Int → Option (List Int) × Int
  | 0, best, many => (best, many)
  | k + 1, best, many => if fitsB E l ((E.length : Int) - k) = true then
      (if first = true ∧ 0 < many + (next (l ++ [(E.length : Int) - k])).2 then (best.or (next (l ++ [(E.length : Int) - k])).1, many + (next (l ++ [(E.length : Int) - k])).2)
        else loopX next E l first k (best.or (next (l ++ [(E.length : Int) - k])).1) (many + (next (l ++ [(E.length : Int) - k])).2))
    else loopX next E l first k best many

/-- The search, f nodes ahead of the end. -/
def srS (n : Int) (E : List (Int × Int)) (part first : Bool) : Nat → List Int → Option (List Int) × Int
  | 0, l => if gracB n E l = true ∧ ((partL E l E.length).isSome = true ∨ part = false) then (some l, 1) else (none, 0)
  | f + 1, l => loopX (srS n E part first f) E l first (E.length + 1) none 0

/-- A list that is found, or nil. -/
def bestV (s : Nat) : Option (List Int) → DV
  | none => .sl [] 0 s false true
  | some o => .sl (ints o) o.length 1 false false

theorem k49 : OkSeg Try.f49 none [0] := ⟨by kernel_rfl, by kernel_rfl, by decide⟩
theorem k49_0 : OkSeg Try.f49 (some 0) [] := ⟨by kernel_rfl, by kernel_rfl, by decide⟩

noncomputable def okG49 (f : Nat) (n : Int) (es : List DV) (m : Nat) (cs : List DV) (k : Nat) (nl : Bool) : Bool := isP (isE es m = true ∧ isI cs = true ∧ cs.length = k ∧ n = k + f ∧ 2 ≤ n ∧ n ≤ 7 ∧ EdOK n.toNat (unE es) ∧ m ≤ 10 ∧ LabOK m (unI cs) ∧ (nl = true → k = 0))
noncomputable def sp49 (f : Nat) : List DV → Tr DV
  | [.int .i64 n, .sl es m 2 _ _, .sl cs k 1 _ nl, .bool part, .bool first] => .node (okG49 f n es m cs k nl) (.node (srS n (unE es) part first f (unI cs)).1.isSome
      (.leaf (.tup [.sl (ints ((srS n (unE es) part first f (unI cs)).1.getD [])) ((srS n (unE es) part first f (unI cs)).1.getD []).length 1 false false, iD (srS n (unE es) part first f (unI cs)).2]))
      (.leaf (.tup [.sl [] 0 1 false true, iD (srS n (unE es) part first f (unI cs)).2]))) .fail
  | _ => .fail
noncomputable def evS0 : Ev := ((Ev.nil.add 16 sp16).add 39 sp39).add 61 sp61
noncomputable def evS (f : Nat) : Ev := evS0.add 49 (sp49 f)
noncomputable def s49 (n : Int) (E : List (Int × Int)) (c nl : Bool) (l : List Int) (c2 nl2 : Bool) (part first : Bool) (best : DV) (many x : Int) : St := ⟨[(0, .d (iD n)), (1, .d (edgX E c nl)), (2, .d (lstX l c2 nl2)), (3, .d (bD part)), (4, .d (bD first)), (14, .d best), (15, .d (iD many)), (16, .d (iD x))], [], []⟩


theorem r49d (f : Nat) (n : Int) (E : List (Int × Int)) (c nl : Bool) (l : List Int) (c2 nl2 part first : Bool) : startS aeC evS0 49 0 Try.f49 none ⟨envOf 0 ([iD n, edgX E c nl, lstX l c2 nl2, bD part, bD first].map .d), [], []⟩ (doneE aeC Try.f49 0 fun v h => freezeV h 4 v) =
  bif decide ((↑(List.length l) : Int) = n) then
    bif okG39 (edD E) (List.length E) (ints l) (List.length l) then
      bif Option.isSome (partL (unE (edD E)) (unI (ints l)) (List.length E)) then
        bif okG16 n (edD E) (List.length E) (ints l) (List.length l) then
          bif gracB n (unE (edD E)) (unI (ints l)) then
            some (DV.tup [DV.sl (ints l) (List.length l) 1 c2 nl2, iD 1])
          else
            some (DV.tup [DV.sl [] 0 0 false true, iD 0])
        else
          none
      else
        bif okG16 n (edD E) (List.length E) (ints l) (List.length l) then
          bif gracB n (unE (edD E)) (unI (ints l)) then
            bif !part then
              some (DV.tup [DV.sl (ints l) (List.length l) 1 c2 nl2, iD 1])
            else
              some (DV.tup [DV.sl [] 0 0 false true, iD 0])
          else
            some (DV.tup [DV.sl [] 0 0 false true, iD 0])
        else
          none
    else
      none
  else
    none := by kernel_rfl

theorem r49h (f : Nat) (n : Int) (E : List (Int × Int)) (c nl : Bool) (l : List Int) (c2 nl2 part first : Bool) : startS aeC (evS f) 49 0 Try.f49 none ⟨envOf 0 ([iD n, edgX E c nl, lstX l c2 nl2, bD part, bD first].map .d), [], []⟩ (heldD aeC 49 0) =
  bif decide ((↑(List.length l) : Int) = n) then
    bif okG39 (edD E) (List.length E) (ints l) (List.length l) then
      bif Option.isSome (partL (unE (edD E)) (unI (ints l)) (List.length E)) then
        bif okG16 n (edD E) (List.length E) (ints l) (List.length l) then
          bif gracB n (unE (edD E)) (unI (ints l)) then
            none
          else
            none
        else
          none
      else
        bif okG16 n (edD E) (List.length E) (ints l) (List.length l) then
          bif gracB n (unE (edD E)) (unI (ints l)) then
            bif !part then
              none
            else
              none
          else
            none
        else
          none
    else
      none
  else
    some (0, ⟨[(0, .d (iD n)), (1, .d (DV.sl (edD E) (List.length E) 2 c nl)), (2, .d (DV.sl (ints l) (List.length l) 1 c2 nl2)), (3, .d (bD part)), (4, .d (bD first)), (14, .d (DV.sl [] 0 0 false true)), (15, .d (iD 0)), (16, .d (iD 0))], [], []⟩) := by kernel_rfl

theorem r49_x (f : Nat) (b : DV) (many : Int) : nextS aeC (evS f) 49 0 Try.f49 none 0 (.exit 0) ⟨[(14, .d b), (15, .d (iD many))], [], []⟩ (doneE aeC Try.f49 0 fun v h => freezeV h 4 v) =
  some (DV.tup [b, iD many]) := by kernel_rfl

theorem r49_xr (f : Nat) (b : DV) (many : Int) : nextS aeC (evS f) 49 0 Try.f49 none 0 .ret ⟨[(10, .d b), (11, .d (iD many))], [], []⟩ (doneE aeC Try.f49 0 fun v h => freezeV h 4 v) =
  some (DV.tup [b, iD many]) := by kernel_rfl

/-- Behind one label. -/
noncomputable def fin49 (n : Int) (E : List (Int × Int)) (c nl : Bool) (l : List Int) (c2 nl2 part first : Bool) (many x k : Int) (b : DV) : Option (Ex × St) :=
  bif first then bif decide (0 < IntKind.wrap .i64 (many + k)) then some (.ret, ⟨[(10, .d b), (11, .d (iD (IntKind.wrap .i64 (many + k))))], [], []⟩)
    else some (.norm, s49 n E c nl l c2 nl2 part first b (IntKind.wrap .i64 (many + k)) (IntKind.wrap .i64 (x + 1)))
  else some (.norm, s49 n E c nl l c2 nl2 part first b (IntKind.wrap .i64 (many + k)) (IntKind.wrap .i64 (x + 1)))

theorem r49_0 (f : Nat) (n : Int) (E : List (Int × Int)) (c nl : Bool) (l : List Int) (c2 nl2 part first : Bool) (s : Nat) (best : Option (List Int)) (many x : Int) :
    startS aeC (evS f) 49 0 Try.f49 (some 0) (s49 n E c nl l c2 nl2 part first (bestV s best) many x) (roundD aeC 49 0 0) =
  bif decide (x ≤ (E.length : Int)) then
    bif okG61 (edD E) E.length (ints l) l.length x then
      bif !fitsB (unE (edD E)) (unI (ints l)) x then some (.norm, s49 n E c nl l c2 nl2 part first (bestV s best) many (IntKind.wrap .i64 (x + 1)))
      else bif nl2 || true then bif Nat.ble l.length 1048576 then bif Nat.ble (lenOf 1 (ints l).length + 1) 1048576 then
        bif okG49 f n (edD E) E.length (ints l ++ [iD x]) (lenOf 1 (ints l ++ [iD x]).length) (true && Nat.beq (ints l ++ [iD x]).length 0) then
          bif (srS n (unE (edD E)) part first f (unI (ints l ++ [iD x]))).1.isSome then
            fin49 n E c nl l c2 nl2 part first many x (srS n (unE (edD E)) part first f (unI (ints l ++ [iD x]))).2 (match best with
              | none => .sl (ints ((srS n (unE (edD E)) part first f (unI (ints l ++ [iD x]))).1.getD [])) ((srS n (unE (edD E)) part first f (unI (ints l ++ [iD x]))).1.getD []).length 1 false false
              | some o => .sl (ints o) o.length 1 false false)
          else fin49 n E c nl l c2 nl2 part first many x (srS n (unE (edD E)) part first f (unI (ints l ++ [iD x]))).2 (match best with
              | none => .sl [] 0 1 false true
              | some o => .sl (ints o) o.length 1 false false)
        else none
      else none else none else none
    else none
  else some (.exit 0, ⟨[(14, .d (bestV s best)), (15, .d (iD many))], [], []⟩) := by
  cases best <;> kernel_rfl

theorem loopX_bound {next : List Int → Option (List Int) × Int} {E : List (Int × Int)} {l : List Int} {first : Bool} {B : Int} (hB : 0 ≤ B) (hn : ∀ x, 0 ≤ (next x).2 ∧ (next x).2 ≤ B) : ∀ (k : Nat) (best : Option (List Int)) (many : Int), 0 ≤ many →
    0 ≤ (loopX next E l first k best many).2 ∧ (loopX next E l first k best many).2 ≤ many + k * B
  | 0, best, many, h => by simp only [loopX]; exact ⟨h, by simp⟩
  | k + 1, best, many, h => by
    have hx := hn (l ++ [(E.length : Int) - k])
    have hk : ((k + 1 : Nat) : Int) * B = k * B + B := by rw [Int.natCast_add, Int.add_mul]; simp
    have hkB : 0 ≤ (k : Int) * B := Int.mul_nonneg (by omega) hB
    simp only [loopX]
    split
    · split
      · simp only; omega
      · have := loopX_bound (l := l) (E := E) (first := first) hB hn k (best.or (next (l ++ [(E.length : Int) - k])).1) (many + (next (l ++ [(E.length : Int) - k])).2) (by omega)
        omega
    · have := loopX_bound (l := l) (E := E) (first := first) hB hn k best many h
      omega

theorem srS_bound (n : Int) (E : List (Int × Int)) (part first : Bool) (hE : E.length ≤ 10) : ∀ (f : Nat) (l : List Int), 0 ≤ (srS n E part first f l).2 ∧ (srS n E part first f l).2 ≤ 11 ^ f
  | 0, l => by simp only [srS]; split <;> simp
  | f + 1, l => by
    have := loopX_bound (E := E) (l := l) (first := first) (B := 11 ^ f) (Int.pow_nonneg (by omega)) (srS_bound n E part first hE f) (E.length + 1) none 0 (by omega)
    simp only [srS]
    have hp : (11 : Int) ^ (f + 1) = 11 * 11 ^ f := by rw [Int.pow_succ]; omega
    have h11 : ((E.length + 1 : Nat) : Int) * 11 ^ f ≤ 11 * 11 ^ f := Int.mul_le_mul_of_nonneg_right (by omega) (Int.pow_nonneg (by omega))
    omega

theorem pow_le {f : Nat} (h : f ≤ 7) : (11 : Int) ^ f ≤ 19487171 := by
  match f, h with
  | 0, _ => decide
  | 1, _ => decide
  | 2, _ => decide
  | 3, _ => decide
  | 4, _ => decide
  | 5, _ => decide
  | 6, _ => decide
  | 7, _ => decide

theorem LabOK.snoc {m : Nat} {l : List Int} {x : Int} (h : LabOK m l) (h0 : 0 ≤ x) (h1 : x ≤ m) : LabOK m (l ++ [x]) := by
  intro y hy
  rcases List.mem_append.1 hy with hy | hy
  · exact h y hy
  · simp at hy; subst hy; exact ⟨h0, h1⟩
theorem LabOK.mono {m m' : Nat} {l : List Int} (h : LabOK m l) (hm : m ≤ m') : LabOK m' l := fun x hx => ⟨(h x hx).1, by have := (h x hx).2; omega⟩

theorem l49_0 (f : Nat) (n : Nat) (E : List (Int × Int)) (c nl : Bool) (l : List Int) (c2 nl2 part first : Bool) (hn : n = l.length + (f + 1)) (h2 : 2 ≤ n) (h7 : n ≤ 7) (hE : EdOK n E) (hm : E.length ≤ 10) (hl : LabOK E.length l) :
    ∀ (k : Nat) (s : Nat) (best : Option (List Int)) (many : Int), k ≤ E.length + 1 → 0 ≤ many → many + k * 11 ^ f ≤ 11 * 11 ^ f →
      ∃ e S s', LoopAt aeC (evS f) 49 0 Try.f49 0 (s49 n E c nl l c2 nl2 part first (bestV s best) many ((E.length : Int) + 1 - k)) e S ∧ nextS aeC (evS f) 49 0 Try.f49 none 0 e S (doneE aeC Try.f49 0 fun v h => freezeV h 4 v) =
        some (.tup [bestV s' (loopX (srS n E part first f) E l first k best many).1, iD (loopX (srS n E part first f) E l first k best many).2])
  | 0, s, best, many, hk, h0, hb => by
    refine ⟨.exit 0, _, s, .out k49_0 (by simp) ((r49_0 ..).trans ?_), r49_x f (bestV s best) many⟩
    rw [cnd_neg (by omega)]
  | k + 1, s, best, many, hk, h0, hb => by
    have hpow := pow_le (show f ≤ 7 by omega)
    have hpos : (0 : Int) ≤ 11 ^ f := Int.pow_nonneg (by omega)
    have hk1 : ((k + 1 : Nat) : Int) * 11 ^ f = k * 11 ^ f + 11 ^ f := by rw [Int.natCast_add, Int.add_mul]; simp
    have hkB : 0 ≤ (k : Int) * 11 ^ f := Int.mul_nonneg (by omega) hpos
    rw [show (E.length : Int) + 1 - (k + 1 : Nat) = E.length - k by omega]
    have hx : 0 ≤ (E.length : Int) - k ∧ (E.length : Int) - k ≤ E.length := by omega
    have res := r49_0 f n E c nl l c2 nl2 part first s best many ((E.length : Int) - k)
    have g1 : okG61 (edD E) E.length (ints l) l.length ((E.length : Int) - k) = true :=
      isP_iff.2 ⟨isE_ed E, isI_ints l, len_ints l, ⟨n, by rw [unE_ed]; exact hE, by omega, by omega⟩, by omega, by rw [unI_ints]; exact hl.mono (by omega), hx.1, by omega⟩
    have g2 : okG49 f n (edD E) E.length (ints l ++ [iD ((E.length : Int) - k)]) (lenOf 1 (ints l ++ [iD ((E.length : Int) - k)]).length) (true && Nat.beq (ints l ++ [iD ((E.length : Int) - k)]).length 0) = true := by
      rw [ints_app1]
      refine isP_iff.2 ⟨isE_ed E, isI_ints _, rfl, by rw [lenOf_1, len_ints]; simp; omega, by omega, by omega, by rw [unE_ed]; simpa using hE, hm, by rw [unI_ints]; exact hl.snoc hx.1 hx.2, ?_⟩
      intro h; rw [Bool.true_and, len_ints] at h; have := Nat.eq_of_beq_eq_true h; simp at this
    rw [cnd_pos hx.2, g1, g2, ints_app1] at res
    simp only [unE_ed, unI_ints, cond_true, Bool.or_true, Bool.cond_not, lenOf_1, len_ints] at res
    rw [ble_pos (by omega), ble_pos (by omega)] at res
    simp only [loopX]
    have hw : IntKind.wrap .i64 ((E.length : Int) - k + 1) = E.length + 1 - k := by rw [wrap64 (by omega) (by omega)]; omega
    cases hf : fitsB E l ((E.length : Int) - k) with
    | false =>
      rw [hf] at res
      simp only [cond_false] at res
      rw [hw] at res
      rw [if_neg (by simp)]
      obtain ⟨e, S, s', q1, q2⟩ := l49_0 f n E c nl l c2 nl2 part first hn h2 h7 hE hm hl k s best many (by omega) h0 (by omega)
      exact ⟨e, S, s', .next k49_0 res q1, q2⟩
    | true =>
      rw [hf] at res
      simp only [cond_true] at res
      rw [if_pos rfl]
      have hbd := srS_bound n E part first hm f (l ++ [(E.length : Int) - k])
      -- the new best one
      have hbest : ∃ s1, startS aeC (evS f) 49 0 Try.f49 (some 0) (s49 n E c nl l c2 nl2 part first (bestV s best) many ((E.length : Int) - k)) (roundD aeC 49 0 0) =
          fin49 n E c nl l c2 nl2 part first many ((E.length : Int) - k) (srS n E part first f (l ++ [(E.length : Int) - k])).2 (bestV s1 (best.or (srS n E part first f (l ++ [(E.length : Int) - k])).1)) := by
        cases hR : (srS n E part first f (l ++ [(E.length : Int) - k])).1 with
        | none =>
          rw [hR] at res
          cases best with
          | none => exact ⟨1, res⟩
          | some o => exact ⟨1, res⟩
        | some o2 =>
          rw [hR] at res
          cases best with
          | none => exact ⟨1, res⟩
          | some o => exact ⟨1, res⟩
      obtain ⟨s1, hbest⟩ := hbest
      unfold fin49 at hbest
      rw [hw, wrap64 (by omega) (by omega)] at hbest
      obtain ⟨e, S, s', q1, q2⟩ := l49_0 f n E c nl l c2 nl2 part first hn h2 h7 hE hm hl k s1 (best.or (srS n E part first f (l ++ [(E.length : Int) - k])).1) (many + (srS n E part first f (l ++ [(E.length : Int) - k])).2) (by omega) (by omega) (by omega)
      cases hfi : first with
      | false =>
        subst hfi
        simp only [cond_false] at hbest
        rw [if_neg (by simp)]
        exact ⟨e, S, s', .next k49_0 hbest q1, q2⟩
      | true =>
        subst hfi
        simp only [cond_true] at hbest
        by_cases hp : 0 < many + (srS n E part true f (l ++ [(E.length : Int) - k])).2
        · rw [cnd_pos hp] at hbest
          rw [if_pos ⟨rfl, hp⟩]
          exact ⟨.ret, _, s1, .out k49_0 (by simp) hbest, r49_xr f _ _⟩
        · rw [cnd_neg hp] at hbest
          rw [if_neg (fun h => hp h.2)]
          exact ⟨e, S, s', .next k49_0 hbest q1, q2⟩

theorem PureOK.res {f : FuncId} {ds : List DV} {d d' : DV} (h : PureOK Try.prog f ds d) (hd : ∀ (w : World) (G : Nat → Prop) (v : Value), DRel w G d v → DRel w G d' v) : PureOK Try.prog f ds d' := by
  refine ⟨h.1, fun w G vs hG q => Calls.mono (h.2 w G vs hG q) ?_⟩
  rintro e w' ⟨v, rfl, h1, h2⟩
  exact ⟨v, rfl, h1, hd _ _ _ h2⟩

theorem nil_sz {w : World} {G : Nat → Prop} {s s' : Nat} {c c' : Bool} {v : Value} (h : DRel w G (.sl [] 0 s c true) v) : DRel w G (.sl [] 0 s' c' true) v := by
  simp only [DRel, cond_true] at h ⊢
  exact ⟨by simp, h.2⟩

theorem tup_fst {w : World} {G : Nat → Prop} {a a' : DV} {r : List DV} {v : Value} (ha : ∀ v, DRel w G a v → DRel w G a' v) (h : DRel w G (.tup (a :: r)) v) : DRel w G (.tup (a' :: r)) v := by
  simp only [DRel] at h ⊢
  obtain ⟨vs, e, u, t, h1, h2, h3⟩ := h
  exact ⟨vs, e, u, t, h1, ha _ h2, h3⟩

theorem bestV_sz {f : FuncId} {ds : List DV} {o : Option (List Int)} {s s' : Nat} {r : List DV} (h : PureOK Try.prog f ds (.tup (bestV s o :: r))) : PureOK Try.prog f ds (.tup (bestV s' o :: r)) := by
  cases o with
  | some o => exact h
  | none => exact PureOK.res h fun w G v => tup_fst fun v => nil_sz

theorem search_step (f : Nat) (hS : EvOK Try.prog (evS f)) (n : Nat) (E : List (Int × Int)) (c nl : Bool) (l : List Int) (c2 nl2 part first : Bool) (hn : n = l.length + (f + 1)) (h2 : 2 ≤ n) (h7 : n ≤ 7) (hE : EdOK n E) (hm : E.length ≤ 10) (hl : LabOK E.length l) :
    PureOK Try.prog 49 [iD n, edgX E c nl, lstX l c2 nl2, bD part, bD first] (.tup [bestV 1 (srS n E part first (f + 1) l).1, iD (srS n E part first (f + 1) l).2]) := by
  have hk : ((E.length + 1 : Nat) : Int) * 11 ^ f ≤ 11 * 11 ^ f := Int.mul_le_mul_of_nonneg_right (by omega) (Int.pow_nonneg (by omega))
  obtain ⟨e, S, s', q1, q2⟩ := l49_0 f n E c nl l c2 nl2 part first hn h2 h7 hE hm hl (E.length + 1) 0 none 0 (by omega) (by omega) (by omega)
  rw [show (E.length : Int) + 1 - (E.length + 1 : Nat) = 0 by omega] at q1
  have h0 := r49h f n E c nl l c2 nl2 part first
  rw [cnd_neg (by omega)] at h0
  exact bestV_sz (s := s') (ae_pure hS (fn := Try.f49) k49 (by kernel_rfl) (by kernel_rfl) (startF_one k49 done_plain h0 q1 q2))

theorem search_last (n : Nat) (E : List (Int × Int)) (c nl : Bool) (l : List Int) (c2 nl2 part first : Bool) (hn : l.length = n) (h2 : 2 ≤ n) (h7 : n ≤ 7) (hE : EdOK n E) (hm : E.length ≤ 10) (hnl : nl2 = false) :
    PureOK Try.prog 49 [iD n, edgX E c nl, lstX l c2 nl2, bD part, bD first] (.tup [bestV 1 (srS n E part first 0 l).1, iD (srS n E part first 0 l).2]) := by
  subst hnl
  have hS0 : EvOK Try.prog evS0 := EvOK.add (EvOK.add (EvOK.add EvOK.nil sp16_ok) sp39_ok) sp61_ok
  have hb : ∀ d, startS aeC evS0 49 0 Try.f49 none ⟨envOf 0 ([iD n, edgX E c nl, lstX l c2 false, bD part, bD first].map .d), [], []⟩ (doneE aeC Try.f49 0 fun v h => freezeV h 4 v) = some d → PureOK Try.prog 49 [iD n, edgX E c nl, lstX l c2 false, bD part, bD first] d :=
    fun d h => ae_pure hS0 (fn := Try.f49) k49 (by kernel_rfl) (by kernel_rfl) (startF_done k49 done_plain h)
  have h0 := r49d 0 n E c nl l c2 false part first
  have g1 : okG39 (edD E) E.length (ints l) l.length = true := isP_iff.2 ⟨isE_ed E, isI_ints l, len_ints l, by rw [unE_ed, hn]; exact hE, by omega⟩
  have g2 : okG16 n (edD E) E.length (ints l) l.length = true := isP_iff.2 ⟨isE_ed E, isI_ints l, len_ints l, by omega, by omega, by rw [unE_ed]; simpa using hE, by omega⟩
  rw [cnd_pos (by omega), g1, g2] at h0
  simp only [unE_ed, unI_ints, cond_true] at h0
  simp only [srS]
  cases hg : gracB n E l with
  | false =>
    rw [hg] at h0
    rw [if_neg (by simp)]
    cases hp : (partL E l E.length).isSome with
    | true => rw [hp] at h0; exact bestV_sz (s := 0) (o := none) (hb _ h0)
    | false => rw [hp] at h0; exact bestV_sz (s := 0) (o := none) (hb _ h0)
  | true =>
    rw [hg] at h0
    have opened : PureOK Try.prog 49 [iD n, edgX E c nl, lstX l c2 false, bD part, bD first] (.tup [.sl (ints l) l.length 1 c2 false, iD 1]) → PureOK Try.prog 49 [iD n, edgX E c nl, lstX l c2 false, bD part, bD first] (.tup [bestV 1 (some l), iD 1]) :=
      fun h => PureOK.res h fun w G v => tup_fst fun v => sl_open
    cases hp : (partL E l E.length).isSome with
    | true => rw [hp] at h0; rw [if_pos ⟨rfl, .inl rfl⟩]; exact opened (hb _ h0)
    | false =>
      rw [hp] at h0
      cases part with
      | false => rw [if_pos ⟨rfl, .inr rfl⟩]; exact opened (hb _ h0)
      | true => rw [if_neg (by simp)]; exact bestV_sz (s := 0) (o := none) (hb _ h0)

theorem bestV_pack {f : FuncId} {ds : List DV} {o : Option (List Int)} {r : List DV} {d : DV} (h : PureOK Try.prog f ds (.tup (bestV 1 o :: r)))
    (hd : (bif o.isSome then some (DV.tup (.sl (ints (o.getD [])) (o.getD []).length 1 false false :: r)) else some (.tup (.sl [] 0 1 false true :: r))) = some d) : PureOK Try.prog f ds d := by
  cases o with
  | none => cases hd; exact h
  | some o => cases hd; exact h

theorem sp49_ok : ∀ f, EvOK Try.prog (evS f) ∧ ∀ ds d, (sp49 f ds).val = some d → PureOK Try.prog 49 ds d := by
  have hS0 : EvOK Try.prog evS0 := EvOK.add (EvOK.add (EvOK.add EvOK.nil sp16_ok) sp39_ok) sp61_ok
  have main : ∀ f ds d, (sp49 f ds).val = some d → PureOK Try.prog 49 ds d := by
    intro f
    induction f with
    | zero =>
      intro ds d h
      unfold sp49 at h
      split at h
      · rename_i n es m c nl cs k c2 nl2 part first
        simp only [Tr.val] at h
        obtain ⟨hg, h2⟩ := cond_none h
        clear h
        obtain ⟨g1, g2, g3, g4, g5, g6, g7, g8, g9, g10⟩ := isP_iff.1 hg
        obtain ⟨e1, e2⟩ := ed_unE g1
        obtain ⟨l, rfl⟩ := isI_iff.1 g2
        rw [len_ints] at g3
        subst g3
        rw [unI_ints] at h2 g9
        have hnl : nl2 = false := by
          cases nl2 with
          | false => rfl
          | true => have := g10 rfl; omega
        have := search_last n.toNat (unE es) c nl l c2 nl2 part first (by omega) (by omega) (by omega) g7 (by omega) hnl
        unfold edgX lstX at this
        rw [← e1, ← e2, show ((n.toNat : Nat) : Int) = n by omega] at this
        exact bestV_pack this h2
      · cases h
    | succ f ih =>
      intro ds d h
      unfold sp49 at h
      split at h
      · rename_i n es m c nl cs k c2 nl2 part first
        simp only [Tr.val] at h
        obtain ⟨hg, h2⟩ := cond_none h
        clear h
        obtain ⟨g1, g2, g3, g4, g5, g6, g7, g8, g9, g10⟩ := isP_iff.1 hg
        obtain ⟨e1, e2⟩ := ed_unE g1
        obtain ⟨l, rfl⟩ := isI_iff.1 g2
        rw [len_ints] at g3
        subst g3
        rw [unI_ints] at h2 g9
        have := search_step f (EvOK.add hS0 ih) n.toNat (unE es) c nl l c2 nl2 part first (by omega) (by omega) (by omega) g7 (by omega) (by rw [← e2]; exact g9)
        unfold edgX lstX at this
        rw [← e1, ← e2, show ((n.toNat : Nat) : Int) = n by omega] at this
        exact bestV_pack this h2
      · cases h
  exact fun f => ⟨EvOK.add hS0 (main f), main f⟩
end Go.Proofs.Ytkcdbndpcabelaa

/- Chapter 02: a graph is made of any numbers. -/
namespace Go.Proofs.Ytkcdbndpcabelaa
open Go Go.AE

theorem k13 : OkSeg Try.f13 none [0] := ⟨by kernel_rfl, by kernel_rfl, by decide⟩
theorem k13_0 : OkSeg Try.f13 (some 0) [2] := ⟨by kernel_rfl, by kernel_rfl, by decide⟩
theorem k13_2 : OkSeg Try.f13 (some 2) [4] := ⟨by kernel_rfl, by kernel_rfl, by decide⟩
theorem k13_4 : OkSeg Try.f13 (some 4) [] := ⟨by kernel_rfl, by kernel_rfl, by decide⟩

noncomputable def s13 (n : Int) (E : List (Int × Int)) (c nl : Bool) (most : Int) (out : List DV) (a : Int) : St := ⟨[(0, .d (iD n)), (1, .d (edgX E c nl)), (2, .d (iD most)), (8, AV.grow 0 2 false), (9, .d (iD a))], [.dc out], []⟩
noncomputable def t13 (n : Int) (E : List (Int × Int)) (c nl : Bool) (most : Int) (out : List DV) (a b : Int) : St := ⟨[(0, .d (iD n)), (1, .d (edgX E c nl)), (2, .d (iD most)), (8, AV.grow 0 2 false), (9, .d (iD a)), (10, .d (iD b))], [.dc out], []⟩
noncomputable def u13 (n : Int) (E : List (Int × Int)) (c nl : Bool) (most : Int) (out : List DV) (a b i : Int) : St := ⟨[(0, .d (iD n)), (1, .d (edgX E c nl)), (2, .d (iD most)), (8, AV.grow 0 2 false), (9, .d (iD a)), (10, .d (iD b)), (11, .d (iD i))], [.dc out], []⟩
noncomputable def x13 (n : Int) (out : List DV) : St := ⟨[(0, .d (iD n)), (8, AV.grow 0 2 false)], [.dc out], []⟩


theorem r13 (n : Int) (E : List (Int × Int)) (c nl : Bool) (most : Int) : startS aeC Ev.nil 13 0 Try.f13 none ⟨envOf 0 ([iD n, edgX E c nl, iD most].map .d), [], []⟩ (heldD aeC 13 0) =
  some (0, ⟨[(0, .d (iD (IntKind.wrap IntKind.i64 (2 + IntKind.wrap IntKind.i64 (Int.tmod (IntKind.wrap IntKind.u64 n) 6))))), (1, .d (DV.sl (edD E) (List.length E) 2 c nl)), (2, .d (iD most)), (8, AV.grow 0 2 false), (9, .d (iD 0))], [.dc []], []⟩) := by kernel_rfl

theorem r13_0 (n : Int) (E : List (Int × Int)) (c nl : Bool) (most : Int) (out : List DV) (a : Int) : startS aeC Ev.nil 13 0 Try.f13 (some 0) (s13 n E c nl most out a) (heldD aeC 13 0) =
  bif decide (a < n) then
    some (2, ⟨[(0, .d (iD n)), (1, .d (DV.sl (edD E) (List.length E) 2 c nl)), (2, .d (iD most)), (8, AV.grow 0 2 false), (9, .d (iD a)), (10, .d (iD (IntKind.wrap IntKind.i64 (a + 1))))], [.dc out], []⟩)
  else
    none := by kernel_rfl

theorem r13_0x (n : Int) (E : List (Int × Int)) (c nl : Bool) (most : Int) (out : List DV) (a : Int) : startS aeC Ev.nil 13 0 Try.f13 (some 0) (s13 n E c nl most out a) (roundD aeC 13 0 0) =
  bif decide (a < n) then
    none
  else
    some (Ex.exit 0, ⟨[(0, .d (iD n)), (8, AV.grow 0 2 false)], [.dc out], []⟩) := by kernel_rfl

theorem r13_0n (n : Int) (E : List (Int × Int)) (c nl : Bool) (most : Int) (out : List DV) (a : Int) : nextS aeC Ev.nil 13 0 Try.f13 (some 0) 2 (.exit 2) (s13 n E c nl most out a) (roundD aeC 13 0 0) =
  some (Ex.norm, ⟨[(0, .d (iD n)), (1, .d (DV.sl (edD E) (List.length E) 2 c nl)), (2, .d (iD most)), (8, AV.grow 0 2 false), (9, .d (iD (IntKind.wrap IntKind.i64 (a + 1))))], [.dc out], []⟩) := by kernel_rfl

theorem r13_2 (n : Int) (E : List (Int × Int)) (c nl : Bool) (most : Int) (out : List DV) (a b : Int) : startS aeC Ev.nil 13 0 Try.f13 (some 2) (t13 n E c nl most out a b) (heldD aeC 13 0) =
  bif decide (b < n) then
    some (4, ⟨[(0, .d (iD n)), (1, .d (DV.sl (edD E) (List.length E) 2 c nl)), (2, .d (iD most)), (8, AV.grow 0 2 false), (9, .d (iD a)), (10, .d (iD b)), (11, .d (iD 0))], [.dc out], []⟩)
  else
    none := by kernel_rfl

theorem r13_2x (n : Int) (E : List (Int × Int)) (c nl : Bool) (most : Int) (out : List DV) (a b : Int) : startS aeC Ev.nil 13 0 Try.f13 (some 2) (t13 n E c nl most out a b) (roundD aeC 13 0 2) =
  bif decide (b < n) then
    none
  else
    some (Ex.exit 2, ⟨[(0, .d (iD n)), (1, .d (DV.sl (edD E) (List.length E) 2 c nl)), (2, .d (iD most)), (8, AV.grow 0 2 false), (9, .d (iD a))], [.dc out], []⟩) := by kernel_rfl

theorem r13_2n (n : Int) (E : List (Int × Int)) (c nl : Bool) (most : Int) (out : List DV) (a b : Int) : nextS aeC Ev.nil 13 0 Try.f13 (some 2) 4 (.exit 4) (t13 n E c nl most out a b) (roundD aeC 13 0 2) =
  some (Ex.norm, ⟨[(0, .d (iD n)), (1, .d (DV.sl (edD E) (List.length E) 2 c nl)), (2, .d (iD most)), (8, AV.grow 0 2 false), (9, .d (iD a)), (10, .d (iD (IntKind.wrap IntKind.i64 (b + 1))))], [.dc out], []⟩) := by kernel_rfl

theorem r13_4 (n : Int) (E : List (Int × Int)) (c nl : Bool) (most : Int) (out : List DV) (a b i : Int) : startS aeC Ev.nil 13 0 Try.f13 (some 4) (u13 n E c nl most out a b i) (roundD aeC 13 0 4) =
  bif decide (i < (↑(List.length E) : Int)) then
    bif decide ((↑(lenOf 2 (List.length out)) : Int) < most) then
      bif inRange i (List.length E) then
        getI (nth (edD E) (Int.toNat i * 2 + 0)) fun x0 =>
        bif decide (IntKind.wrap IntKind.u64 n = 0) then
          none
        else
          bif inRange i (List.length E) then
            getI (nth (edD E) (Int.toNat i * 2 + 1)) fun x1 =>
            bif decide (IntKind.wrap IntKind.u64 n = 0) then
              none
            else
              bif decide ((if IntKind.wrap IntKind.i64 (Int.tmod (IntKind.wrap IntKind.u64 x1) (IntKind.wrap IntKind.u64 n)) < IntKind.wrap IntKind.i64 (Int.tmod (IntKind.wrap IntKind.u64 x0) (IntKind.wrap IntKind.u64 n)) then IntKind.wrap IntKind.i64 (Int.tmod (IntKind.wrap IntKind.u64 x1) (IntKind.wrap IntKind.u64 n)) else IntKind.wrap IntKind.i64 (Int.tmod (IntKind.wrap IntKind.u64 x0) (IntKind.wrap IntKind.u64 n))) = a) then
                bif decide ((if IntKind.wrap IntKind.i64 (Int.tmod (IntKind.wrap IntKind.u64 x1) (IntKind.wrap IntKind.u64 n)) > IntKind.wrap IntKind.i64 (Int.tmod (IntKind.wrap IntKind.u64 x0) (IntKind.wrap IntKind.u64 n)) then IntKind.wrap IntKind.i64 (Int.tmod (IntKind.wrap IntKind.u64 x1) (IntKind.wrap IntKind.u64 n)) else IntKind.wrap IntKind.i64 (Int.tmod (IntKind.wrap IntKind.u64 x0) (IntKind.wrap IntKind.u64 n))) = b) then
                  bif Nat.ble (lenOf 2 (List.length out) + 1) 1048576 then
                    some (Ex.exit 4, ⟨[(0, .d (iD n)), (1, .d (DV.sl (edD E) (List.length E) 2 c nl)), (2, .d (iD most)), (8, AV.grow 0 2 false), (9, .d (iD a)), (10, .d (iD b))], [.dc (out ++ [iD a, iD b])], []⟩)
                  else
                    none
                else
                  some (Ex.norm, ⟨[(0, .d (iD n)), (1, .d (DV.sl (edD E) (List.length E) 2 c nl)), (2, .d (iD most)), (8, AV.grow 0 2 false), (9, .d (iD a)), (10, .d (iD b)), (11, .d (iD (IntKind.wrap IntKind.i64 (i + 1))))], [.dc out], []⟩)
              else
                some (Ex.norm, ⟨[(0, .d (iD n)), (1, .d (DV.sl (edD E) (List.length E) 2 c nl)), (2, .d (iD most)), (8, AV.grow 0 2 false), (9, .d (iD a)), (10, .d (iD b)), (11, .d (iD (IntKind.wrap IntKind.i64 (i + 1))))], [.dc out], []⟩)
          else
            none
      else
        none
    else
      some (Ex.exit 4, ⟨[(0, .d (iD n)), (1, .d (DV.sl (edD E) (List.length E) 2 c nl)), (2, .d (iD most)), (8, AV.grow 0 2 false), (9, .d (iD a)), (10, .d (iD b))], [.dc out], []⟩)
  else
    some (Ex.exit 4, ⟨[(0, .d (iD n)), (1, .d (DV.sl (edD E) (List.length E) 2 c nl)), (2, .d (iD most)), (8, AV.grow 0 2 false), (9, .d (iD a)), (10, .d (iD b))], [.dc out], []⟩) := by kernel_rfl

theorem r13_x (n : Int) (out : List DV) : nextS aeC Ev.nil 13 0 Try.f13 none 0 (.exit 0) (x13 n out) (doneE aeC Try.f13 0 fun v h => freezeV h 4 v) =
  bif decide ((↑(lenOf 2 (List.length out)) : Int) = 0) then
    bif Nat.ble (lenOf 2 (List.length out) + 1) 1048576 then
      some (DV.tup [iD n, DV.sl (out ++ [iD 0, iD 1]) (lenOf 2 (List.length (out ++ [iD 0, iD 1]))) 2 false (true && Nat.beq (List.length (out ++ [iD 0, iD 1])) 0)])
    else
      none
  else
    some (DV.tup [iD n, DV.sl out (lenOf 2 (List.length out)) 2 false (true && Nat.beq (List.length out) 0)]) := by kernel_rfl

theorem edD_snoc : ∀ (E : List (Int × Int)) (a b : Int), edD (E ++ [(a, b)]) = edD E ++ [iD a, iD b]
  | [], a, b => rfl
  | e :: r, a, b => by show iD e.1 :: iD e.2 :: edD (r ++ [(a, b)]) = _; rw [edD_snoc r a b]; rfl
theorem lenOf_ed (E : List (Int × Int)) : lenOf 2 (edD E).length = E.length := by
  rw [len_prs]; show E.length * 2 / 2 = E.length; omega
theorem wrapu {n : Int} (h1 : 0 ≤ n) (h2 : n < 18446744073709551616) : IntKind.wrap .u64 n = n := by
  rw [wrapU_eq]; omega

/-- What has been made so far: all of it ahead of the edge from a to b. -/
def Made (n a b : Int) (out : List (Int × Int)) : Prop := openL n none out = true ∧ out.length ≤ 10 ∧ ∀ e ∈ out, e.1 < a ∨ (e.1 = a ∧ e.2 < b)

theorem openL_snoc {n a b : Int} (h0 : 0 ≤ a) (hab : a < b) (hbn : b < n) : ∀ (out : List (Int × Int)) (p : Option (Int × Int)), openL n p out = true → (∀ e ∈ out, e.1 < a ∨ (e.1 = a ∧ e.2 < b)) →
    (∀ q, p = some q → q.1 < a ∨ (q.1 = a ∧ q.2 < b)) → openL n p (out ++ [(a, b)]) = true
  | [], p, _, _, hp => by
    simp only [List.nil_append, openL, Bool.and_true, Bool.and_eq_true, Bool.not_eq_true', decide_eq_false_iff_not]
    refine ⟨by omega, by omega, by omega, ?_⟩
    cases p with
    | none => rfl
    | some q =>
      have := hp q rfl
      simp only [Bool.not_eq_true', decide_eq_false_iff_not]
      unfold cmp2 cmpI
      rcases this with h | ⟨h1, h2⟩
      · rw [if_pos h]; simp
      · subst h1; simp [h2]
  | e :: r, p, h, he, hp => by
    simp only [List.cons_append, openL, Bool.and_eq_true] at h ⊢
    exact ⟨h.1, h.2.1, h.2.2.1, h.2.2.2.1, openL_snoc h0 hab hbn r (some e) h.2.2.2.2 (fun x hx => he x (List.mem_cons_of_mem _ hx)) (by intro q hq; cases hq; exact he e (List.mem_cons_self ..))⟩

theorem l13_4 (n : Int) (E : List (Int × Int)) (c nl : Bool) (a b : Int) (hn : 2 ≤ n ∧ n ≤ 7) (hE : E.length < 9223372036854775808) (out : List (Int × Int)) (ho : out.length ≤ 10) : ∀ (r : List (Int × Int)) (i : Nat), i ≤ E.length → E.drop i = r →
    ∃ out', (out' = out ∨ (out' = out ++ [(a, b)] ∧ out.length < 10)) ∧ LoopAt aeC Ev.nil 13 0 Try.f13 4 (u13 n E c nl 10 (edD out) a b i) (.exit 4) (t13 n E c nl 10 (edD out') a b)
  | [], i, hi, hr => by
    have h1 := drop_nil_o hr
    refine ⟨out, .inl rfl, .out k13_4 (by simp) ((r13_4 ..).trans ?_)⟩
    rw [cnd_neg (by omega)]; rfl
  | d :: r, i, hi, hr => by
    obtain ⟨h1, h2, h3⟩ := drop_cons_o (d := (0, 0)) hr
    have res := r13_4 n E c nl 10 (edD out) a b i
    rw [cnd_pos (by omega), lenOf_ed] at res
    by_cases c1 : (out.length : Int) < 10
    · rw [cnd_pos c1] at res
      revert res
      simp (disch := omega) only [cnd_pos, cnd_neg, inR_pos, ble_pos, blt_pos, beq_pos, cond_and, cond_or, Bool.cond_not, cond_true, cond_false, Bool.and_true, Bool.true_and, getI_some, getB_some, nth_ints_o, nth_bools_o, wrap64_o, len_ints, len_bools, lenOf_1, Int.toNat_natCast, Nat.mul_one, Nat.zero_add, setNth_bools_o, setNth_ints_o, len_set_i, len_set_b, Option.bind_some, List.length_append, List.length_cons, List.length_nil, unI_ints, unB_bools, ints_app1, bools_app1, nth_pr1, nth_pr2, len_prs, abs_if, Nat.add_zero, cond_same, wrapu, wrap64_o, ← edD_snoc]
      generalize (if IntKind.wrap IntKind.i64 (Int.tmod (IntKind.wrap IntKind.u64 (E.getD i (0, 0)).2) n) < IntKind.wrap IntKind.i64 (Int.tmod (IntKind.wrap IntKind.u64 (E.getD i (0, 0)).1) n) then IntKind.wrap IntKind.i64 (Int.tmod (IntKind.wrap IntKind.u64 (E.getD i (0, 0)).2) n) else IntKind.wrap IntKind.i64 (Int.tmod (IntKind.wrap IntKind.u64 (E.getD i (0, 0)).1) n)) = u
      generalize (if IntKind.wrap IntKind.i64 (Int.tmod (IntKind.wrap IntKind.u64 (E.getD i (0, 0)).2) n) > IntKind.wrap IntKind.i64 (Int.tmod (IntKind.wrap IntKind.u64 (E.getD i (0, 0)).1) n) then IntKind.wrap IntKind.i64 (Int.tmod (IntKind.wrap IntKind.u64 (E.getD i (0, 0)).2) n) else IntKind.wrap IntKind.i64 (Int.tmod (IntKind.wrap IntKind.u64 (E.getD i (0, 0)).1) n)) = v
      intro res
      obtain ⟨o', q1, q2⟩ := l13_4 n E c nl a b hn hE out ho r (i + 1) h1 h3
      by_cases c2 : u = a
      · rw [cnd_pos c2] at res
        by_cases c3 : v = b
        · rw [cnd_pos c3] at res
          exact ⟨out ++ [(a, b)], .inr ⟨rfl, by omega⟩, .out k13_4 (by simp) res⟩
        · rw [cnd_neg c3] at res
          exact ⟨o', q1, .next k13_4 res q2⟩
      · rw [cnd_neg c2] at res
        exact ⟨o', q1, .next k13_4 res q2⟩
    · rw [cnd_neg c1] at res
      exact ⟨out, .inl rfl, .out k13_4 (by simp) res⟩

theorem l13_2 (n : Int) (E : List (Int × Int)) (c nl : Bool) (a : Int) (hn : 2 ≤ n ∧ n ≤ 7) (ha : 0 ≤ a) (hE : E.length < 9223372036854775808) : ∀ (k : Nat) (out : List (Int × Int)), (k : Int) + a < n → Made n a (n - k) out →
    ∃ out', Made n a n out' ∧ LoopAt aeC Ev.nil 13 0 Try.f13 2 (t13 n E c nl 10 (edD out) a (n - k)) (.exit 2) (s13 n E c nl 10 (edD out') a)
  | 0, out, hk, hm => by
    refine ⟨out, by simpa using hm, .out k13_2 (by simp) ((r13_2x ..).trans ?_)⟩
    rw [cnd_neg (by omega)]; rfl
  | k + 1, out, hk, hm => by
    have h0 := r13_2 n E c nl 10 (edD out) a (n - (k + 1 : Nat))
    rw [cnd_pos (by omega)] at h0
    obtain ⟨o1, q1, q2⟩ := l13_4 n E c nl a (n - (k + 1 : Nat)) hn hE out hm.2.1 E 0 (by omega) rfl
    have hm1 : Made n a (n - k) o1 := by
      rcases q1 with rfl | ⟨rfl, hl⟩
      · exact ⟨hm.1, hm.2.1, fun e he => by have := hm.2.2 e he; omega⟩
      · refine ⟨openL_snoc ha (by omega) (by omega) out none hm.1 hm.2.2 (by intro q hq; cases hq), by simp; omega, fun e he => ?_⟩
        rcases List.mem_append.1 he with he | he
        · have := hm.2.2 e he; omega
        · simp only [List.mem_singleton] at he
          subst he
          exact .inr ⟨rfl, by show n - ((k + 1 : Nat) : Int) < n - k; omega⟩
    obtain ⟨o2, q3, q4⟩ := l13_2 n E c nl a hn ha hE k o1 (by omega) hm1
    refine ⟨o2, q3, .nextF k13_2 ((startF_seg k13_2 h0 q2).trans (nextF_done k13_2 roundD_plain (r13_2n ..))) ?_⟩
    rw [wrap64 (by omega) (by omega), show n - (k + 1 : Nat) + 1 = n - (k : Int) by omega]
    exact q4

theorem l13_0 (n : Int) (E : List (Int × Int)) (c nl : Bool) (hn : 2 ≤ n ∧ n ≤ 7) (hE : E.length < 9223372036854775808) : ∀ (k : Nat) (out : List (Int × Int)), (k : Int) ≤ n → Made n (n - k) (n - k + 1) out →
    ∃ out', openL n none out' = true ∧ out'.length ≤ 10 ∧ LoopAt aeC Ev.nil 13 0 Try.f13 0 (s13 n E c nl 10 (edD out) (n - k)) (.exit 0) (x13 n (edD out'))
  | 0, out, hk, hm => by
    refine ⟨out, hm.1, hm.2.1, .out k13_0 (by simp) ((r13_0x ..).trans ?_)⟩
    rw [cnd_neg (by omega)]; rfl
  | k + 1, out, hk, hm => by
    have h0 := r13_0 n E c nl 10 (edD out) (n - (k + 1 : Nat))
    rw [cnd_pos (by omega), wrap64 (by omega) (by omega), show n - (k + 1 : Nat) + 1 = n - (k : Int) by omega] at h0
    rw [show n - (k + 1 : Nat) + 1 = n - (k : Int) by omega] at hm
    obtain ⟨o1, q1, q2⟩ := l13_2 n E c nl (n - (k + 1 : Nat)) hn (by omega) hE k out (by omega) hm
    obtain ⟨o2, q3, q4, q5⟩ := l13_0 n E c nl hn hE k o1 (by omega) ⟨q1.1, q1.2.1, fun e he => by have := q1.2.2 e he; omega⟩
    refine ⟨o2, q3, q4, .nextF k13_0 ((startF_seg k13_0 h0 q2).trans (nextF_done k13_0 roundD_plain (r13_0n ..))) ?_⟩
    rw [wrap64 (by omega) (by omega), show n - (k + 1 : Nat) + 1 = n - (k : Int) by omega]
    exact q5

/-- A graph is made of any numbers. -/
theorem tame_ok (n : Int) (E : List (Int × Int)) (c nl : Bool) (hE : E.length < 9223372036854775808) : ∃ (m : Int) (F : List (Int × Int)), openS m F = 0 ∧ PureOK Try.prog 13 [iD n, edgX E c nl, iD 10] (.tup [iD m, .sl (edD F) F.length 2 false false]) := by
  have hm : 2 ≤ IntKind.wrap .i64 (2 + IntKind.wrap .i64 (Int.tmod (IntKind.wrap .u64 n) 6)) ∧ IntKind.wrap .i64 (2 + IntKind.wrap .i64 (Int.tmod (IntKind.wrap .u64 n) 6)) ≤ 7 := by
    have h0 : 0 ≤ IntKind.wrap .u64 n := by rw [wrapU_eq]; omega
    have h1 : Int.tmod (IntKind.wrap .u64 n) 6 = (IntKind.wrap .u64 n) % 6 := Int.tmod_eq_emod_of_nonneg h0
    have h2 : 0 ≤ (IntKind.wrap .u64 n) % 6 ∧ (IntKind.wrap .u64 n) % 6 < 6 := by omega
    rw [h1, wrap64 (n := IntKind.wrap .u64 n % 6) (by omega) (by omega), wrap64 (by omega) (by omega)]
    omega
  have h0 := r13 n E c nl 10
  revert h0 hm
  generalize IntKind.wrap .i64 (2 + IntKind.wrap .i64 (Int.tmod (IntKind.wrap .u64 n) 6)) = m
  intro hm h0
  obtain ⟨o, q1, q2, q3⟩ := l13_0 m E c nl hm hE m.toNat [] (by omega) ⟨rfl, by simp, by intro e he; cases he⟩
  rw [show m - (m.toNat : Int) = 0 by omega] at q3
  have hb : ∀ d, nextS aeC Ev.nil 13 0 Try.f13 none 0 (.exit 0) (x13 m (edD o)) (doneE aeC Try.f13 0 fun v h => freezeV h 4 v) = some d → PureOK Try.prog 13 [iD n, edgX E c nl, iD 10] d :=
    fun d h => ae_pure EvOK.nil (fn := Try.f13) k13 (by kernel_rfl) (by kernel_rfl) (startF_one k13 done_plain h0 q3 h)
  have hx := r13_x m (edD o)
  rw [lenOf_ed] at hx
  by_cases he : o.length = 0
  · rw [cnd_pos (by omega), ble_pos (by omega), ← edD_snoc, lenOf_ed] at hx
    have : o = [] := List.length_eq_zero_iff.1 he
    subst this
    refine ⟨m, [(0, 1)], ?_, hb _ hx⟩
    unfold openS
    rw [if_neg (by omega), if_neg (by simp)]
    simp only [openL]
    have : ¬ (m ≤ 1) := by omega
    simp [this]
  · rw [cnd_neg (by omega)] at hx
    refine ⟨m, o, ?_, hb _ (hx.trans ?_)⟩
    · unfold openS
      rw [if_neg (by omega), if_neg (by omega), if_pos q1]
    · have : Nat.beq (edD o).length 0 = false := by
        rw [len_prs]
        cases h : Nat.beq (o.length * 2) 0 with
        | false => rfl
        | true => have := Nat.eq_of_beq_eq_true h; omega
      rw [this]; rfl
end Go.Proofs.Ytkcdbndpcabelaa

/- Chapter 02: the program's walk through labels finds what the document's search finds. -/
namespace Go.Proofs.Ytkcdbndpcabelaa
open Go Go.AE

/-! ### Differences -/
/-- The edges below a node. -/
def below (k : Nat) (E : List (Int × Int)) : List (Int × Int) := E.filter fun e => decide (e.2 < k)
/-- The edges that come to a node from below. -/
def atN (k : Nat) (E : List (Int × Int)) : List (Int × Int) := E.filter fun e => decide (e.2 = k)

theorem upTo_perm (k : Nat) : ∀ E : List (Int × Int), (upTo k E).Perm (below k E ++ atN k E)
  | [] => .nil
  | e :: r => by
    have ih := upTo_perm k r
    unfold upTo below atN at *
    rcases Int.lt_trichotomy e.2 k with h | h | h
    · rw [List.filter_cons_of_pos (by simp; omega), List.filter_cons_of_pos (by simp; omega), List.filter_cons_of_neg (by simp; omega)]
      exact ih.cons e
    · rw [List.filter_cons_of_pos (by simp; omega), List.filter_cons_of_neg (by simp; omega), List.filter_cons_of_pos (by simp; omega)]
      exact (ih.cons e).trans List.perm_middle.symm
    · rw [List.filter_cons_of_neg (by simp; omega), List.filter_cons_of_neg (by simp; omega), List.filter_cons_of_neg (by simp; omega)]
      exact ih

/-- The differences of labels so far. -/
def difS (E : List (Int × Int)) (l : List Int) : List Nat := (below l.length E).map (dlt l)

theorem dist_comm (a b : Int) : dist a b = dist b a := by unfold dist; omega

theorem dlt_snoc {n : Nat} {E : List (Int × Int)} {l : List Int} {x : Int} (hE : EdOK n E) {e : Int × Int} (he : e ∈ below l.length E) : dlt (l ++ [x]) e = dlt l e := by
  unfold below at he
  simp only [List.mem_filter, decide_eq_true_eq] at he
  have := hE e he.1
  unfold dlt
  rw [labAt_snoc (by omega) he.2, labAt_snoc (by omega) (by omega)]

theorem dlt_le {m : Nat} {l : List Int} (hl : LabOK m l) {e : Int × Int} (h0 : 0 ≤ e.1) (h1 : e.1 < e.2) (h2 : e.2 < l.length) : dlt l e ≤ m := by
  have ha := hl.at h0 (show e.1 < l.length by omega)
  have hb := hl.at (show 0 ≤ e.2 by omega) h2
  unfold dlt dist; omega

theorem below_mem {k : Nat} {E : List (Int × Int)} {e : Int × Int} (h : e ∈ below k E) : e ∈ E ∧ e.2 < k := by
  unfold below at h
  simpa only [List.mem_filter, decide_eq_true_eq] using h
theorem atN_mem {k : Nat} {E : List (Int × Int)} {e : Int × Int} (h : e ∈ atN k E) : e ∈ E ∧ e.2 = k := by
  unfold atN at h
  simpa only [List.mem_filter, decide_eq_true_eq] using h

theorem rep_false (n d : Nat) : (List.replicate n false).getD d false = false := by
  rw [List.getD_eq_getElem?_getD, List.getElem?_replicate]
  split <;> rfl

/-- Labels so far, with what is taken. -/
structure Cons (g : Gr) (l : List Int) (used diffs : List Bool) : Prop where
  lab : LabOK g.E.length l
  len : l.length ≤ g.n
  ulen : used.length = 26
  dlen : diffs.length = 26
  use : ∀ v : Nat, used.getD v false = decide ((v : Int) ∈ l)
  nodup : (difS g.E l).Nodup
  dif : ∀ d : Nat, diffs.getD d false = decide (d ∈ difS g.E l)
  distinct : l.Nodup

theorem edgeS_chk (labs : List Int) (node : Nat) (v : Int) : ∀ (E : List (Int × Int)) (ds : List Bool), edgeS labs node v E ds = chkD ((atN node E).map fun e => dist (labAt labs e.1) v) ds
  | [], ds => rfl
  | e :: r, ds => by
    unfold atN
    simp only [edgeS]
    by_cases h : e.2 = node
    · rw [if_pos h, List.filter_cons_of_pos (by simpa using h), List.map_cons, chkD]
      have hb : (ds[dist (labAt labs e.1) v]? = some true) ↔ (ds.getD (dist (labAt labs e.1) v) false = true) := by
        rw [List.getD_eq_getElem?_getD]
        cases ds[dist (labAt labs e.1) v]? <;> simp
      simp only [hb]
      split
      · rfl
      · exact edgeS_chk labs node v r _
    · rw [if_neg h, List.filter_cons_of_neg (by simpa using h)]
      exact edgeS_chk labs node v r ds

theorem take_labAt {labs l : List Int} {k : Nat} (h : labs.take k = l) {a : Int} (h0 : 0 ≤ a) (h1 : a < k) : labAt labs a = labAt l a := by
  unfold labAt
  rw [← h, getD_take_o (by omega)]

/-- A label's fitting: by the walk, and by the document. -/
theorem fits_walk (g : Gr) (hg : GrOK g) (l labs : List Int) (used diffs : List Bool) (hc : Cons g l used diffs) (hlt : l.length < g.n) (hl : labs.take l.length = l) (v : Nat) (hv : v ≤ g.E.length) :
    (used.getD v false = true → fitsB g.E l v = false) ∧ (used.getD v false = false → (edgeS labs l.length v g.E diffs).isSome = fitsB g.E l v ∧ ∀ now, edgeS labs l.length v g.E diffs = some now → Cons g (l ++ [(v : Int)]) (used.set v true) now) := by
  obtain ⟨g1, g2, g3, g4, g5⟩ := hg
  have hE : EdOK g.n g.E := g5
  have hlab' : LabOK g.E.length (l ++ [(v : Int)]) := hc.lab.snoc (by omega) (by omega)
  have hmem : (List.contains l (v : Int) = true) ↔ (v : Int) ∈ l := by simp
  refine ⟨fun hu => ?_, fun hu => ?_⟩
  · rw [hc.use] at hu
    have : List.contains l (v : Int) = true := hmem.2 (by simpa using hu)
    unfold fitsB
    rw [this]; simp
  · rw [hc.use] at hu
    have hnot : ¬ (v : Int) ∈ l := by simpa using hu
    have hcon : List.contains l (v : Int) = false := by
      cases h : List.contains l (v : Int) with
      | false => rfl
      | true => exact absurd (hmem.1 h) hnot
    have hnew : ((atN l.length g.E).map fun e => dist (labAt labs e.1) v) = (atN l.length g.E).map (dlt (l ++ [(v : Int)])) := by
      apply List.map_congr_left
      intro e he
      obtain ⟨h1, h2⟩ := atN_mem he
      have := hE e h1
      unfold dlt
      rw [labAt_last h2, labAt_snoc this.1 (by omega), take_labAt hl this.1 (by omega), dist_comm]
    have hold : (below l.length g.E).map (dlt (l ++ [(v : Int)])) = difS g.E l := List.map_congr_left fun e he => dlt_snoc hE he
    have bnd : ∀ d ∈ (atN l.length g.E).map (dlt (l ++ [(v : Int)])), d ≤ 10 := by
      intro d hd
      obtain ⟨e, he, rfl⟩ := List.mem_map.1 hd
      obtain ⟨h1, h2⟩ := atN_mem he
      have := hE e h1
      have := dlt_le hlab' this.1 this.2.1 (by simp; omega)
      omega
    have bnd2 : ∀ d ∈ (upTo l.length g.E).map (dlt (l ++ [(v : Int)])), d < (List.replicate 11 false).length := by
      intro d hd
      obtain ⟨e, he, rfl⟩ := List.mem_map.1 hd
      unfold upTo at he
      simp only [List.mem_filter, decide_eq_true_eq] at he
      have := hE e he.1
      have := dlt_le hlab' this.1 this.2.1 (by simp; omega)
      simp; omega
    have i1 := chkD_iff ((atN l.length g.E).map (dlt (l ++ [(v : Int)]))) diffs (by intro d hd; have := bnd d hd; rw [hc.dlen]; omega)
    have i2 := chkD_iff ((upTo l.length g.E).map (dlt (l ++ [(v : Int)]))) (List.replicate 11 false) bnd2
    have hperm : ((upTo l.length g.E).map (dlt (l ++ [(v : Int)]))).Perm (difS g.E l ++ (atN l.length g.E).map (dlt (l ++ [(v : Int)]))) := by
      have := (upTo_perm l.length g.E).map (dlt (l ++ [(v : Int)]))
      rw [List.map_append, hold] at this
      exact this
    have both : (chkD ((atN l.length g.E).map (dlt (l ++ [(v : Int)]))) diffs).isSome = true ↔ (chkD ((upTo l.length g.E).map (dlt (l ++ [(v : Int)]))) (List.replicate 11 false)).isSome = true := by
      rw [i1, i2, hperm.nodup_iff, List.nodup_append]
      constructor
      · rintro ⟨h1, h2⟩
        refine ⟨⟨hc.nodup, h1, ?_⟩, fun d _ => rep_false _ d⟩
        intro a ha b hb hab
        subst hab
        have := h2 a hb
        rw [hc.dif] at this
        simp only [decide_eq_false_iff_not] at this
        exact this ha
      · rintro ⟨⟨_, h1, h2⟩, _⟩
        refine ⟨h1, fun d hd => ?_⟩
        rw [hc.dif]
        simp only [decide_eq_false_iff_not]
        intro hm
        exact h2 d hm d hd rfl
    rw [edgeS_chk, hnew]
    constructor
    · unfold fitsB
      rw [hcon, Bool.not_false, Bool.and_true]
      exact Bool.eq_iff_iff.2 both
    · intro now hnow
      have hsome : (chkD ((atN l.length g.E).map (dlt (l ++ [(v : Int)]))) diffs).isSome = true := by rw [hnow]; rfl
      have hmet := chkD_met _ _ _ (by intro d hd; have := bnd d hd; rw [hc.dlen]; omega) hnow
      have h2 := (i2.1 (both.1 hsome)).1
      have hbel : below (l ++ [(v : Int)]).length g.E = upTo l.length g.E := by
        unfold below upTo
        apply List.filter_congr
        intro e _
        simp only [List.length_append, List.length_cons, List.length_nil, decide_eq_decide]
        omega
      have hdif : difS g.E (l ++ [(v : Int)]) = (upTo l.length g.E).map (dlt (l ++ [(v : Int)])) := by unfold difS; rw [hbel]
      refine ⟨hlab', by simp; omega, by simpa using hc.ulen, by rw [chkD_len hnow, hc.dlen], ?_, by rw [hdif]; exact h2, ?_, ?_⟩
      · intro u
        rw [getD_set_b (by rw [hc.ulen]; omega), hc.use]
        split
        · rename_i h; subst h; simp
        · rename_i h
          have : ¬ ((u : Int) = v) := by omega
          simp [this]
      · intro d
        rw [hmet, hc.dif, hdif, ← Bool.decide_or, decide_eq_decide, hperm.mem_iff, List.mem_append]
      · rw [List.nodup_append]
        refine ⟨hc.distinct, by simp, ?_⟩
        intro a ha b hb hab
        simp at hb
        subst hab hb
        exact hnot ha

/-! ### By which number labels part -/
theorem partF_low (labs : List Int) (k : Int) : ∀ (E : List (Int × Int)) (low high : Int), (partF labs E low high).1 ≤ k ↔ low ≤ k ∧ ∀ e ∈ E, min (labAt labs e.1) (labAt labs e.2) ≤ k
  | [], low, high => by simp [partF]
  | e :: r, low, high => by
    rw [partF, partF_low labs k r, List.forall_mem_cons]
    constructor
    · rintro ⟨h1, h2⟩; exact ⟨by omega, by omega, h2⟩
    · rintro ⟨h1, h2, h3⟩; exact ⟨by omega, h3⟩
theorem partF_high (labs : List Int) (k : Int) : ∀ (E : List (Int × Int)) (low high : Int), k < (partF labs E low high).2 ↔ k < high ∧ ∀ e ∈ E, k < max (labAt labs e.1) (labAt labs e.2)
  | [], low, high => by simp [partF]
  | e :: r, low, high => by
    rw [partF, partF_high labs k r, List.forall_mem_cons]
    constructor
    · rintro ⟨h1, h2⟩; exact ⟨by omega, by omega, h2⟩
    · rintro ⟨h1, h2, h3⟩; exact ⟨by omega, h3⟩

theorem splitE_iff (l : List Int) (k : Int) (e : Int × Int) : splitE l k e = true ↔ min (labAt l e.1) (labAt l e.2) ≤ k ∧ k < max (labAt l e.1) (labAt l e.2) := by
  unfold splitE
  rw [Bool.not_eq_true', decide_eq_false_iff_not, decide_eq_decide]
  omega

theorem split_all (l : List Int) (E : List (Int × Int)) (k : Int) (h0 : 0 ≤ k) (h1 : k < 25) : E.all (splitE l k) = true ↔ (partF l E (-1) 25).1 ≤ k ∧ k < (partF l E (-1) 25).2 := by
  rw [partF_low, partF_high, List.all_eq_true]
  constructor
  · intro h
    exact ⟨⟨by omega, fun e he => ((splitE_iff l k e).1 (h e he)).1⟩, h1, fun e he => ((splitE_iff l k e).1 (h e he)).2⟩
  · rintro ⟨⟨_, h2⟩, _, h3⟩ e he
    exact (splitE_iff l k e).2 ⟨h2 e he, h3 e he⟩

theorem partL_iff (E : List (Int × Int)) (l : List Int) : ∀ j : Nat, j ≤ E.length → ((partL E l j).isSome = true ↔ ∃ k : Int, (E.length : Int) - j ≤ k ∧ k < E.length ∧ E.all (splitE l k) = true)
  | 0, hj => by
    simp only [partL]
    constructor
    · intro h; cases h
    · rintro ⟨k, h1, h2, _⟩; omega
  | j + 1, hj => by
    simp only [partL]
    split
    · rename_i h
      exact ⟨fun _ => ⟨_, Int.le_refl _, by omega, h⟩, fun _ => rfl⟩
    · rename_i h
      rw [partL_iff E l j (by omega)]
      constructor
      · rintro ⟨k, h1, h2, h3⟩; exact ⟨k, by omega, h2, h3⟩
      · rintro ⟨k, h1, h2, h3⟩
        refine ⟨k, ?_, h2, h3⟩
        rcases Int.lt_or_eq_of_le h1 with q | q
        · omega
        · rw [← q] at h3; exact absurd h3 h

/-- The least number by which labels part is the program's. -/
theorem parts_same (E : List (Int × Int)) (l : List Int) (hE : EdOK l.length E) (hl : LabOK E.length l) (h1 : 1 ≤ E.length) (h10 : E.length ≤ 10) : (0 ≤ partS l E) ↔ (partL E l E.length).isSome = true := by
  rw [partL_iff E l E.length (Nat.le_refl _)]
  obtain ⟨e, he⟩ : ∃ e, e ∈ E := ⟨E[0], List.getElem_mem (by omega)⟩
  have hee := hE e he
  have hla := hl.at hee.1 (show e.1 < l.length by omega)
  have hlb := hl.at (show 0 ≤ e.2 by omega) hee.2.2
  have hlow : 0 ≤ (partF l E (-1) 25).1 := by
    by_cases h : (partF l E (-1) 25).1 < 0
    · have := ((partF_low l (-1) E (-1) 25).1 (by omega)).2 e he
      omega
    · omega
  have hhigh : (partF l E (-1) 25).2 ≤ E.length := by
    by_cases h : (E.length : Int) < (partF l E (-1) 25).2
    · have := ((partF_high l E.length E (-1) 25).1 h).2 e he
      omega
    · omega
  unfold partS
  constructor
  · intro h
    split at h
    · omega
    · rename_i hc
      exact ⟨(partF l E (-1) 25).1, by omega, by omega, (split_all l E _ hlow (by omega)).2 ⟨Int.le_refl _, by omega⟩⟩
  · rintro ⟨k, k1, k2, k3⟩
    have := (split_all l E k (by omega) (by omega)).1 k3
    rw [if_neg (by omega)]
    exact hlow

/-! ### Graceful -/
theorem newS_iff {m : Nat} : ∀ (r p : List Int), newS m p r = true ↔ LabOK m r ∧ r.Nodup ∧ ∀ x ∈ r, x ∉ p
  | [], p => by simp [newS, LabOK]
  | y :: r, p => by
    simp only [newS, Bool.and_eq_true, decide_eq_true_eq, Bool.not_eq_true', newS_iff r, List.nodup_cons]
    unfold LabOK
    simp only [List.forall_mem_cons]
    constructor
    · rintro ⟨h1, h2, h3, h4, h5, h6⟩
      refine ⟨⟨⟨h1, h2⟩, h4⟩, ⟨fun h => ?_, h5⟩, by simpa using h3, fun x hx h => h6 x hx (List.mem_append_left _ h)⟩
      exact h6 y h (by simp)
    · rintro ⟨⟨⟨h1, h2⟩, h4⟩, ⟨h7, h5⟩, h3, h6⟩
      refine ⟨h1, h2, by simpa using h3, h4, h5, fun x hx h => ?_⟩
      rcases List.mem_append.1 h with h | h
      · exact h6 x hx h
      · simp at h; subst h; exact h7 hx

theorem below_all {n : Nat} {E : List (Int × Int)} (hE : EdOK n E) : below n E = E := by
  unfold below
  rw [List.filter_eq_self]
  intro e he
  have := hE e he
  simp; omega

theorem Cons.graceful {g : Gr} (hg : GrOK g) {l : List Int} {used diffs : List Bool} (hc : Cons g l used diffs) (hl : l.length = g.n) : gracB g.n g.E l = true := by
  obtain ⟨g1, g2, g3, g4, g5⟩ := hg
  have hE : EdOK g.n g.E := g5
  unfold gracB
  rw [decide_eq_true (by omega), Bool.true_and, (newS_iff l []).2 ⟨hc.lab, hc.distinct, by simp⟩, Bool.true_and]
  have hd := hc.nodup
  unfold difS at hd
  rw [hl, below_all hE] at hd
  refine (chkD_iff _ _ ?_).2 ⟨hd, fun d _ => rep_false _ d⟩
  intro d hd
  obtain ⟨e, he, rfl⟩ := List.mem_map.1 hd
  have := hE e he
  have := dlt_le hc.lab this.1 this.2.1 (by omega)
  simp; omega

/-! ### The walk is the search -/
/-- What the walk comes to, and what the search comes to. -/
def RelF (p : List Int × Out) (r : Option (List Int) × Int) : Prop := match p.2 with
  | .off o => r = (some o, 1)
  | .on a => a = 0 ∧ r = (none, 0)

/-- The walk's labels. -/
def LabsOK (g : Gr) (l labs : List Int) : Prop := labs.length = g.n ∧ LabOK g.E.length labs ∧ labs.take l.length = l

def partW : Who → Bool
  | .part => true
  | _ => false

theorem take_snoc {labs l : List Int} {v : Int} (h : labs.take (l.length + 1) = l ++ [v]) : labs.take l.length = l := by
  have := congrArg (List.take l.length) h
  rw [List.take_take, Nat.min_eq_left (by omega)] at this
  simpa using this

theorem set_take {labs l : List Int} {v : Int} {n : Nat} (h : labs.take l.length = l) (hl : labs.length = n) (hlt : l.length < n) : (labs.set l.length v).take (l.length + 1) = l ++ [v] := by
  rw [List.take_add_one, List.take_set, h, List.set_eq_of_length_le (by omega)]
  simp [hl, hlt]

theorem scan_first (g : Gr) (hg : GrOK g) (next : List Int → List Bool → List Bool → Int → List Int × Out) (srch : List Int → Option (List Int) × Int) (l : List Int) (used diffs : List Bool) (hc : Cons g l used diffs) (hlt : l.length < g.n)
    (hnext : ∀ v labs used diffs, Cons g (l ++ [v]) used diffs → LabsOK g (l ++ [v]) labs → RelF (next labs used diffs 0) (srch (l ++ [v])) ∧ LabsOK g (l ++ [v]) (next labs used diffs 0).1) :
    ∀ (k : Nat) (labs : List Int), k ≤ g.E.length + 1 → LabsOK g l labs → RelF (scanW next g.E l.length used diffs k labs 0) (loopX srch g.E l true k none 0) ∧ LabsOK g l (scanW next g.E l.length used diffs k labs 0).1
  | 0, labs, hk, hL => ⟨⟨rfl, rfl⟩, hL⟩
  | k + 1, labs, hk, hL => by
    have hv : g.E.length - k ≤ g.E.length := by omega
    have hcast : (g.E.length : Int) - k = ((g.E.length - k : Nat) : Int) := by omega
    obtain ⟨f1, f2⟩ := fits_walk g hg l labs used diffs hc hlt hL.2.2 (g.E.length - k) hv
    have ih := scan_first g hg next srch l used diffs hc hlt hnext k
    simp only [scanW, loopX]
    rw [hcast]
    have hb : (used[g.E.length - k]? = some true) ↔ (used.getD (g.E.length - k) false = true) := by
      rw [List.getD_eq_getElem?_getD]
      cases used[g.E.length - k]? <;> simp
    by_cases hu : used.getD (g.E.length - k) false = true
    · rw [if_pos (hb.2 hu), if_neg (by rw [f1 hu]; simp)]
      exact ih labs (by omega) hL
    · have hu' : used.getD (g.E.length - k) false = false := by simpa using hu
      rw [if_neg (fun h => hu (hb.1 h))]
      obtain ⟨q1, q2⟩ := f2 hu'
      cases he : edgeS labs l.length (g.E.length - k : Nat) g.E diffs with
      | none =>
        rw [he] at q1
        rw [if_neg (by rw [← q1]; simp)]
        exact ih labs (by omega) hL
      | some now =>
        rw [he] at q1
        have q1' : fitsB g.E l ((g.E.length - k : Nat) : Int) = true := by rw [← q1]; rfl
        rw [if_pos q1']
        dsimp only
        have hc' := q2 now he
        have hL' : LabsOK g (l ++ [((g.E.length - k : Nat) : Int)]) (labs.set l.length ((g.E.length - k : Nat) : Int)) := by
          refine ⟨by simpa using hL.1, ?_, by simpa using set_take hL.2.2 hL.1 hlt⟩
          intro x hx
          rcases List.mem_or_eq_of_mem_set hx with hx | rfl
          · exact hL.2.1 x hx
          · omega
        obtain ⟨n1, n2⟩ := hnext _ _ _ _ hc' hL'
        have n3 : LabsOK g l (next (labs.set l.length ((g.E.length - k : Nat) : Int)) (used.set (g.E.length - k) true) now 0).1 := ⟨n2.1, n2.2.1, take_snoc (by simpa using n2.2.2)⟩
        revert n1 n3
        generalize next (labs.set l.length ((g.E.length - k : Nat) : Int)) (used.set (g.E.length - k) true) now 0 = p
        intro n1 n3
        obtain ⟨labs', o⟩ := p
        cases o with
        | on a =>
          obtain ⟨rfl, e2⟩ := n1
          simp only [e2]
          rw [if_neg (by simp)]
          exact ih labs' (by omega) n3
        | off o =>
          have e2 : srch (l ++ [((g.E.length - k : Nat) : Int)]) = (some o, 1) := n1
          simp only [e2]
          rw [if_pos (by simp)]
          exact ⟨rfl, n3⟩

theorem walk_first (g : Gr) (hg : GrOK g) (w : Who) (hw : w ≠ .count) : ∀ (f : Nat) (l labs : List Int) (used diffs : List Bool), f + l.length = g.n → Cons g l used diffs → LabsOK g l labs →
    RelF (putS w g f labs used diffs 0) (srS g.n g.E (partW w) true f l) ∧ LabsOK g l (putS w g f labs used diffs 0).1
  | 0, l, labs, used, diffs, hf, hc, hL => by
    have hl : labs = l := by have := hL.2.2; rw [List.take_of_length_le (by rw [hL.1]; omega)] at this; exact this
    subst hl
    have hgr := hc.graceful hg hL.1
    refine ⟨?_, hL⟩
    simp only [putS, srS, hgr, true_and]
    cases w with
    | count => exact absurd rfl hw
    | label => simp [partW, yieldS, RelF]
    | part =>
      have hp := parts_same g.E labs (by rw [hL.1]; exact hg.2.2.2.2) hc.lab hg.2.2.1 hg.2.2.2.1
      simp only [partW, yieldS, Bool.true_eq_false, or_false]
      by_cases h : 0 ≤ partS labs g.E
      · rw [if_pos h, if_pos (hp.1 h)]; rfl
      · rw [if_neg h, if_neg (fun q => h (hp.2 q))]; exact ⟨rfl, rfl⟩
  | f + 1, l, labs, used, diffs, hf, hc, hL => by
    have hnode : g.n - (f + 1) = l.length := by omega
    simp only [putS, srS]
    rw [hnode]
    refine scan_first g hg (putS w g f) (srS g.n g.E (partW w) true f) l used diffs hc (by omega) ?_ _ labs (Nat.le_refl _) hL
    intro v labs used diffs hc hL
    exact walk_first g hg w hw f (l ++ [v]) labs used diffs (by simp; omega) hc hL

theorem scan_count (g : Gr) (hg : GrOK g) (next : List Int → List Bool → List Bool → Int → List Int × Out) (srch : List Int → Option (List Int) × Int) (B M : Int) (hB : 0 ≤ B) (l : List Int) (used diffs : List Bool) (hc : Cons g l used diffs) (hlt : l.length < g.n)
    (hs : ∀ x, 0 ≤ (srch x).2 ∧ (srch x).2 ≤ B)
    (hnext : ∀ v labs used diffs acc, Cons g (l ++ [v]) used diffs → LabsOK g (l ++ [v]) labs → 0 ≤ acc → acc + B ≤ M → (next labs used diffs acc).2 = .on (acc + (srch (l ++ [v])).2) ∧ LabsOK g (l ++ [v]) (next labs used diffs acc).1) :
    ∀ (k : Nat) (labs : List Int) (acc : Int) (best : Option (List Int)) (many : Int), k ≤ g.E.length + 1 → LabsOK g l labs → 0 ≤ acc → acc + k * B ≤ M → (scanW next g.E l.length used diffs k labs acc).2 = .on (acc + ((loopX srch g.E l false k best many).2 - many)) ∧ LabsOK g l (scanW next g.E l.length used diffs k labs acc).1
  | 0, labs, acc, best, many, hk, hL, ha, hb => by simp only [scanW, loopX]; exact ⟨by congr 1; omega, hL⟩
  | k + 1, labs, acc, best, many, hk, hL, ha, hb => by
    have hv : g.E.length - k ≤ g.E.length := by omega
    have hcast : (g.E.length : Int) - k = ((g.E.length - k : Nat) : Int) := by omega
    have hkB : ((k + 1 : Nat) : Int) * B = k * B + B := by rw [Int.natCast_add, Int.add_mul]; simp
    have hk0 : 0 ≤ (k : Int) * B := Int.mul_nonneg (by omega) hB
    obtain ⟨f1, f2⟩ := fits_walk g hg l labs used diffs hc hlt hL.2.2 (g.E.length - k) hv
    have ih := scan_count g hg next srch B M hB l used diffs hc hlt hs hnext k
    simp only [scanW, loopX]
    rw [hcast]
    have hbb : (used[g.E.length - k]? = some true) ↔ (used.getD (g.E.length - k) false = true) := by
      rw [List.getD_eq_getElem?_getD]
      cases used[g.E.length - k]? <;> simp
    by_cases hu : used.getD (g.E.length - k) false = true
    · rw [if_pos (hbb.2 hu), if_neg (by rw [f1 hu]; simp)]
      exact ih labs acc best many (by omega) hL ha (by omega)
    · have hu' : used.getD (g.E.length - k) false = false := by simpa using hu
      rw [if_neg (fun h => hu (hbb.1 h))]
      obtain ⟨q1, q2⟩ := f2 hu'
      cases he : edgeS labs l.length (g.E.length - k : Nat) g.E diffs with
      | none =>
        rw [he] at q1
        rw [if_neg (by rw [← q1]; simp)]
        exact ih labs acc best many (by omega) hL ha (by omega)
      | some now =>
        rw [he] at q1
        have q1' : fitsB g.E l ((g.E.length - k : Nat) : Int) = true := by rw [← q1]; rfl
        rw [if_pos q1', if_neg (by simp)]
        dsimp only
        have hc' := q2 now he
        have hL' : LabsOK g (l ++ [((g.E.length - k : Nat) : Int)]) (labs.set l.length ((g.E.length - k : Nat) : Int)) := by
          refine ⟨by simpa using hL.1, ?_, by simpa using set_take hL.2.2 hL.1 hlt⟩
          intro x hx
          rcases List.mem_or_eq_of_mem_set hx with hx | rfl
          · exact hL.2.1 x hx
          · omega
        obtain ⟨n1, n2⟩ := hnext _ _ _ _ acc hc' hL' ha (by omega)
        have hsx := hs (l ++ [((g.E.length - k : Nat) : Int)])
        have n3 : LabsOK g l (next (labs.set l.length ((g.E.length - k : Nat) : Int)) (used.set (g.E.length - k) true) now acc).1 := ⟨n2.1, n2.2.1, take_snoc (by simpa using n2.2.2)⟩
        revert n1 n3
        generalize next (labs.set l.length ((g.E.length - k : Nat) : Int)) (used.set (g.E.length - k) true) now acc = p
        intro n1 n3
        obtain ⟨labs', o⟩ := p
        simp only at n1
        subst n1
        simp only
        have := ih labs' (acc + (srch (l ++ [((g.E.length - k : Nat) : Int)])).2) (best.or (srch (l ++ [((g.E.length - k : Nat) : Int)])).1) (many + (srch (l ++ [((g.E.length - k : Nat) : Int)])).2) (by omega) n3 (by omega) (by omega)
        refine ⟨this.1.trans ?_, this.2⟩
        congr 1; omega

theorem walk_count (g : Gr) (hg : GrOK g) : ∀ (f : Nat) (l labs : List Int) (used diffs : List Bool) (acc : Int), f + l.length = g.n → Cons g l used diffs → LabsOK g l labs → 0 ≤ acc → acc + 11 ^ f ≤ 1000000000 →
    (putS .count g f labs used diffs acc).2 = .on (acc + (srS g.n g.E false false f l).2) ∧ LabsOK g l (putS .count g f labs used diffs acc).1
  | 0, l, labs, used, diffs, acc, hf, hc, hL, ha, hb => by
    have hl : labs = l := by have := hL.2.2; rw [List.take_of_length_le (by rw [hL.1]; omega)] at this; exact this
    subst hl
    have hgr := hc.graceful hg hL.1
    refine ⟨?_, hL⟩
    simp only [putS, srS, hgr, true_and, or_true, if_true, yieldS]
    rw [wrap64 (by omega) (by omega)]
  | f + 1, l, labs, used, diffs, acc, hf, hc, hL, ha, hb => by
    have hnode : g.n - (f + 1) = l.length := by omega
    simp only [putS, srS]
    rw [hnode]
    have hp : (11 : Int) ^ (f + 1) = 11 * 11 ^ f := by rw [Int.pow_succ]; omega
    have h10 := hg.2.2.2.1
    have h11 : ((g.E.length + 1 : Nat) : Int) * 11 ^ f ≤ 11 * 11 ^ f := Int.mul_le_mul_of_nonneg_right (by omega) (Int.pow_nonneg (by omega))
    have := scan_count g hg (putS .count g f) (srS g.n g.E false false f) (11 ^ f) 1000000000 (Int.pow_nonneg (by omega)) l used diffs hc (by omega) (srS_bound g.n g.E false false h10 f) ?_ (g.E.length + 1) labs acc none 0 (Nat.le_refl _) hL ha (by omega)
    · refine ⟨this.1.trans ?_, this.2⟩
      congr 1; omega
    intro v labs used diffs acc hc hL ha hb
    exact walk_count g hg f (l ++ [v]) labs used diffs acc (by simp; omega) hc hL ha hb

/-- Nothing is taken at the begin. -/
theorem cons0 (g : Gr) (hg : GrOK g) : Cons g [] noDiffs noDiffs := by
  have hb : difS g.E [] = [] := by
    unfold difS below
    rw [List.map_eq_nil_iff, List.filter_eq_nil_iff]
    intro e he
    have := hg.2.2.2.2 e he
    simp; omega
  refine ⟨(by intro x hx; cases hx), by simp, rfl, rfl, fun v => ?_, by rw [hb]; exact List.nodup_nil, fun d => ?_, List.nodup_nil⟩
  · unfold noDiffs; rw [rep_false]; simp
  · unfold noDiffs; rw [rep_false, hb]; simp

theorem labs0 (g : Gr) : LabsOK g [] (List.replicate g.n 0) := by
  refine ⟨by simp, ?_, by simp⟩
  intro x hx
  have := (List.mem_replicate.1 hx).2
  omega

/-- The first graceful labels (that part, if asked) are the document's. -/
theorem first_same (g : Gr) (hg : GrOK g) (w : Who) (hw : w ≠ .count) : RelF (p0 w g) (srS g.n g.E (partW w) true g.n []) :=
  (walk_first g hg w hw g.n [] (List.replicate g.n 0) noDiffs noDiffs (by simp) (cons0 g hg) (labs0 g)).1

/-- There are as many graceful labels as the document says. -/
theorem count_same (g : Gr) (hg : GrOK g) : (p0 .count g).2 = .on (srS g.n g.E false false g.n []).2 := by
  have := (walk_count g hg g.n [] (List.replicate g.n 0) noDiffs noDiffs 0 (by simp) (cons0 g hg) (labs0 g) (by omega) (by have := pow_le hg.2.1; omega)).1
  rw [Int.zero_add] at this
  exact this
end Go.Proofs.Ytkcdbndpcabelaa

/- Chapter 02: the law on the first labels, on data. -/
namespace Go.Proofs.Ytkcdbndpcabelaa
open Go Go.AE

theorem k19 : OkSeg Try.f19 none [] := ⟨by kernel_rfl, by kernel_rfl, by decide⟩
theorem k31 : OkSeg Try.f31 none [] := ⟨by kernel_rfl, by kernel_rfl, by decide⟩
theorem k6 : OkSeg Try.f6 none [] := ⟨by kernel_rfl, by kernel_rfl, by decide⟩
noncomputable def sp49z (f : Nat) : List DV → Tr DV
  | [.int .i64 n, .sl es m 2 c nl, .sl [] 0 0 c2 true, .bool part, .bool first] => sp49 f [.int .i64 n, .sl es m 2 c nl, .sl [] 0 1 c2 true, .bool part, .bool first]
  | _ => .fail
noncomputable def evZ9 (f : Nat) : Ev := Ev.nil.add 49 (sp49z f)
noncomputable def sp19 : List DV → Tr DV
  | [.int .i64 n, .sl es m 2 _ _, .bool part] => .node (decide (openS n (unE es) = 0) && isE es m) (.node (srS n (unE es) part true n.toNat []).1.isSome (.leaf (.sl (ints ((srS n (unE es) part true n.toNat []).1.getD [])) ((srS n (unE es) part true n.toNat []).1.getD []).length 1 false false)) (.leaf (.sl [] 0 1 false true))) .fail
  | _ => .fail
noncomputable def sp31 : List DV → Tr DV
  | [.int .i64 n, .sl es m 2 _ _] => .node (decide (openS n (unE es) = 0) && isE es m) (.leaf (iD (srS n (unE es) false false n.toNat []).2)) .fail
  | _ => .fail
def tenI : Int := 10
noncomputable def sp13 (n : Int) (E : List (Int × Int)) (c nl : Bool) (m : Int) (F : List (Int × Int)) : List DV → Tr DV
  | [.int .i64 n', .sl es k 2 c' nl', .int .i64 most] => .node (isAt (n', es, k, c', nl', most) (n, edD E, E.length, c, nl, tenI)) (.leaf (.tup [iD m, .sl (edD F) F.length 2 false false])) .fail
  | _ => .fail
/-- The program's functions on labels. -/
noncomputable def spL (w : Who) : List DV → Tr DV
  | [.int .i64 n, .sl es m 2 _ false] => .node (decide (openS n (unE es) = 0) && isE es m) (match w with
      | .count => .leaf (.tup [iD (srS n (unE es) false false n.toNat []).2, iD 0])
      | _ => .node (srS n (unE es) (partW w) true n.toNat []).1.isSome (.leaf (.tup [.sl (ints ((srS n (unE es) (partW w) true n.toNat []).1.getD [])) ((srS n (unE es) (partW w) true n.toNat []).1.getD []).length 1 false false, bD true, iD 0])) (.leaf (.tup [nilS1, bD false, iD 0]))) .fail
  | _ => .fail
noncomputable def evR6 (n : Int) (E : List (Int × Int)) (c nl : Bool) (m : Int) (F : List (Int × Int)) : Ev := (((((((Ev.nil.add 13 (sp13 n E c nl m F)).add 20 sp20).add 23 sp23).add 28 (spL .label)).add 29 (spL .count)).add 30 (spL .part)).add 19 sp19).add 31 sp31


theorem r19 (f : Nat) (n : Int) (E : List (Int × Int)) (c nl part : Bool) : startS aeC (evZ9 f) 19 0 Try.f19 none ⟨envOf 0 ([iD n, edgX E c nl, bD part].map .d), [], []⟩ (doneE aeC Try.f19 0 fun v h => freezeV h 4 v) =
  bif okG49 f n (edD E) (List.length E) [] 0 true then
    bif Option.isSome (srS n (unE (edD E)) part true f (unI [])).1 then
      some (DV.sl (ints (Option.getD (srS n (unE (edD E)) part true f (unI [])).1 [])) (List.length (Option.getD (srS n (unE (edD E)) part true f (unI [])).1 [])) 1 false false)
    else
      some (DV.sl [] 0 1 false true)
  else
    none := by kernel_rfl

theorem r31 (f : Nat) (n : Int) (E : List (Int × Int)) (c nl : Bool) : startS aeC (evZ9 f) 31 0 Try.f31 none ⟨envOf 0 ([iD n, edgX E c nl].map .d), [], []⟩ (doneE aeC Try.f31 0 fun v h => freezeV h 4 v) =
  bif okG49 f n (edD E) (List.length E) [] 0 true then
    bif Option.isSome (srS n (unE (edD E)) false false f (unI [])).1 then
      some (iD (srS n (unE (edD E)) false false f (unI [])).2)
    else
      some (iD (srS n (unE (edD E)) false false f (unI [])).2)
  else
    none := by kernel_rfl

theorem r6 (n : Int) (E : List (Int × Int)) (c nl : Bool) (m : Int) (F : List (Int × Int)) : startS aeC (evR6 n E c nl m F) 6 0 Try.f6 none ⟨envOf 0 ([iD n, edgX E c nl].map .d), [], []⟩ (doneE aeC Try.f6 0 fun v h => freezeV h 4 v) =
  bif isAt (n, edD E, List.length E, c, nl, 10) (n, edD E, List.length E, c, nl, tenI) then
    bif decide (openS m (unE (edD F)) = 0) && isE (edD F) (List.length F) then
      bif Option.isSome (srS m (unE (edD F)) (partW Who.label) true (Int.toNat m) []).1 then
        bif decide (openS m (unE (edD F)) = 0) && isE (edD F) (List.length F) then
          bif decide (openS m (unE (edD F)) = 0) && isE (edD F) (List.length F) then
            bif Option.isSome (srS m (unE (edD F)) (partW Who.part) true (Int.toNat m) []).1 then
              bif decide (openS m (unE (edD F)) = 0) && isE (edD F) (List.length F) then
                bif Option.isSome (srS m (unE (edD F)) false true (Int.toNat m) []).1 then
                  bif decide (openS m (unE (edD F)) = 0) && isE (edD F) (List.length F) then
                    bif Option.isSome (srS m (unE (edD F)) true true (Int.toNat m) []).1 then
                      bif isI (ints (Option.getD (srS m (unE (edD F)) (partW Who.label) true (Int.toNat m) []).1 [])) && (isI (ints (Option.getD (srS m (unE (edD F)) false true (Int.toNat m) []).1 [])) && (Nat.beq (List.length (ints (Option.getD (srS m (unE (edD F)) (partW Who.label) true (Int.toNat m) []).1 []))) (List.length (Option.getD (srS m (unE (edD F)) (partW Who.label) true (Int.toNat m) []).1 [])) && (Nat.beq (List.length (ints (Option.getD (srS m (unE (edD F)) false true (Int.toNat m) []).1 []))) (List.length (Option.getD (srS m (unE (edD F)) false true (Int.toNat m) []).1 [])) && Nat.blt (List.length (Option.getD (srS m (unE (edD F)) (partW Who.label) true (Int.toNat m) []).1 [])) 4611686018427387904))) then
                        bif decide (unI (ints (Option.getD (srS m (unE (edD F)) (partW Who.label) true (Int.toNat m) []).1 [])) = unI (ints (Option.getD (srS m (unE (edD F)) false true (Int.toNat m) []).1 []))) then
                          bif decide (openS m (unE (edD F)) = 0) && isE (edD F) (List.length F) then
                            bif decide ((srS m (unE (edD F)) false false (Int.toNat m) []).2 = (srS m (unE (edD F)) false false (Int.toNat m) []).2) then
                              bif isI (ints (Option.getD (srS m (unE (edD F)) (partW Who.part) true (Int.toNat m) []).1 [])) && (isI (ints (Option.getD (srS m (unE (edD F)) true true (Int.toNat m) []).1 [])) && (Nat.beq (List.length (ints (Option.getD (srS m (unE (edD F)) (partW Who.part) true (Int.toNat m) []).1 []))) (List.length (Option.getD (srS m (unE (edD F)) (partW Who.part) true (Int.toNat m) []).1 [])) && (Nat.beq (List.length (ints (Option.getD (srS m (unE (edD F)) true true (Int.toNat m) []).1 []))) (List.length (Option.getD (srS m (unE (edD F)) true true (Int.toNat m) []).1 [])) && Nat.blt (List.length (Option.getD (srS m (unE (edD F)) (partW Who.part) true (Int.toNat m) []).1 [])) 4611686018427387904))) then
                                bif decide (unI (ints (Option.getD (srS m (unE (edD F)) (partW Who.part) true (Int.toNat m) []).1 [])) = unI (ints (Option.getD (srS m (unE (edD F)) true true (Int.toNat m) []).1 []))) then
                                  some (bD true)
                                else
                                  some (bD false)
                              else
                                none
                            else
                              some (bD false)
                          else
                            none
                        else
                          some (bD false)
                      else
                        none
                    else
                      bif isI (ints (Option.getD (srS m (unE (edD F)) (partW Who.label) true (Int.toNat m) []).1 [])) && (isI (ints (Option.getD (srS m (unE (edD F)) false true (Int.toNat m) []).1 [])) && (Nat.beq (List.length (ints (Option.getD (srS m (unE (edD F)) (partW Who.label) true (Int.toNat m) []).1 []))) (List.length (Option.getD (srS m (unE (edD F)) (partW Who.label) true (Int.toNat m) []).1 [])) && (Nat.beq (List.length (ints (Option.getD (srS m (unE (edD F)) false true (Int.toNat m) []).1 []))) (List.length (Option.getD (srS m (unE (edD F)) false true (Int.toNat m) []).1 [])) && Nat.blt (List.length (Option.getD (srS m (unE (edD F)) (partW Who.label) true (Int.toNat m) []).1 [])) 4611686018427387904))) then
                        bif decide (unI (ints (Option.getD (srS m (unE (edD F)) (partW Who.label) true (Int.toNat m) []).1 [])) = unI (ints (Option.getD (srS m (unE (edD F)) false true (Int.toNat m) []).1 []))) then
                          bif decide (openS m (unE (edD F)) = 0) && isE (edD F) (List.length F) then
                            bif decide ((srS m (unE (edD F)) false false (Int.toNat m) []).2 = (srS m (unE (edD F)) false false (Int.toNat m) []).2) then
                              some (bD false)
                            else
                              some (bD false)
                          else
                            none
                        else
                          some (bD false)
                      else
                        none
                  else
                    none
                else
                  bif decide (openS m (unE (edD F)) = 0) && isE (edD F) (List.length F) then
                    bif Option.isSome (srS m (unE (edD F)) true true (Int.toNat m) []).1 then
                      some (bD false)
                    else
                      some (bD false)
                  else
                    none
              else
                none
            else
              bif decide (openS m (unE (edD F)) = 0) && isE (edD F) (List.length F) then
                bif Option.isSome (srS m (unE (edD F)) false true (Int.toNat m) []).1 then
                  bif decide (openS m (unE (edD F)) = 0) && isE (edD F) (List.length F) then
                    bif Option.isSome (srS m (unE (edD F)) true true (Int.toNat m) []).1 then
                      bif isI (ints (Option.getD (srS m (unE (edD F)) (partW Who.label) true (Int.toNat m) []).1 [])) && (isI (ints (Option.getD (srS m (unE (edD F)) false true (Int.toNat m) []).1 [])) && (Nat.beq (List.length (ints (Option.getD (srS m (unE (edD F)) (partW Who.label) true (Int.toNat m) []).1 []))) (List.length (Option.getD (srS m (unE (edD F)) (partW Who.label) true (Int.toNat m) []).1 [])) && (Nat.beq (List.length (ints (Option.getD (srS m (unE (edD F)) false true (Int.toNat m) []).1 []))) (List.length (Option.getD (srS m (unE (edD F)) false true (Int.toNat m) []).1 [])) && Nat.blt (List.length (Option.getD (srS m (unE (edD F)) (partW Who.label) true (Int.toNat m) []).1 [])) 4611686018427387904))) then
                        bif decide (unI (ints (Option.getD (srS m (unE (edD F)) (partW Who.label) true (Int.toNat m) []).1 [])) = unI (ints (Option.getD (srS m (unE (edD F)) false true (Int.toNat m) []).1 []))) then
                          bif decide (openS m (unE (edD F)) = 0) && isE (edD F) (List.length F) then
                            bif decide ((srS m (unE (edD F)) false false (Int.toNat m) []).2 = (srS m (unE (edD F)) false false (Int.toNat m) []).2) then
                              some (bD false)
                            else
                              some (bD false)
                          else
                            none
                        else
                          some (bD false)
                      else
                        none
                    else
                      bif isI (ints (Option.getD (srS m (unE (edD F)) (partW Who.label) true (Int.toNat m) []).1 [])) && (isI (ints (Option.getD (srS m (unE (edD F)) false true (Int.toNat m) []).1 [])) && (Nat.beq (List.length (ints (Option.getD (srS m (unE (edD F)) (partW Who.label) true (Int.toNat m) []).1 []))) (List.length (Option.getD (srS m (unE (edD F)) (partW Who.label) true (Int.toNat m) []).1 [])) && (Nat.beq (List.length (ints (Option.getD (srS m (unE (edD F)) false true (Int.toNat m) []).1 []))) (List.length (Option.getD (srS m (unE (edD F)) false true (Int.toNat m) []).1 [])) && Nat.blt (List.length (Option.getD (srS m (unE (edD F)) (partW Who.label) true (Int.toNat m) []).1 [])) 4611686018427387904))) then
                        bif decide (unI (ints (Option.getD (srS m (unE (edD F)) (partW Who.label) true (Int.toNat m) []).1 [])) = unI (ints (Option.getD (srS m (unE (edD F)) false true (Int.toNat m) []).1 []))) then
                          bif decide (openS m (unE (edD F)) = 0) && isE (edD F) (List.length F) then
                            bif decide ((srS m (unE (edD F)) false false (Int.toNat m) []).2 = (srS m (unE (edD F)) false false (Int.toNat m) []).2) then
                              some (bD true)
                            else
                              some (bD false)
                          else
                            none
                        else
                          some (bD false)
                      else
                        none
                  else
                    none
                else
                  bif decide (openS m (unE (edD F)) = 0) && isE (edD F) (List.length F) then
                    bif Option.isSome (srS m (unE (edD F)) true true (Int.toNat m) []).1 then
                      some (bD false)
                    else
                      some (bD false)
                  else
                    none
              else
                none
          else
            none
        else
          none
      else
        bif decide (openS m (unE (edD F)) = 0) && isE (edD F) (List.length F) then
          bif decide (openS m (unE (edD F)) = 0) && isE (edD F) (List.length F) then
            bif Option.isSome (srS m (unE (edD F)) (partW Who.part) true (Int.toNat m) []).1 then
              bif decide (openS m (unE (edD F)) = 0) && isE (edD F) (List.length F) then
                bif Option.isSome (srS m (unE (edD F)) false true (Int.toNat m) []).1 then
                  bif decide (openS m (unE (edD F)) = 0) && isE (edD F) (List.length F) then
                    bif Option.isSome (srS m (unE (edD F)) true true (Int.toNat m) []).1 then
                      some (bD false)
                    else
                      some (bD false)
                  else
                    none
                else
                  bif decide (openS m (unE (edD F)) = 0) && isE (edD F) (List.length F) then
                    bif Option.isSome (srS m (unE (edD F)) true true (Int.toNat m) []).1 then
                      bif decide (openS m (unE (edD F)) = 0) && isE (edD F) (List.length F) then
                        bif decide ((srS m (unE (edD F)) false false (Int.toNat m) []).2 = (srS m (unE (edD F)) false false (Int.toNat m) []).2) then
                          bif isI (ints (Option.getD (srS m (unE (edD F)) (partW Who.part) true (Int.toNat m) []).1 [])) && (isI (ints (Option.getD (srS m (unE (edD F)) true true (Int.toNat m) []).1 [])) && (Nat.beq (List.length (ints (Option.getD (srS m (unE (edD F)) (partW Who.part) true (Int.toNat m) []).1 []))) (List.length (Option.getD (srS m (unE (edD F)) (partW Who.part) true (Int.toNat m) []).1 [])) && (Nat.beq (List.length (ints (Option.getD (srS m (unE (edD F)) true true (Int.toNat m) []).1 []))) (List.length (Option.getD (srS m (unE (edD F)) true true (Int.toNat m) []).1 [])) && Nat.blt (List.length (Option.getD (srS m (unE (edD F)) (partW Who.part) true (Int.toNat m) []).1 [])) 4611686018427387904))) then
                            bif decide (unI (ints (Option.getD (srS m (unE (edD F)) (partW Who.part) true (Int.toNat m) []).1 [])) = unI (ints (Option.getD (srS m (unE (edD F)) true true (Int.toNat m) []).1 []))) then
                              some (bD true)
                            else
                              some (bD false)
                          else
                            none
                        else
                          some (bD false)
                      else
                        none
                    else
                      bif decide (openS m (unE (edD F)) = 0) && isE (edD F) (List.length F) then
                        bif decide ((srS m (unE (edD F)) false false (Int.toNat m) []).2 = (srS m (unE (edD F)) false false (Int.toNat m) []).2) then
                          some (bD false)
                        else
                          some (bD false)
                      else
                        none
                  else
                    none
              else
                none
            else
              bif decide (openS m (unE (edD F)) = 0) && isE (edD F) (List.length F) then
                bif Option.isSome (srS m (unE (edD F)) false true (Int.toNat m) []).1 then
                  bif decide (openS m (unE (edD F)) = 0) && isE (edD F) (List.length F) then
                    bif Option.isSome (srS m (unE (edD F)) true true (Int.toNat m) []).1 then
                      some (bD false)
                    else
                      some (bD false)
                  else
                    none
                else
                  bif decide (openS m (unE (edD F)) = 0) && isE (edD F) (List.length F) then
                    bif Option.isSome (srS m (unE (edD F)) true true (Int.toNat m) []).1 then
                      bif decide (openS m (unE (edD F)) = 0) && isE (edD F) (List.length F) then
                        bif decide ((srS m (unE (edD F)) false false (Int.toNat m) []).2 = (srS m (unE (edD F)) false false (Int.toNat m) []).2) then
                          some (bD false)
                        else
                          some (bD false)
                      else
                        none
                    else
                      bif decide (openS m (unE (edD F)) = 0) && isE (edD F) (List.length F) then
                        bif decide ((srS m (unE (edD F)) false false (Int.toNat m) []).2 = (srS m (unE (edD F)) false false (Int.toNat m) []).2) then
                          some (bD true)
                        else
                          some (bD false)
                      else
                        none
                  else
                    none
              else
                none
          else
            none
        else
          none
    else
      none
  else
    none := by kernel_rfl


theorem loopX_some {next : List Int → Option (List Int) × Int} {E : List (Int × Int)} {l : List Int} {first : Bool} {Q : List Int → Prop} (h : ∀ x o, (next (l ++ [x])).1 = some o → Q o) : ∀ (k : Nat) (best : Option (List Int)) (many : Int), (∀ o, best = some o → Q o) → ∀ o, (loopX next E l first k best many).1 = some o → Q o
  | 0, best, many, hb, o, e => hb o e
  | k + 1, best, many, hb, o, e => by
    have hb' : ∀ o, best.or (next (l ++ [(E.length : Int) - k])).1 = some o → Q o := by
      intro o e
      cases best with
      | none => exact h _ o (by simpa using e)
      | some b => exact hb o (by simpa using e)
    simp only [loopX] at e
    split at e
    · split at e
      · exact hb' o e
      · exact loopX_some h k _ _ hb' o e
    · exact loopX_some h k best many hb o e

theorem srS_some {n : Int} {E : List (Int × Int)} {part first : Bool} : ∀ {f : Nat} {l o : List Int}, (srS n E part first f l).1 = some o → gracB n E o = true
  | 0, l, o, e => by
    simp only [srS] at e
    split at e
    · rename_i h; cases e; exact h.1
    · cases e
  | f + 1, l, o, e => loopX_some (fun x o e => srS_some e) _ none 0 (by simp) o e

theorem grac_len {n : Int} {E : List (Int × Int)} {o : List Int} (h : gracB n E o = true) : (o.length : Int) = n := by
  simp only [gracB, Bool.and_eq_true, decide_eq_true_eq] at h
  exact h.1

theorem open_graph {n : Int} {E : List (Int × Int)} (h : openS n E = 0) : GrOK ⟨n.toNat, E⟩ ∧ 2 ≤ n ∧ n ≤ 7 := by
  obtain ⟨g, rfl, rfl, hg⟩ := openS_ok h
  have := hg.1; have := hg.2.1
  exact ⟨by rw [Int.toNat_natCast]; exact hg, by omega, by omega⟩

theorem sp49z_ok (f : Nat) : ∀ ds d, (sp49z f ds).val = some d → PureOK Try.prog 49 ds d := by
  intro ds d h
  unfold sp49z at h
  split at h
  · have := (sp49_ok f).2 _ _ h
    refine PureOK.weaken ?_ this
    rintro w G l ⟨v1, r1, rfl, q1, v2, r2, rfl, q2, v3, r3, rfl, q3, q4⟩
    exact ⟨v1, _, rfl, q1, v2, _, rfl, q2, v3, _, rfl, nil_sz q3, q4⟩
  · cases h

theorem nil_guard {n : Int} {E : List (Int × Int)} (hg : GrOK ⟨n.toNat, E⟩) (h2 : 2 ≤ n) (h7 : n ≤ 7) : okG49 n.toNat n (edD E) E.length [] 0 true = true :=
  isP_iff.2 ⟨isE_ed E, rfl, rfl, by omega, h2, h7, by rw [unE_ed]; exact hg.2.2.2.2, hg.2.2.2.1, (by intro x hx; cases hx), fun _ => rfl⟩

theorem sp19_ok : ∀ ds d, (sp19 ds).val = some d → PureOK Try.prog 19 ds d := by
  intro ds d h
  unfold sp19 at h
  split at h
  · rename_i n es m c nl part
    simp only [Tr.val] at h
    obtain ⟨hg, h2⟩ := cond_none h
    clear h
    simp only [Bool.and_eq_true, decide_eq_true_eq] at hg
    obtain ⟨e1, e2⟩ := ed_unE hg.2
    obtain ⟨q1, q2, q3⟩ := open_graph hg.1
    have hr := r19 n.toNat n (unE es) c nl part
    rw [nil_guard q1 q2 q3, unE_ed, cond_true] at hr
    have hb : ∀ d, startS aeC (evZ9 n.toNat) 19 0 Try.f19 none ⟨envOf 0 ([iD n, edgX (unE es) c nl, bD part].map .d), [], []⟩ (doneE aeC Try.f19 0 fun v h => freezeV h 4 v) = some d → PureOK Try.prog 19 [iD n, edgX (unE es) c nl, bD part] d :=
      fun d h => ae_pure (EvOK.add EvOK.nil (sp49z_ok _)) (fn := Try.f19) k19 (by kernel_rfl) (by kernel_rfl) (startF_done k19 done_plain h)
    have := hb d (hr.trans ?_)
    · unfold edgX at this
      rw [← e1, ← e2] at this
      exact this
    · cases hs : (srS n (unE es) part true n.toNat []).1.isSome with
      | true => rw [hs] at h2; rw [show (srS n (unE es) part true n.toNat (unI [])).1.isSome = true from hs]; exact h2
      | false => rw [hs] at h2; rw [show (srS n (unE es) part true n.toNat (unI [])).1.isSome = false from hs]; exact h2
  · cases h

theorem sp31_ok : ∀ ds d, (sp31 ds).val = some d → PureOK Try.prog 31 ds d := by
  intro ds d h
  unfold sp31 at h
  split at h
  · rename_i n es m c nl
    simp only [Tr.val] at h
    obtain ⟨hg, h2⟩ := cond_none h
    clear h
    simp only [Bool.and_eq_true, decide_eq_true_eq] at hg
    obtain ⟨e1, e2⟩ := ed_unE hg.2
    obtain ⟨q1, q2, q3⟩ := open_graph hg.1
    have hr := r31 n.toNat n (unE es) c nl
    rw [nil_guard q1 q2 q3, unE_ed, cond_true] at hr
    have hb : ∀ d, startS aeC (evZ9 n.toNat) 31 0 Try.f31 none ⟨envOf 0 ([iD n, edgX (unE es) c nl].map .d), [], []⟩ (doneE aeC Try.f31 0 fun v h => freezeV h 4 v) = some d → PureOK Try.prog 31 [iD n, edgX (unE es) c nl] d :=
      fun d h => ae_pure (EvOK.add EvOK.nil (sp49z_ok _)) (fn := Try.f31) k31 (by kernel_rfl) (by kernel_rfl) (startF_done k31 done_plain h)
    have := hb d (hr.trans ?_)
    · unfold edgX at this
      rw [← e1, ← e2] at this
      exact this
    · cases h2
      cases (srS n (unE es) false false n.toNat (unI [])).1.isSome <;> rfl
  · cases h

theorem lenOf_1 (n : Nat) : lenOf 1 n = n := rfl
theorem off_eq (o : List Int) : offD o = .tup [.sl (ints o) o.length 1 false false, bD true, iD 0] := by
  unfold offD
  rw [Go.AE.lenOf_1, len_ints]

theorem spL_ok (w : Who) : ∀ ds d, (spL w ds).val = some d → PureOK Try.prog (fnW w) ds d := by
  intro ds d h
  unfold spL at h
  split at h
  · rename_i n es m c
    simp only [Tr.val] at h
    obtain ⟨hg, h2⟩ := cond_none h
    clear h
    simp only [Bool.and_eq_true, decide_eq_true_eq] at hg
    obtain ⟨e1, e2⟩ := ed_unE hg.2
    obtain ⟨q1, q2, q3⟩ := open_graph hg.1
    have main := w28_ok w n (unE es) c false (by simp)
    unfold resD at main
    rw [decide_eq_true hg.1, cond_true, ← e1, ← e2] at main
    have first : w ≠ .count → RelF (p0 w ⟨n.toNat, unE es⟩) (srS n (unE es) (partW w) true n.toNat []) := by
      intro hw
      have := first_same ⟨n.toNat, unE es⟩ q1 w hw
      rw [show (((⟨n.toNat, unE es⟩ : Gr).n : Nat) : Int) = n by show ((n.toNat : Nat) : Int) = n; omega] at this
      exact this
    have one : w ≠ .count → (bif (srS n (unE es) (partW w) true n.toNat []).1.isSome then some (DV.tup [.sl (ints ((srS n (unE es) (partW w) true n.toNat []).1.getD [])) ((srS n (unE es) (partW w) true n.toNat []).1.getD []).length 1 false false, bD true, iD 0]) else some (.tup [nilS1, bD false, iD 0])) = some (okD w (p0 w ⟨n.toNat, unE es⟩).2) := by
      intro hw
      have := first hw
      unfold RelF at this
      revert this
      generalize (p0 w ⟨n.toNat, unE es⟩).2 = p
      intro this
      cases p with
      | on a =>
        rw [this.2]
        cases w with
        | count => exact absurd rfl hw
        | label => rfl
        | part => rfl
      | off o =>
        rw [this]
        cases w with
        | count => exact absurd rfl hw
        | label => simp only [Option.isSome_some, cond_true, Option.getD_some, okD, Out.isOn, cond_false, Out.found, off_eq]
        | part => simp only [Option.isSome_some, cond_true, Option.getD_some, okD, Out.isOn, cond_false, Out.found, off_eq]
    cases w with
    | count =>
      have hc := count_same ⟨n.toNat, unE es⟩ q1
      rw [show (((⟨n.toNat, unE es⟩ : Gr).n : Nat) : Int) = n by show ((n.toNat : Nat) : Int) = n; omega] at hc
      cases h2
      simp only [okD] at main
      rw [hc] at main
      exact main
    | label =>
      have := one (by simp)
      simp only [Tr.val] at h2
      rw [this] at h2
      cases h2; exact main
    | part =>
      have := one (by simp)
      simp only [Tr.val] at h2
      rw [this] at h2
      cases h2; exact main
  · cases h

theorem sp13_ok {n : Int} {E : List (Int × Int)} {c nl : Bool} {m : Int} {F : List (Int × Int)} (h : PureOK Try.prog 13 [iD n, edgX E c nl, iD 10] (.tup [iD m, .sl (edD F) F.length 2 false false])) : ∀ ds d, (sp13 n E c nl m F ds).val = some d → PureOK Try.prog 13 ds d := by
  intro ds d q
  unfold sp13 at q
  split at q
  · rename_i n' es k c' nl' most
    simp only [Tr.val] at q
    obtain ⟨hg, h2⟩ := cond_none q
    have := isAt_iff.1 hg
    simp only [Prod.mk.injEq] at this
    obtain ⟨rfl, rfl, rfl, rfl, rfl, rfl⟩ := this
    cases h2
    exact h
  · cases q

theorem rowOk {o : List Int} (h : o.length ≤ 1000) (o2 : List Int) : (isI (ints o) && (isI (ints o2) && (Nat.beq (ints o).length o.length && (Nat.beq (ints o2).length o2.length && Nat.blt o.length 4611686018427387904)))) = true := by
  rw [isI_ints, isI_ints, len_ints, len_ints, Nat.beq_refl, Nat.beq_refl, show Nat.blt o.length 4611686018427387904 = true by rw [Nat.blt_eq]; omega]; rfl

theorem law6 (n : Int) (E : List (Int × Int)) (c nl : Bool) (hE : E.length < 9223372036854775808) : PureOK Try.prog 6 [iD n, edgX E c nl] (bD true) := by
  obtain ⟨m, F, hF, ht⟩ := tame_ok n E c nl hE
  have hev : EvOK Try.prog (evR6 n E c nl m F) := EvOK.add (EvOK.add (EvOK.add (EvOK.add (EvOK.add (EvOK.add (EvOK.add (EvOK.add EvOK.nil (sp13_ok ht)) sp20_ok) sp23_ok) (spL_ok .label)) (spL_ok .count)) (spL_ok .part)) sp19_ok) sp31_ok
  refine ae_pure hev (fn := Try.f6) k6 (by kernel_rfl) (by kernel_rfl) (startF_done k6 done_plain ?_)
  rw [r6]
  obtain ⟨hg, h2, h7⟩ := open_graph hF
  have hd : (decide (openS m (unE (edD F)) = 0) && isE (edD F) F.length) = true := by rw [unE_ed, hF, isE_ed]; rfl
  have ha : isAt (n, edD E, E.length, c, nl, (10 : Int)) (n, edD E, E.length, c, nl, tenI) = true := isAt_iff.2 rfl
  have hlen : ∀ part o, (srS m F part true m.toNat []).1 = some o → o.length ≤ 1000 := by
    intro part o e
    have := grac_len (srS_some e)
    omega
  rw [ha, hd]
  simp only [unE_ed, unI_ints, cond_true, show partW Who.label = false from rfl, show partW Who.part = true from rfl, decide_true]
  cases h1 : (srS m F false true m.toNat []).1 with
  | none =>
    cases h3 : (srS m F true true m.toNat []).1 with
    | none => rfl
    | some o2 =>
      simp only [Option.isSome_some, Option.isSome_none, Option.getD_some, cond_true, cond_false, rowOk (hlen _ _ h3), decide_true]
  | some o1 =>
    cases h3 : (srS m F true true m.toNat []).1 with
    | none =>
      simp only [Option.isSome_some, Option.isSome_none, Option.getD_some, cond_true, cond_false, rowOk (hlen _ _ h1), decide_true]
    | some o2 => simp only [Option.isSome_some, Option.getD_some, cond_true, cond_false, rowOk (hlen _ _ h1), rowOk (hlen _ _ h3), decide_true]
end Go.Proofs.Ytkcdbndpcabelaa

/- Chapter 02: whether labels are graceful: the program's function. -/
namespace Go.Proofs.Ytkcdbndpcabelaa
open Go Go.AE

theorem k48 : OkSeg Try.f48 none [0, 2] := ⟨by kernel_rfl, by kernel_rfl, by decide⟩
theorem k48_0 : OkSeg Try.f48 (some 0) [] := ⟨by kernel_rfl, by kernel_rfl, by decide⟩
theorem k48_2 : OkSeg Try.f48 (some 2) [] := ⟨by kernel_rfl, by kernel_rfl, by decide⟩
noncomputable def s48 (n : Int) (E : List (Int × Int)) (c : Bool) (l : List Int) (c2 nl2 : Bool) (used diffs : List DV) (i : Int) : St := ⟨[(0, .d (DV.ptr [iD n, edgX E c false] 0)), (1, .d (lstX l c2 nl2)), (5, .d (iD E.length)), (6, AV.ref 0 0), (7, AV.ref 1 0), (25, .d (lstX l c2 nl2)), (26, .d (iD l.length)), (27, .d (iD i))], [.dc used, .dc diffs], []⟩
noncomputable def x48 (n : Int) (E : List (Int × Int)) (c : Bool) (l : List Int) (c2 nl2 : Bool) (diffs : List DV) : St := ⟨[(0, .d (DV.ptr [iD n, edgX E c false] 0)), (1, .d (lstX l c2 nl2)), (7, AV.ref 0 0)], [.dc diffs], []⟩
noncomputable def t48 (E : List (Int × Int)) (l : List Int) (c2 nl2 : Bool) (diffs : List DV) (i : Int) : St := ⟨[(1, .d (lstX l c2 nl2)), (7, AV.ref 0 0), (49, .d (edgX E false false)), (50, .d (iD E.length)), (51, .d (iD i))], [.dc diffs], []⟩


theorem r48 (n : Int) (E : List (Int × Int)) (c : Bool) (l : List Int) (c2 nl2 : Bool) : startS aeC ev7 48 0 Try.f48 none ⟨envOf 0 ([.ptr [iD n, edgX E c false] 0, lstX l c2 nl2].map .d), [], []⟩ (heldD aeC 48 0) =
  bif !decide ((↑(List.length l) : Int) = n) then
    none
  else
    some (0, ⟨[(0, .d (DV.ptr [iD n, DV.sl (edD E) (List.length E) 2 c false] 0)), (1, .d (DV.sl (ints l) (List.length l) 1 c2 nl2)), (5, .d (iD (↑(List.length E) : Int))), (6, AV.ref 0 0), (7, AV.ref 1 0), (25, .d (DV.sl (ints l) (List.length l) 1 c2 nl2)), (26, .d (iD (↑(List.length l) : Int))), (27, .d (iD 0))], [.dc [bD false, bD false, bD false, bD false, bD false, bD false, bD false, bD false, bD false, bD false, bD false, bD false, bD false, bD false, bD false, bD false, bD false, bD false, bD false, bD false, bD false, bD false, bD false, bD false, bD false, bD false], .dc [bD false, bD false, bD false, bD false, bD false, bD false, bD false, bD false, bD false, bD false, bD false, bD false, bD false, bD false, bD false, bD false, bD false, bD false, bD false, bD false, bD false, bD false, bD false, bD false, bD false, bD false]], []⟩) := by kernel_rfl

theorem r48_d (n : Int) (E : List (Int × Int)) (c : Bool) (l : List Int) (c2 nl2 : Bool) : startS aeC ev7 48 0 Try.f48 none ⟨envOf 0 ([.ptr [iD n, edgX E c false] 0, lstX l c2 nl2].map .d), [], []⟩ (doneE aeC Try.f48 0 fun v h => freezeV h 4 v) =
  bif !decide ((↑(List.length l) : Int) = n) then
    some (bD false)
  else
    none := by kernel_rfl

theorem r48_0 (n : Int) (E : List (Int × Int)) (c : Bool) (l : List Int) (c2 nl2 : Bool) (used diffs : List DV) (i : Int) : startS aeC ev7 48 0 Try.f48 (some 0) (s48 n E c l c2 nl2 used diffs i) (roundD aeC 48 0 0) =
  bif decide (i < (↑(List.length l) : Int)) then
    bif inRange i (List.length l) then
      getI (nth (ints l) (Int.toNat i * 1)) fun x0 =>
      bif decide (x0 < 0) then
        some (Ex.ret, ⟨[(4, .d (bD false))], [], []⟩)
      else
        bif decide ((↑(List.length E) : Int) < x0) then
          some (Ex.ret, ⟨[(4, .d (bD false))], [], []⟩)
        else
          bif inRange x0 26 then
            getB (nth used (0 + Int.toNat x0 * 1)) fun y1 =>
            bif y1 then
              some (Ex.ret, ⟨[(4, .d (bD false))], [], []⟩)
            else
              bif inRange x0 26 then
                bif Nat.ble (0 + Int.toNat x0 * 1 + 1) (List.length used) && true then
                  some (Ex.norm, ⟨[(0, .d (DV.ptr [iD n, DV.sl (edD E) (List.length E) 2 c false] 0)), (1, .d (DV.sl (ints l) (List.length l) 1 c2 nl2)), (5, .d (iD (↑(List.length E) : Int))), (6, AV.ref 0 0), (7, AV.ref 1 0), (25, .d (DV.sl (ints l) (List.length l) 1 c2 nl2)), (26, .d (iD (↑(List.length l) : Int))), (27, .d (iD (IntKind.wrap IntKind.i64 (i + 1))))], [.dc (setNth used (0 + Int.toNat x0 * 1) (bD true)), .dc diffs], []⟩)
                else
                  none
              else
                none
          else
            none
    else
      none
  else
    some (Ex.exit 0, ⟨[(0, .d (DV.ptr [iD n, DV.sl (edD E) (List.length E) 2 c false] 0)), (1, .d (DV.sl (ints l) (List.length l) 1 c2 nl2)), (7, AV.ref 0 0)], [.dc diffs], []⟩) := by kernel_rfl

theorem r48_1r  : nextS aeC ev7 48 0 Try.f48 none 0 .ret ⟨[(4, .d (bD false))], [], []⟩ (doneE aeC Try.f48 0 fun v h => freezeV h 4 v) =
  some (bD false) := by kernel_rfl

theorem r48_1 (n : Int) (E : List (Int × Int)) (c : Bool) (l : List Int) (c2 nl2 : Bool) (diffs : List DV) : nextS aeC ev7 48 0 Try.f48 none 0 (.exit 0) (x48 n E c l c2 nl2 diffs) (heldD aeC 48 0) =
  some (2, ⟨[(1, .d (DV.sl (ints l) (List.length l) 1 c2 nl2)), (7, AV.ref 0 0), (49, .d (DV.sl (edD E) (List.length E) 2 false false)), (50, .d (iD (↑(List.length E) : Int))), (51, .d (iD 0))], [.dc diffs], []⟩) := by kernel_rfl

theorem r48_2 (E : List (Int × Int)) (l : List Int) (c2 nl2 : Bool) (diffs : List DV) (i : Int) : startS aeC ev7 48 0 Try.f48 (some 2) (t48 E l c2 nl2 diffs i) (roundD aeC 48 0 2) =
  bif decide (i < (↑(List.length E) : Int)) then
    bif inRange i (List.length E) then
      getI (nth (edD E) (Int.toNat i * 2)) fun x0 =>
      getI (nth (edD E) (Int.toNat i * 2 + 1)) fun x1 =>
      bif inRange x0 (List.length l) then
        getI (nth (ints l) (Int.toNat x0 * 1)) fun x2 =>
        bif inRange x1 (List.length l) then
          getI (nth (ints l) (Int.toNat x1 * 1)) fun x3 =>
          bif inRange (IntKind.wrap IntKind.i64 (max x2 x3 - min x2 x3)) 26 then
            getB (nth diffs (0 + Int.toNat (IntKind.wrap IntKind.i64 (max x2 x3 - min x2 x3)) * 1)) fun y4 =>
            bif y4 then
              some (Ex.ret, ⟨[(4, .d (bD false))], [], []⟩)
            else
              bif inRange (IntKind.wrap IntKind.i64 (max x2 x3 - min x2 x3)) 26 then
                bif Nat.ble (0 + Int.toNat (IntKind.wrap IntKind.i64 (max x2 x3 - min x2 x3)) * 1 + 1) (List.length diffs) && true then
                  some (Ex.norm, ⟨[(1, .d (DV.sl (ints l) (List.length l) 1 c2 nl2)), (7, AV.ref 0 0), (49, .d (DV.sl (edD E) (List.length E) 2 false false)), (50, .d (iD (↑(List.length E) : Int))), (51, .d (iD (IntKind.wrap IntKind.i64 (i + 1))))], [.dc (setNth diffs (0 + Int.toNat (IntKind.wrap IntKind.i64 (max x2 x3 - min x2 x3)) * 1) (bD true))], []⟩)
                else
                  none
              else
                none
          else
            none
        else
          none
      else
        none
    else
      none
  else
    some (Ex.exit 2, ⟨[], [], []⟩) := by kernel_rfl

theorem r48_x  : nextS aeC ev7 48 0 Try.f48 none 2 (.exit 2) ⟨[], [], []⟩ (doneE aeC Try.f48 0 fun v h => freezeV h 4 v) =
  some (bD true) := by kernel_rfl

theorem r48_xr  : nextS aeC ev7 48 0 Try.f48 none 2 .ret ⟨[(4, .d (bD false))], [], []⟩ (doneE aeC Try.f48 0 fun v h => freezeV h 4 v) =
  some (bD false) := by kernel_rfl

theorem l48_0 (n : Int) (E : List (Int × Int)) (c : Bool) (l : List Int) (c2 nl2 : Bool) (diffs : List DV) (hl : l.length ≤ 100) (hE : E.length ≤ 10) : ∀ (r : List Int) (i : Nat) (used : List Bool), used.length = 26 → (∀ v : Nat, used.getD v false = decide ((v : Int) ∈ l.take i)) → i ≤ l.length → l.drop i = r →
      LoopAt aeC ev7 48 0 Try.f48 0 (s48 n E c l c2 nl2 (bools used) diffs i) (bif newS E.length (l.take i) r then .exit 0 else .ret) (bif newS E.length (l.take i) r then x48 n E c l c2 nl2 diffs else ⟨[(4, .d (bD false))], [], []⟩)
  | [], i, used, hu, hch, hi, hr => by
    have h1 := drop_nil_o hr
    refine .out k48_0 (by simp [newS]) ((r48_0 ..).trans ?_)
    simp (disch := omega) only [cnd_pos, cnd_neg, inR_pos, ble_pos, blt_pos, beq_pos, cond_and, cond_or, Bool.cond_not, cond_true, cond_false, Bool.and_true, Bool.true_and, getI_some, getB_some, nth_ints_o, nth_bools_o, wrap64_o, len_ints, len_bools, lenOf_1, Int.toNat_natCast, Nat.mul_one, Nat.zero_add, setNth_bools_o, setNth_ints_o, len_set_i, len_set_b, Option.bind_some, List.length_append, List.length_cons, List.length_nil, unI_ints, unB_bools, ints_app1, bools_app1, nth_pr1, nth_pr2, len_prs, abs_if, Nat.add_zero, cond_same]
    rfl
  | y :: r, i, used, hu, hch, hi, hr => by
    obtain ⟨h1, h2, h3⟩ := drop_cons_o (d := 0) hr
    have res := r48_0 n E c l c2 nl2 (bools used) diffs i
    revert res
    simp (disch := omega) only [cnd_pos, cnd_neg, inR_pos, ble_pos, blt_pos, beq_pos, cond_and, cond_or, Bool.cond_not, cond_true, cond_false, Bool.and_true, Bool.true_and, getI_some, getB_some, nth_ints_o, nth_bools_o, wrap64_o, len_ints, len_bools, lenOf_1, Int.toNat_natCast, Nat.mul_one, Nat.zero_add, setNth_bools_o, setNth_ints_o, len_set_i, len_set_b, Option.bind_some, List.length_append, List.length_cons, List.length_nil, unI_ints, unB_bools, ints_app1, bools_app1, nth_pr1, nth_pr2, len_prs, abs_if, Nat.add_zero, cond_same]
    rw [h2]
    intro res
    simp only [newS]
    by_cases c1 : y < 0
    · rw [cnd_pos c1] at res
      rw [decide_eq_false (show ¬ 0 ≤ y by omega), Bool.false_and]
      exact .out k48_0 (by simp) res
    rw [cnd_neg c1] at res
    rw [decide_eq_true (show 0 ≤ y by omega), Bool.true_and]
    by_cases c3 : (E.length : Int) < y
    · rw [cnd_pos c3] at res
      rw [decide_eq_false (show ¬ y ≤ (E.length : Int) by omega), Bool.false_and]
      exact .out k48_0 (by simp) res
    rw [cnd_neg c3] at res
    rw [decide_eq_true (show y ≤ (E.length : Int) by omega), Bool.true_and]
    revert res
    simp (disch := omega) only [cnd_pos, cnd_neg, inR_pos, ble_pos, blt_pos, beq_pos, cond_and, cond_or, Bool.cond_not, cond_true, cond_false, Bool.and_true, Bool.true_and, getI_some, getB_some, nth_ints_o, nth_bools_o, wrap64_o, len_ints, len_bools, lenOf_1, Int.toNat_natCast, Nat.mul_one, Nat.zero_add, setNth_bools_o, setNth_ints_o, len_set_i, len_set_b, Option.bind_some, List.length_append, List.length_cons, List.length_nil, unI_ints, unB_bools, ints_app1, bools_app1, nth_pr1, nth_pr2, len_prs, abs_if, Nat.add_zero, cond_same]
    intro res
    have hcon : List.contains (l.take i) y = used.getD y.toNat false := by
      rw [hch y.toNat, show ((y.toNat : Nat) : Int) = y by omega]
      simp
    rw [hcon]
    cases hb : used.getD y.toNat false with
    | true =>
      rw [hb] at res
      exact .out k48_0 (by simp) res
    | false =>
      rw [hb] at res
      have htk : l.take i ++ [y] = l.take (i + 1) := by
        rw [List.take_add_one, ← h2]; simp [h1]
      simp only [htk, Bool.not_false, Bool.true_and]
      refine .next k48_0 res (l48_0 n E c l c2 nl2 diffs hl hE r (i + 1) _ (by simpa using hu) ?_ h1 h3)
      intro v
      rw [getD_set_b (by omega), hch v, ← htk]
      split
      · rename_i h; subst h; simp; omega
      · rename_i h
        have : ¬ ((v : Int) = y) := by omega
        simp [this]

theorem l48_2 (E : List (Int × Int)) (l : List Int) (c2 nl2 : Bool) (hl : LabOK E.length l) (hEd : EdOK l.length E) (hln : l.length ≤ 100) (hlen : E.length ≤ 10) : ∀ (r : List (Int × Int)) (i : Nat) (met : List Bool), met.length = 26 → i ≤ E.length → E.drop i = r →
      LoopAt aeC ev7 48 0 Try.f48 2 (t48 E l c2 nl2 (bools met) i) (bif (chkD (r.map (dlt l)) met).isSome then .exit 2 else .ret) (bif (chkD (r.map (dlt l)) met).isSome then ⟨[], [], []⟩ else ⟨[(4, .d (bD false))], [], []⟩)
  | [], i, met, hm, hi, hr => by
    have h1 := drop_nil_o hr
    refine .out k48_2 (by simp [chkD]) ((r48_2 ..).trans ?_)
    simp (disch := omega) only [cnd_pos, cnd_neg, inR_pos, ble_pos, blt_pos, beq_pos, cond_and, cond_or, Bool.cond_not, cond_true, cond_false, Bool.and_true, Bool.true_and, getI_some, getB_some, nth_ints_o, nth_bools_o, wrap64_o, len_ints, len_bools, lenOf_1, Int.toNat_natCast, Nat.mul_one, Nat.zero_add, setNth_bools_o, setNth_ints_o, len_set_i, len_set_b, Option.bind_some, List.length_append, List.length_cons, List.length_nil, unI_ints, unB_bools, ints_app1, bools_app1, nth_pr1, nth_pr2, len_prs, abs_if, Nat.add_zero, cond_same]
    rfl
  | d :: r, i, met, hm, hi, hr => by
    obtain ⟨h1, h2, h3⟩ := drop_cons_o (d := (0, 0)) hr
    have hd := hEd.get h1
    have res := r48_2 E l c2 nl2 (bools met) i
    have ha := hl.at hd.1 (by omega)
    have hb := hl.at (show 0 ≤ (E.getD i (0, 0)).2 by omega) hd.2.2
    rw [h2] at hd ha hb
    revert res
    simp (disch := omega) only [cnd_pos, cnd_neg, inR_pos, ble_pos, blt_pos, beq_pos, cond_and, cond_or, Bool.cond_not, cond_true, cond_false, Bool.and_true, Bool.true_and, getI_some, getB_some, nth_ints_o, nth_bools_o, wrap64_o, len_ints, len_bools, lenOf_1, Int.toNat_natCast, Nat.mul_one, Nat.zero_add, setNth_bools_o, setNth_ints_o, len_set_i, len_set_b, Option.bind_some, List.length_append, List.length_cons, List.length_nil, unI_ints, unB_bools, ints_app1, bools_app1, nth_pr1, nth_pr2, len_prs, abs_if, Nat.add_zero, cond_same, h2, show l.getD d.1.toNat 0 = labAt l d.1 from rfl, show l.getD d.2.toNat 0 = labAt l d.2 from rfl]
    have k1 : (max (labAt l d.1) (labAt l d.2) - min (labAt l d.1) (labAt l d.2)).toNat = dlt l d := by
      unfold dlt; rw [dist_comm]; rfl
    rw [k1]
    have hlt : dlt l d < met.length := by rw [← k1]; omega
    try simp (disch := omega) only [cnd_pos, cnd_neg, inR_pos, ble_pos, blt_pos, beq_pos, cond_and, cond_or, Bool.cond_not, cond_true, cond_false, Bool.and_true, Bool.true_and, getI_some, getB_some, nth_ints_o, nth_bools_o, wrap64_o, len_ints, len_bools, lenOf_1, Int.toNat_natCast, Nat.mul_one, Nat.zero_add, setNth_bools_o, setNth_ints_o, len_set_i, len_set_b, Option.bind_some, List.length_append, List.length_cons, List.length_nil, unI_ints, unB_bools, ints_app1, bools_app1, nth_pr1, nth_pr2, len_prs, abs_if, Nat.add_zero, cond_same]
    intro res
    rw [List.map_cons, chkD]
    cases hbit : met.getD (dlt l d) false with
    | true =>
      rw [hbit] at res
      exact .out k48_2 (by simp) res
    | false =>
      rw [hbit] at res
      exact .next k48_2 res (l48_2 E l c2 nl2 hl hEd hln hlen r (i + 1) _ (by simpa using hm) h1 h3)

theorem chkD_free {l : List Nat} {a b : Nat} (ha : ∀ d ∈ l, d < a) (hb : ∀ d ∈ l, d < b) : (chkD l (List.replicate a false)).isSome = (chkD l (List.replicate b false)).isSome := by
  rw [Bool.eq_iff_iff, chkD_iff _ _ (by intro d hd; simpa using ha d hd), chkD_iff _ _ (by intro d hd; simpa using hb d hd)]
  simp only [rep_false, implies_true, and_true]

theorem pgrac_ok (n : Nat) (E : List (Int × Int)) (c : Bool) (l : List Int) (c2 nl2 : Bool) (hE : EdOK n E) (hn : n ≤ 100) (hlen : E.length ≤ 10) : PureOK Try.prog 48 [.ptr [iD n, edgX E c false] 0, lstX l c2 nl2] (bD (gracB n E l)) := by
  refine ae_pure ev7_ok (fn := Try.f48) k48 (by kernel_rfl) (by kernel_rfl) ?_
  unfold gracB
  by_cases hl : (l.length : Int) = n
  · have h0 := r48 n E c l c2 nl2
    rw [decide_eq_true hl, Bool.not_true, cond_false] at h0
    rw [decide_eq_true hl, Bool.true_and, startF_seg k48 h0 (l48_0 n E c l c2 nl2 (bools noDiffs) (by omega) hlen l 0 noDiffs rfl (by intro v; unfold noDiffs; rw [rep_false]; simp) (by omega) rfl)]
    rw [List.take_zero]
    cases hnew : newS E.length [] l with
    | false => exact nextF_done k48 done_plain r48_1r
    | true =>
      simp only [cond_true, Bool.true_and]
      have hlE : l.length = n := by omega
      have hEd : EdOK l.length E := by rw [hlE]; exact hE
      rw [nextF_seg k48 (by simp) (exit_small (by omega)) (r48_1 ..) (l48_2 E l c2 nl2 (newS_lab hnew) hEd (by omega) hlen E 0 noDiffs rfl (by omega) rfl)]
      have hd : ∀ d ∈ E.map (dlt l), d ≤ E.length := by
        intro d hd
        obtain ⟨e, he, rfl⟩ := List.mem_map.1 hd
        have := hEd e he
        exact dlt_le (newS_lab hnew) this.1 this.2.1 this.2.2
      rw [show (chkD (E.map (dlt l)) (List.replicate (E.length + 1) false)).isSome = (chkD (E.map (dlt l)) noDiffs).isSome from chkD_free (fun d h => by have := hd d h; omega) (fun d h => by have := hd d h; omega)]
      cases (chkD (E.map (dlt l)) noDiffs).isSome with
      | true => exact nextF_done k48 done_plain r48_x
      | false => exact nextF_done k48 done_plain r48_xr
  · have h0 := r48_d n E c l c2 nl2
    rw [decide_eq_false hl] at h0 ⊢
    exact startF_done k48 done_plain h0

/-- Whether labels are graceful, told of data. -/
noncomputable def sp48 : List DV → Tr DV
  | [.ptr [.int .i64 n, .sl es m 2 _ false] 0, .sl cs k 1 _ _] => .node (decide (openS n (unE es) = 0) && (isE es m && (isI cs && Nat.beq cs.length k))) (.leaf (bD (gracB n (unE es) (unI cs)))) .fail
  | _ => .fail
theorem sp48_ok : ∀ ds d, (sp48 ds).val = some d → PureOK Try.prog 48 ds d := by
  intro ds d h
  unfold sp48 at h
  split at h
  · rename_i n es m c cs k c2 nl2
    simp only [Tr.val] at h
    obtain ⟨hg, h2⟩ := cond_none h
    cases h2
    simp only [Bool.and_eq_true, decide_eq_true_eq] at hg
    obtain ⟨e1, e2⟩ := ed_unE hg.2.1
    obtain ⟨q1, q2, q3⟩ := open_graph hg.1
    obtain ⟨l, rfl⟩ := isI_iff.1 hg.2.2.1
    have hk := Nat.eq_of_beq_eq_true hg.2.2.2
    rw [len_ints] at hk
    subst hk
    have := pgrac_ok n.toNat (unE es) c l c2 nl2 q1.2.2.2.2 (by omega) q1.2.2.2.1
    unfold edgX lstX at this
    rw [← e1, ← e2, show ((n.toNat : Nat) : Int) = n by omega] at this
    rw [unI_ints]
    exact this
  · cases h

/-- A graph is opened, told of data. -/
def sp47x : List DV → Tr DV
  | [.int .i64 n, .sl es m 2 c nl] => .node (isE es m) (.node (decide (openS n (unE es) = 0)) (.leaf (.tup [.ptr [iD n, .sl es m 2 c nl] 0, iD 0])) (.leaf (.tup [.nilp, iD (openS n (unE es))]))) .fail
  | _ => .fail
theorem sp47x_ok : ∀ ds d, (sp47x ds).val = some d → PureOK Try.prog 47 ds d := by
  intro ds d h
  unfold sp47x at h
  split at h
  · rename_i n es m c nl
    simp only [Tr.val] at h
    obtain ⟨hg, h2⟩ := cond_none h
    clear h
    obtain ⟨e1, e2⟩ := ed_unE hg
    have main := open_ok n (unE es) c nl
    unfold openD at main
    rw [← e1, ← e2] at main
    cases hb : decide (openS n (unE es) = 0) with
    | true => rw [hb] at h2 main; cases h2; exact main
    | false => rw [hb] at h2 main; cases h2; exact main
  · cases h
end Go.Proofs.Ytkcdbndpcabelaa

/- Chapter 02: copies: the program's are the document's. -/
namespace Go.Proofs.Ytkcdbndpcabelaa
open Go Go.AE

theorem k15 : OkSeg Try.f15 none [0] := ⟨by kernel_rfl, by kernel_rfl, by decide⟩
theorem k15_0 : OkSeg Try.f15 (some 0) [2] := ⟨by kernel_rfl, by kernel_rfl, by decide⟩
theorem k15_2 : OkSeg Try.f15 (some 2) [] := ⟨by kernel_rfl, by kernel_rfl, by decide⟩
theorem k18 : OkSeg Try.f18 none [0] := ⟨by kernel_rfl, by kernel_rfl, by decide⟩
theorem k18_0 : OkSeg Try.f18 (some 0) [2] := ⟨by kernel_rfl, by kernel_rfl, by decide⟩
theorem k18_2 : OkSeg Try.f18 (some 2) [] := ⟨by kernel_rfl, by kernel_rfl, by decide⟩
theorem k17 : OkSeg Try.f17 none [0] := ⟨by kernel_rfl, by kernel_rfl, by decide⟩
theorem k17_0 : OkSeg Try.f17 (some 0) [2] := ⟨by kernel_rfl, by kernel_rfl, by decide⟩
theorem k17_2 : OkSeg Try.f17 (some 2) [] := ⟨by kernel_rfl, by kernel_rfl, by decide⟩
noncomputable def evC : Ev := (Ev.nil.add 47 sp47x).add 48 sp48
noncomputable def s15 (E : List (Int × Int)) (c nl : Bool) (l : List Int) (c2 nl2 : Bool) (sz : Int) (out : List DV) (t : Int) : St := ⟨[(1, .d (edgX E c nl)), (2, .d (lstX l c2 nl2)), (10, .d (iD sz)), (11, AV.grow 0 1 false), (35, .d (iD sz)), (36, .d (iD t))], [.dc out], []⟩
noncomputable def t15 (E : List (Int × Int)) (c nl : Bool) (l : List Int) (c2 nl2 : Bool) (sz : Int) (out : List DV) (t : Int) (row : List DV) (i : Int) : St := ⟨[(1, .d (edgX E c nl)), (2, .d (lstX l c2 nl2)), (10, .d (iD sz)), (11, AV.grow 0 1 false), (12, .d (iD t)), (13, AV.grow 1 2 false), (35, .d (iD sz)), (36, .d (iD t)), (39, .d (edgX E c nl)), (40, .d (iD E.length)), (41, .d (iD i))], [.dc out, .dc row], []⟩
noncomputable def x15 (E : List (Int × Int)) (c nl : Bool) (l : List Int) (c2 nl2 : Bool) (sz : Int) (out : List DV) (t : Int) (row : List DV) : St := ⟨[(1, .d (edgX E c nl)), (2, .d (lstX l c2 nl2)), (10, .d (iD sz)), (11, AV.grow 0 1 false), (13, .d (.sl row (lenOf 2 row.length) 2 false (true && Nat.beq row.length 0))), (35, .d (iD sz)), (36, .d (iD t))], [.dc out], []⟩
noncomputable def s18 (E : List (Int × Int)) (c nl : Bool) (l : List Int) (c2 nl2 : Bool) (sz : Int) (out : List DV) (t : Int) : St := ⟨[(0, .d (edgX E c nl)), (1, .d (lstX l c2 nl2)), (5, .d (iD sz)), (6, AV.grow 0 1 false), (7, .d (iD t))], [.dc out], []⟩
noncomputable def t18 (E : List (Int × Int)) (c nl : Bool) (l : List Int) (c2 nl2 : Bool) (sz : Int) (out : List DV) (t : Int) (row : List DV) (i : Int) : St := ⟨[(0, .d (edgX E c nl)), (1, .d (lstX l c2 nl2)), (5, .d (iD sz)), (6, AV.grow 0 1 false), (7, .d (iD t)), (8, AV.grow 1 2 false), (9, .d (iD i))], [.dc out, .dc row], []⟩
noncomputable def x18 (E : List (Int × Int)) (c nl : Bool) (l : List Int) (c2 nl2 : Bool) (sz : Int) (out : List DV) (t : Int) (row : List DV) : St := ⟨[(0, .d (edgX E c nl)), (1, .d (lstX l c2 nl2)), (5, .d (iD sz)), (6, AV.grow 0 1 false), (7, .d (iD t)), (8, .d (.sl row (lenOf 2 row.length) 2 false (true && Nat.beq row.length 0)))], [.dc out], []⟩
noncomputable def s17 (R : List DV) (n : Nat) (i : Int) : St := ⟨[(0, .d (.sl R n 1 false false)), (1, .d (.sl R n 1 false false)), (5, .d (iD i))], [], []⟩
noncomputable def t17 (R : List DV) (n : Nat) (i k : Int) : St := ⟨[(0, .d (.sl R n 1 false false)), (1, .d (.sl R n 1 false false)), (5, .d (iD i)), (6, .d (iD k))], [], []⟩


theorem r15_2 (E : List (Int × Int)) (c nl : Bool) (l : List Int) (c2 nl2 : Bool) (sz : Int) (out : List DV) (t : Int) (row : List DV) (i : Int) : startS aeC evC 15 0 Try.f15 (some 2) (t15 E c nl l c2 nl2 sz out t row i) (roundD aeC 15 0 2) =
  bif decide (i < (↑(List.length E) : Int)) then
    bif inRange i (List.length E) then
      getI (nth (edD E) (Int.toNat i * 2)) fun x0 =>
      getI (nth (edD E) (Int.toNat i * 2 + 1)) fun x1 =>
      bif inRange x0 (List.length l) then
        getI (nth (ints l) (Int.toNat x0 * 1)) fun x2 =>
        bif decide (sz = 0) then
          none
        else
          bif inRange x1 (List.length l) then
            getI (nth (ints l) (Int.toNat x1 * 1)) fun x3 =>
            bif decide (sz = 0) then
              none
            else
              bif Nat.ble (lenOf 2 (List.length row) + 1) 1048576 then
                some (Ex.norm, ⟨[(1, .d (DV.sl (edD E) (List.length E) 2 c nl)), (2, .d (DV.sl (ints l) (List.length l) 1 c2 nl2)), (10, .d (iD sz)), (11, AV.grow 0 1 false), (12, .d (iD t)), (13, AV.grow 1 2 false), (35, .d (iD sz)), (36, .d (iD t)), (39, .d (DV.sl (edD E) (List.length E) 2 c nl)), (40, .d (iD (↑(List.length E) : Int))), (41, .d (iD (IntKind.wrap IntKind.i64 (i + 1))))], [.dc out, .dc (row ++ [iD (if Int.tmod (IntKind.wrap IntKind.i64 (x3 + t)) sz < Int.tmod (IntKind.wrap IntKind.i64 (x2 + t)) sz then Int.tmod (IntKind.wrap IntKind.i64 (x3 + t)) sz else Int.tmod (IntKind.wrap IntKind.i64 (x2 + t)) sz), iD (if Int.tmod (IntKind.wrap IntKind.i64 (x3 + t)) sz > Int.tmod (IntKind.wrap IntKind.i64 (x2 + t)) sz then Int.tmod (IntKind.wrap IntKind.i64 (x3 + t)) sz else Int.tmod (IntKind.wrap IntKind.i64 (x2 + t)) sz)])], []⟩)
              else
                none
          else
            none
      else
        none
    else
      none
  else
    some (Ex.exit 2, ⟨[(1, .d (DV.sl (edD E) (List.length E) 2 c nl)), (2, .d (DV.sl (ints l) (List.length l) 1 c2 nl2)), (10, .d (iD sz)), (11, AV.grow 0 1 false), (13, .d (DV.sl row (lenOf 2 (List.length row)) 2 false (true && Nat.beq (List.length row) 0))), (35, .d (iD sz)), (36, .d (iD t))], [.dc out], []⟩) := by kernel_rfl

theorem r15_n (E : List (Int × Int)) (c nl : Bool) (l : List Int) (c2 nl2 : Bool) (sz : Int) (out : List DV) (t : Int) (row : List DV) : nextS aeC evC 15 0 Try.f15 (some 0) 2 (.exit 2) (x15 E c nl l c2 nl2 sz out t row) (roundD aeC 15 0 0) =
  bif Nat.ble (lenOf 1 (List.length out) + 1) 1048576 then
    some (Ex.norm, ⟨[(1, .d (DV.sl (edD E) (List.length E) 2 c nl)), (2, .d (DV.sl (ints l) (List.length l) 1 c2 nl2)), (10, .d (iD sz)), (11, AV.grow 0 1 false), (35, .d (iD sz)), (36, .d (iD (IntKind.wrap IntKind.i64 (t + 1))))], [.dc (out ++ [DV.sl row (lenOf 2 (List.length row)) 2 false (true && Nat.beq (List.length row) 0)])], []⟩)
  else
    none := by kernel_rfl

theorem r18_2 (E : List (Int × Int)) (c nl : Bool) (l : List Int) (c2 nl2 : Bool) (sz : Int) (out : List DV) (t : Int) (row : List DV) (i : Int) : startS aeC evC 18 0 Try.f18 (some 2) (t18 E c nl l c2 nl2 sz out t row i) (roundD aeC 18 0 2) =
  bif decide (i < (↑(List.length E) : Int)) then
    bif inRange i (List.length E) then
      getI (nth (edD E) (Int.toNat i * 2 + 0)) fun x0 =>
      bif inRange x0 (List.length l) then
        getI (nth (ints l) (Int.toNat x0 * 1)) fun x1 =>
        bif decide (sz = 0) then
          none
        else
          bif inRange i (List.length E) then
            getI (nth (edD E) (Int.toNat i * 2 + 1)) fun x2 =>
            bif inRange x2 (List.length l) then
              getI (nth (ints l) (Int.toNat x2 * 1)) fun x3 =>
              bif decide (sz = 0) then
                none
              else
                bif Nat.ble (lenOf 2 (List.length row) + 1) 1048576 then
                  some (Ex.norm, ⟨[(0, .d (DV.sl (edD E) (List.length E) 2 c nl)), (1, .d (DV.sl (ints l) (List.length l) 1 c2 nl2)), (5, .d (iD sz)), (6, AV.grow 0 1 false), (7, .d (iD t)), (8, AV.grow 1 2 false), (9, .d (iD (IntKind.wrap IntKind.i64 (i + 1))))], [.dc out, .dc (row ++ [iD (if Int.tmod (IntKind.wrap IntKind.i64 (x3 + t)) sz < Int.tmod (IntKind.wrap IntKind.i64 (x1 + t)) sz then Int.tmod (IntKind.wrap IntKind.i64 (x3 + t)) sz else Int.tmod (IntKind.wrap IntKind.i64 (x1 + t)) sz), iD (if Int.tmod (IntKind.wrap IntKind.i64 (x3 + t)) sz > Int.tmod (IntKind.wrap IntKind.i64 (x1 + t)) sz then Int.tmod (IntKind.wrap IntKind.i64 (x3 + t)) sz else Int.tmod (IntKind.wrap IntKind.i64 (x1 + t)) sz)])], []⟩)
                else
                  none
            else
              none
          else
            none
      else
        none
    else
      none
  else
    some (Ex.exit 2, ⟨[(0, .d (DV.sl (edD E) (List.length E) 2 c nl)), (1, .d (DV.sl (ints l) (List.length l) 1 c2 nl2)), (5, .d (iD sz)), (6, AV.grow 0 1 false), (7, .d (iD t)), (8, .d (DV.sl row (lenOf 2 (List.length row)) 2 false (true && Nat.beq (List.length row) 0)))], [.dc out], []⟩) := by kernel_rfl

theorem r18_n (E : List (Int × Int)) (c nl : Bool) (l : List Int) (c2 nl2 : Bool) (sz : Int) (out : List DV) (t : Int) (row : List DV) : nextS aeC evC 18 0 Try.f18 (some 0) 2 (.exit 2) (x18 E c nl l c2 nl2 sz out t row) (roundD aeC 18 0 0) =
  bif Nat.ble (lenOf 1 (List.length out) + 1) 1048576 then
    some (Ex.norm, ⟨[(0, .d (DV.sl (edD E) (List.length E) 2 c nl)), (1, .d (DV.sl (ints l) (List.length l) 1 c2 nl2)), (5, .d (iD sz)), (6, AV.grow 0 1 false), (7, .d (iD (IntKind.wrap IntKind.i64 (t + 1))))], [.dc (out ++ [DV.sl row (lenOf 2 (List.length row)) 2 false (true && Nat.beq (List.length row) 0)])], []⟩)
  else
    none := by kernel_rfl

theorem r15h (n : Int) (E : List (Int × Int)) (c : Bool) (l : List Int) (c2 nl2 : Bool) : startS aeC evC 15 0 Try.f15 none ⟨envOf 0 ([iD n, edgX E c false, lstX l c2 nl2].map .d), [], []⟩ (heldD aeC 15 0) =
  bif isE (edD E) (List.length E) then
    bif decide (openS n (unE (edD E)) = 0) then
      bif decide (openS n (unE (edD E)) = 0) && (isE (edD E) (List.length E) && (isI (ints l) && Nat.beq (List.length (ints l)) (List.length l))) then
        bif !gracB n (unE (edD E)) (unI (ints l)) then
          none
        else
          some (0, ⟨[(1, .d (DV.sl (edD E) (List.length E) 2 c false)), (2, .d (DV.sl (ints l) (List.length l) 1 c2 nl2)), (10, .d (iD (IntKind.wrap IntKind.i64 (IntKind.wrap IntKind.i64 (2 * (↑(List.length E) : Int)) + 1)))), (11, AV.grow 0 1 false), (35, .d (iD (IntKind.wrap IntKind.i64 (IntKind.wrap IntKind.i64 (2 * (↑(List.length E) : Int)) + 1)))), (36, .d (iD 0))], [.dc []], []⟩)
      else
        none
    else
      bif !decide (openS n (unE (edD E)) = 0) then
        none
      else
        none
  else
    none := by kernel_rfl

theorem r15d (n : Int) (E : List (Int × Int)) (c : Bool) (l : List Int) (c2 nl2 : Bool) : startS aeC evC 15 0 Try.f15 none ⟨envOf 0 ([iD n, edgX E c false, lstX l c2 nl2].map .d), [], []⟩ (doneE aeC Try.f15 0 fun v h => freezeV h 4 v) =
  bif isE (edD E) (List.length E) then
    bif decide (openS n (unE (edD E)) = 0) then
      bif decide (openS n (unE (edD E)) = 0) && (isE (edD E) (List.length E) && (isI (ints l) && Nat.beq (List.length (ints l)) (List.length l))) then
        bif !gracB n (unE (edD E)) (unI (ints l)) then
          some (DV.tup [DV.sl [] 0 0 false true, iD 1])
        else
          none
      else
        none
    else
      bif !decide (openS n (unE (edD E)) = 0) then
        some (DV.tup [DV.sl [] 0 0 false true, iD (openS n (unE (edD E)))])
      else
        none
  else
    none := by kernel_rfl

theorem r18h (E : List (Int × Int)) (c nl : Bool) (l : List Int) (c2 nl2 : Bool) : startS aeC evC 18 0 Try.f18 none ⟨envOf 0 ([edgX E c nl, lstX l c2 nl2].map .d), [], []⟩ (heldD aeC 18 0) =
  some (0, ⟨[(0, .d (DV.sl (edD E) (List.length E) 2 c nl)), (1, .d (DV.sl (ints l) (List.length l) 1 c2 nl2)), (5, .d (iD (IntKind.wrap IntKind.i64 (IntKind.wrap IntKind.i64 (2 * (↑(List.length E) : Int)) + 1)))), (6, AV.grow 0 1 false), (7, .d (iD 0))], [.dc []], []⟩) := by kernel_rfl

theorem r15_0 (E : List (Int × Int)) (c nl : Bool) (l : List Int) (c2 nl2 : Bool) (sz : Int) (out : List DV) (t : Int) : startS aeC evC 15 0 Try.f15 (some 0) (s15 E c nl l c2 nl2 sz out t) (heldD aeC 15 0) =
  bif decide (t < sz) then
    some (2, ⟨[(1, .d (DV.sl (edD E) (List.length E) 2 c nl)), (2, .d (DV.sl (ints l) (List.length l) 1 c2 nl2)), (10, .d (iD sz)), (11, AV.grow 0 1 false), (12, .d (iD t)), (13, AV.grow 1 2 false), (35, .d (iD sz)), (36, .d (iD t)), (39, .d (DV.sl (edD E) (List.length E) 2 c nl)), (40, .d (iD (↑(List.length E) : Int))), (41, .d (iD 0))], [.dc out, .dc []], []⟩)
  else
    none := by kernel_rfl

theorem r15_0x (E : List (Int × Int)) (c nl : Bool) (l : List Int) (c2 nl2 : Bool) (sz : Int) (out : List DV) (t : Int) : startS aeC evC 15 0 Try.f15 (some 0) (s15 E c nl l c2 nl2 sz out t) (roundD aeC 15 0 0) =
  bif decide (t < sz) then
    none
  else
    some (Ex.exit 0, ⟨[(11, AV.grow 0 1 false)], [.dc out], []⟩) := by kernel_rfl

theorem r18_0 (E : List (Int × Int)) (c nl : Bool) (l : List Int) (c2 nl2 : Bool) (sz : Int) (out : List DV) (t : Int) : startS aeC evC 18 0 Try.f18 (some 0) (s18 E c nl l c2 nl2 sz out t) (heldD aeC 18 0) =
  bif decide (t < sz) then
    some (2, ⟨[(0, .d (DV.sl (edD E) (List.length E) 2 c nl)), (1, .d (DV.sl (ints l) (List.length l) 1 c2 nl2)), (5, .d (iD sz)), (6, AV.grow 0 1 false), (7, .d (iD t)), (8, AV.grow 1 2 false), (9, .d (iD 0))], [.dc out, .dc []], []⟩)
  else
    none := by kernel_rfl

theorem r18_0x (E : List (Int × Int)) (c nl : Bool) (l : List Int) (c2 nl2 : Bool) (sz : Int) (out : List DV) (t : Int) : startS aeC evC 18 0 Try.f18 (some 0) (s18 E c nl l c2 nl2 sz out t) (roundD aeC 18 0 0) =
  bif decide (t < sz) then
    none
  else
    some (Ex.exit 0, ⟨[(6, AV.grow 0 1 false)], [.dc out], []⟩) := by kernel_rfl

theorem r15_x (out : List DV) : nextS aeC evC 15 0 Try.f15 none 0 (.exit 0) ⟨[(11, AV.grow 0 1 false)], [.dc out], []⟩ (doneE aeC Try.f15 0 fun v h => freezeV h 4 v) =
  some (DV.tup [DV.sl out (lenOf 1 (List.length out)) 1 false (true && Nat.beq (List.length out) 0), iD 0]) := by kernel_rfl

theorem r18_x (out : List DV) : nextS aeC evC 18 0 Try.f18 none 0 (.exit 0) ⟨[(6, AV.grow 0 1 false)], [.dc out], []⟩ (doneE aeC Try.f18 0 fun v h => freezeV h 4 v) =
  some (DV.sl out (lenOf 1 (List.length out)) 1 false (true && Nat.beq (List.length out) 0)) := by kernel_rfl

theorem r17_0 (R : List DV) (n : Nat) (i : Int) : startS aeC Ev.nil 17 0 Try.f17 (some 0) (s17 R n i) (heldD aeC 17 0) =
  bif decide (i < (↑n : Int)) then
    bif inRange i n then
      getS (nth R (Int.toNat i * 1)) fun cs0 n0 sz0 c0 nl0 =>
      bif nl0 || Nat.beq sz0 2 then
        bif inRange i n then
          getS (nth R (Int.toNat i * 1)) fun cs1 n1 sz1 c1 nl1 =>
          bif nl1 || Nat.beq sz1 2 then
            bif !decide ((↑n0 : Int) = (↑n1 : Int)) then
              none
            else
              some (2, ⟨[(0, .d (DV.sl R n 1 false false)), (1, .d (DV.sl R n 1 false false)), (5, .d (iD i)), (6, .d (iD 0))], [], []⟩)
          else
            none
        else
          none
      else
        none
    else
      none
  else
    none := by kernel_rfl

theorem r17_0x (R : List DV) (n : Nat) (i : Int) : startS aeC Ev.nil 17 0 Try.f17 (some 0) (s17 R n i) (roundD aeC 17 0 0) =
  bif decide (i < (↑n : Int)) then
    bif inRange i n then
      getS (nth R (Int.toNat i * 1)) fun cs0 n0 sz0 c0 nl0 =>
      bif nl0 || Nat.beq sz0 2 then
        bif inRange i n then
          getS (nth R (Int.toNat i * 1)) fun cs1 n1 sz1 c1 nl1 =>
          bif nl1 || Nat.beq sz1 2 then
            bif !decide ((↑n0 : Int) = (↑n1 : Int)) then
              some (Ex.ret, ⟨[(4, .d (bD false))], [], []⟩)
            else
              none
          else
            none
        else
          none
      else
        none
    else
      none
  else
    some (Ex.exit 0, ⟨[], [], []⟩) := by kernel_rfl

theorem r17_2 (R : List DV) (n : Nat) (i k : Int) : startS aeC Ev.nil 17 0 Try.f17 (some 2) (t17 R n i k) (roundD aeC 17 0 2) =
  bif inRange i n then
    getS (nth R (Int.toNat i * 1)) fun cs0 n0 sz0 c0 nl0 =>
    bif nl0 || Nat.beq sz0 2 then
      bif decide (k < (↑n0 : Int)) then
        bif inRange i n then
          getS (nth R (Int.toNat i * 1)) fun cs1 n1 sz1 c1 nl1 =>
          bif nl1 || Nat.beq sz1 2 then
            bif inRange k n1 then
              getI (nth cs1 (Int.toNat k * 2)) fun x2 =>
              getI (nth cs1 (Int.toNat k * 2 + 1)) fun x3 =>
              bif inRange i n then
                getS (nth R (Int.toNat i * 1)) fun cs4 n4 sz4 c4 nl4 =>
                bif nl4 || Nat.beq sz4 2 then
                  bif inRange k n4 then
                    getI (nth cs4 (Int.toNat k * 2)) fun x5 =>
                    getI (nth cs4 (Int.toNat k * 2 + 1)) fun x6 =>
                    bif !(decide (x2 = x5) && (decide (x3 = x6) && true)) then
                      some (Ex.ret, ⟨[(4, .d (bD false))], [], []⟩)
                    else
                      some (Ex.norm, ⟨[(0, .d (DV.sl R n 1 false false)), (1, .d (DV.sl R n 1 false false)), (5, .d (iD i)), (6, .d (iD (IntKind.wrap IntKind.i64 (k + 1))))], [], []⟩)
                  else
                    none
                else
                  none
              else
                none
            else
              none
          else
            none
        else
          none
      else
        some (Ex.exit 2, ⟨[(0, .d (DV.sl R n 1 false false)), (1, .d (DV.sl R n 1 false false)), (5, .d (iD i))], [], []⟩)
    else
      none
  else
    none := by kernel_rfl

theorem r17_2n (R : List DV) (n : Nat) (i : Int) : nextS aeC Ev.nil 17 0 Try.f17 (some 0) 2 (.exit 2) (s17 R n i) (roundD aeC 17 0 0) =
  some (Ex.norm, ⟨[(0, .d (DV.sl R n 1 false false)), (1, .d (DV.sl R n 1 false false)), (5, .d (iD (IntKind.wrap IntKind.i64 (i + 1))))], [], []⟩) := by kernel_rfl

theorem r17_x  : nextS aeC Ev.nil 17 0 Try.f17 none 0 (.exit 0) ⟨[], [], []⟩ (doneE aeC Try.f17 0 fun v h => freezeV h 4 v) =
  some (bD true) := by kernel_rfl

theorem r17h (R : List DV) (n : Nat) : startS aeC Ev.nil 17 0 Try.f17 none ⟨envOf 0 ([DV.sl R n 1 false false, DV.sl R n 1 false false].map .d), [], []⟩ (heldD aeC 17 0) =
  bif !decide ((↑n : Int) = (↑n : Int)) then
    none
  else
    some (0, ⟨[(0, .d (DV.sl R n 1 false false)), (1, .d (DV.sl R n 1 false false)), (5, .d (iD 0))], [], []⟩) := by kernel_rfl

/-- A row of pairs as it is handed on. -/
def rowDV (r : List (Int × Int)) : DV := .sl (edD r) r.length 2 false (Nat.beq r.length 0)
theorem rowDV_eq (r : List (Int × Int)) : DV.sl (edD r) (lenOf 2 (edD r).length) 2 false (true && Nat.beq (edD r).length 0) = rowDV r := by
  rw [lenOf_ed, Bool.true_and, len_prs]
  unfold rowDV
  congr 1
  cases r with
  | nil => rfl
  | cons e r => simp only [List.length_cons, Nat.succ_mul]; rfl
/-- An edge of a copy. -/
def cpE (l : List Int) (sz t : Int) (e : Int × Int) : Int × Int := (min (Int.tmod (labAt l e.1 + t) sz) (Int.tmod (labAt l e.2 + t) sz), max (Int.tmod (labAt l e.1 + t) sz) (Int.tmod (labAt l e.2 + t) sz))
/-- The copies from a shift on. -/
def cpFrom (E : List (Int × Int)) (l : List Int) (sz : Int) : Nat → Int → List (List (Int × Int))
  | 0, _ => []
  | k + 1, t => E.map (cpE l sz t) :: cpFrom E l sz k (t + 1)

theorem edD_app : ∀ (a b : List (Int × Int)), edD (a ++ b) = edD a ++ edD b
  | [], b => rfl
  | e :: r, b => by show iD e.1 :: iD e.2 :: edD (r ++ b) = _; rw [edD_app r b]; rfl

theorem l15_2 (E : List (Int × Int)) (c nl : Bool) (l : List Int) (c2 nl2 : Bool) (sz : Int) (out : List DV) (t : Int) (hE : EdOK l.length E) (hl : LabOK 10 l) (hlen : E.length ≤ 10) (hs : 1 ≤ sz ∧ sz ≤ 21) (ht : 0 ≤ t ∧ t < sz) (hln : l.length ≤ 100) : ∀ (r : List (Int × Int)) (i : Nat) (row : List (Int × Int)), row.length = i → i ≤ E.length → E.drop i = r →
      LoopAt aeC evC 15 0 Try.f15 2 (t15 E c nl l c2 nl2 sz out t (edD row) i) (.exit 2) (x15 E c nl l c2 nl2 sz out t (edD (row ++ r.map (cpE l sz t))))
  | [], i, row, hrow, hi, hr => by
    have h1 := drop_nil_o hr
    refine .out k15_2 (by simp) ((r15_2 ..).trans ?_)
    rw [cnd_neg (by omega), List.map_nil, List.append_nil]; rfl
  | d :: r, i, row, hrow, hi, hr => by
    obtain ⟨h1, h2, h3⟩ := drop_cons_o (d := (0, 0)) hr
    have hd := hE.get h1
    have ha := hl.at hd.1 (by omega)
    have hb := hl.at (show 0 ≤ (E.getD i (0, 0)).2 by omega) hd.2.2
    rw [h2] at hd ha hb
    have res := r15_2 E c nl l c2 nl2 sz out t (edD row) i
    rw [lenOf_ed] at res
    revert res
    simp (disch := omega) only [cnd_pos, cnd_neg, inR_pos, ble_pos, blt_pos, beq_pos, cond_and, cond_or, Bool.cond_not, cond_true, cond_false, Bool.and_true, Bool.true_and, getI_some, getB_some, nth_ints_o, nth_bools_o, wrap64_o, len_ints, len_bools, lenOf_1, Int.toNat_natCast, Nat.mul_one, Nat.zero_add, setNth_bools_o, setNth_ints_o, len_set_i, len_set_b, Option.bind_some, List.length_append, List.length_cons, List.length_nil, unI_ints, unB_bools, ints_app1, bools_app1, nth_pr1, nth_pr2, len_prs, abs_if, Nat.add_zero, cond_same, h2, show l.getD d.1.toNat 0 = labAt l d.1 from rfl, show l.getD d.2.toNat 0 = labAt l d.2 from rfl, min_if_o, max_if_o]
    intro res
    have := l15_2 E c nl l c2 nl2 sz out t hE hl hlen hs ht hln r (i + 1) (row ++ [cpE l sz t d]) (by simp [hrow]) h1 h3
    rw [edD_app, List.append_assoc, List.singleton_append] at this
    exact .next k15_2 res this

theorem l18_2 (E : List (Int × Int)) (c nl : Bool) (l : List Int) (c2 nl2 : Bool) (sz : Int) (out : List DV) (t : Int) (hE : EdOK l.length E) (hl : LabOK 10 l) (hlen : E.length ≤ 10) (hs : 1 ≤ sz ∧ sz ≤ 21) (ht : 0 ≤ t ∧ t < sz) (hln : l.length ≤ 100) : ∀ (r : List (Int × Int)) (i : Nat) (row : List (Int × Int)), row.length = i → i ≤ E.length → E.drop i = r →
      LoopAt aeC evC 18 0 Try.f18 2 (t18 E c nl l c2 nl2 sz out t (edD row) i) (.exit 2) (x18 E c nl l c2 nl2 sz out t (edD (row ++ r.map (cpE l sz t))))
  | [], i, row, hrow, hi, hr => by
    have h1 := drop_nil_o hr
    refine .out k18_2 (by simp) ((r18_2 ..).trans ?_)
    rw [cnd_neg (by omega), List.map_nil, List.append_nil]; rfl
  | d :: r, i, row, hrow, hi, hr => by
    obtain ⟨h1, h2, h3⟩ := drop_cons_o (d := (0, 0)) hr
    have hd := hE.get h1
    have ha := hl.at hd.1 (by omega)
    have hb := hl.at (show 0 ≤ (E.getD i (0, 0)).2 by omega) hd.2.2
    rw [h2] at hd ha hb
    have res := r18_2 E c nl l c2 nl2 sz out t (edD row) i
    rw [lenOf_ed] at res
    revert res
    simp (disch := omega) only [cnd_pos, cnd_neg, inR_pos, ble_pos, blt_pos, beq_pos, cond_and, cond_or, Bool.cond_not, cond_true, cond_false, Bool.and_true, Bool.true_and, getI_some, getB_some, nth_ints_o, nth_bools_o, wrap64_o, len_ints, len_bools, lenOf_1, Int.toNat_natCast, Nat.mul_one, Nat.zero_add, setNth_bools_o, setNth_ints_o, len_set_i, len_set_b, Option.bind_some, List.length_append, List.length_cons, List.length_nil, unI_ints, unB_bools, ints_app1, bools_app1, nth_pr1, nth_pr2, len_prs, abs_if, Nat.add_zero, cond_same, h2, show l.getD d.1.toNat 0 = labAt l d.1 from rfl, show l.getD d.2.toNat 0 = labAt l d.2 from rfl, min_if_o, max_if_o]
    intro res
    have := l18_2 E c nl l c2 nl2 sz out t hE hl hlen hs ht hln r (i + 1) (row ++ [cpE l sz t d]) (by simp [hrow]) h1 h3
    rw [edD_app, List.append_assoc, List.singleton_append] at this
    exact .next k18_2 res this

theorem l15_0 (E : List (Int × Int)) (c nl : Bool) (l : List Int) (c2 nl2 : Bool) (sz : Int) (hE : EdOK l.length E) (hl : LabOK 10 l) (hlen : E.length ≤ 10) (hs : 1 ≤ sz ∧ sz ≤ 21) (hln : l.length ≤ 100) : ∀ (k : Nat) (t : Int) (out : List DV), t + k = sz → 0 ≤ t → (out.length : Int) = t →
      LoopAt aeC evC 15 0 Try.f15 0 (s15 E c nl l c2 nl2 sz out t) (.exit 0) ⟨[(11, AV.grow 0 1 false)], [.dc (out ++ (cpFrom E l sz k t).map rowDV)], []⟩
  | 0, t, out, hk, h0, ho => by
    refine .out k15_0 (by simp) ((r15_0x ..).trans ?_)
    rw [cnd_neg (by omega)]
    simp [cpFrom]
  | k + 1, t, out, hk, h0, ho => by
    have hh := r15_0 E c nl l c2 nl2 sz out t
    rw [cnd_pos (by omega)] at hh
    have inner := l15_2 E c nl l c2 nl2 sz out t hE hl hlen hs ⟨h0, by omega⟩ hln E 0 [] rfl (by omega) rfl
    have hn := r15_n E c nl l c2 nl2 sz out t (edD ([] ++ E.map (cpE l sz t)))
    rw [ble_pos (by show out.length + 1 ≤ 1048576; omega), wrap64 (by omega) (by omega), rowDV_eq, List.nil_append] at hn
    rw [List.nil_append] at inner
    refine .nextF k15_0 ((startF_seg k15_0 hh inner).trans (nextF_done k15_0 roundD_plain hn)) ?_
    have ih := l15_0 E c nl l c2 nl2 sz hE hl hlen hs hln k (t + 1) (out ++ [rowDV (E.map (cpE l sz t))]) (by omega) (by omega) (by simp; omega)
    rw [List.append_assoc, List.singleton_append] at ih
    exact ih

theorem l18_0 (E : List (Int × Int)) (c nl : Bool) (l : List Int) (c2 nl2 : Bool) (sz : Int) (hE : EdOK l.length E) (hl : LabOK 10 l) (hlen : E.length ≤ 10) (hs : 1 ≤ sz ∧ sz ≤ 21) (hln : l.length ≤ 100) : ∀ (k : Nat) (t : Int) (out : List DV), t + k = sz → 0 ≤ t → (out.length : Int) = t →
      LoopAt aeC evC 18 0 Try.f18 0 (s18 E c nl l c2 nl2 sz out t) (.exit 0) ⟨[(6, AV.grow 0 1 false)], [.dc (out ++ (cpFrom E l sz k t).map rowDV)], []⟩
  | 0, t, out, hk, h0, ho => by
    refine .out k18_0 (by simp) ((r18_0x ..).trans ?_)
    rw [cnd_neg (by omega)]
    simp [cpFrom]
  | k + 1, t, out, hk, h0, ho => by
    have hh := r18_0 E c nl l c2 nl2 sz out t
    rw [cnd_pos (by omega)] at hh
    have inner := l18_2 E c nl l c2 nl2 sz out t hE hl hlen hs ⟨h0, by omega⟩ hln E 0 [] rfl (by omega) rfl
    have hn := r18_n E c nl l c2 nl2 sz out t (edD ([] ++ E.map (cpE l sz t)))
    rw [ble_pos (by show out.length + 1 ≤ 1048576; omega), wrap64 (by omega) (by omega), rowDV_eq, List.nil_append] at hn
    rw [List.nil_append] at inner
    refine .nextF k18_0 ((startF_seg k18_0 hh inner).trans (nextF_done k18_0 roundD_plain hn)) ?_
    have ih := l18_0 E c nl l c2 nl2 sz hE hl hlen hs hln k (t + 1) (out ++ [rowDV (E.map (cpE l sz t))]) (by omega) (by omega) (by simp; omega)
    rw [List.append_assoc, List.singleton_append] at ih
    exact ih

/-- All copies. -/
def cpAll (E : List (Int × Int)) (l : List Int) : List (List (Int × Int)) := cpFrom E l (2 * E.length + 1) (2 * E.length + 1) 0
def rowsDV (R : List (List (Int × Int))) : DV := .sl (R.map rowDV) R.length 1 false false
theorem cpFrom_len (E : List (Int × Int)) (l : List Int) (sz : Int) : ∀ (k : Nat) (t : Int), (cpFrom E l sz k t).length = k
  | 0, _ => rfl
  | k + 1, t => by simp [cpFrom, cpFrom_len E l sz k]

theorem rows_eq (E : List (Int × Int)) (l : List Int) (h : 1 ≤ E.length) : (DV.sl ([] ++ (cpAll E l).map rowDV) (lenOf 1 ([] ++ (cpAll E l).map rowDV).length) 1 false (true && Nat.beq ([] ++ (cpAll E l).map rowDV).length 0)) = rowsDV (cpAll E l) := by
  rw [List.nil_append, Go.AE.lenOf_1, List.length_map]
  have : (cpAll E l).length = 2 * E.length + 1 := cpFrom_len ..
  have hb : Nat.beq (cpAll E l).length 0 = false := by
    cases h : Nat.beq (cpAll E l).length 0 with
    | false => rfl
    | true => have := Nat.eq_of_beq_eq_true h; omega
  rw [hb]; rfl

theorem rcopies_ok (E : List (Int × Int)) (c nl : Bool) (l : List Int) (c2 nl2 : Bool) (hE : EdOK l.length E) (hl : LabOK 10 l) (h1 : 1 ≤ E.length) (hlen : E.length ≤ 10) (hln : l.length ≤ 100) : PureOK Try.prog 18 [edgX E c nl, lstX l c2 nl2] (rowsDV (cpAll E l)) := by
  have hEv : EvOK Try.prog evC := EvOK.add (EvOK.add EvOK.nil sp47x_ok) sp48_ok
  refine ae_pure hEv (fn := Try.f18) k18 (by kernel_rfl) (by kernel_rfl) ?_
  have hh := r18h E c nl l c2 nl2
  rw [wrap64 (by rw [wrap64 (by omega) (by omega)]; omega) (by rw [wrap64 (by omega) (by omega)]; omega), wrap64 (by omega) (by omega)] at hh
  have loop := l18_0 E c nl l c2 nl2 (2 * (E.length : Int) + 1) hE hl hlen (by omega) hln (2 * E.length + 1) 0 [] (by omega) (by omega) rfl
  have := startF_one k18 done_plain hh loop (r18_x ..)
  rw [this, ← rows_eq E l h1]
  rfl

/-- What the program's copies are. -/
noncomputable def cpD (n : Int) (E : List (Int × Int)) (l : List Int) : DV := bif gracB n E l then .tup [rowsDV (cpAll E l), iD 0] else .tup [nilS1, iD 1]

theorem copies_ok (n : Int) (E : List (Int × Int)) (c : Bool) (l : List Int) (c2 nl2 : Bool) (hn : openS n E = 0) : PureOK Try.prog 15 [iD n, edgX E c false, lstX l c2 nl2] (cpD n E l) := by
  have hEv : EvOK Try.prog evC := EvOK.add (EvOK.add EvOK.nil sp47x_ok) sp48_ok
  obtain ⟨hg, h2, h7⟩ := open_graph hn
  have h1 : 1 ≤ E.length := hg.2.2.1
  have h10 : E.length ≤ 10 := hg.2.2.2.1
  refine ae_pure hEv (fn := Try.f15) k15 (by kernel_rfl) (by kernel_rfl) ?_
  have hd := r15d n E c l c2 nl2
  have hh := r15h n E c l c2 nl2
  have e3 : (decide (openS n E = 0) && (isE (edD E) E.length && (isI (ints l) && Nat.beq (ints l).length l.length))) = true := by rw [hn, isE_ed, isI_ints, len_ints, Nat.beq_refl]; rfl
  rw [unE_ed, e3, isE_ed, decide_eq_true hn, unI_ints] at hd hh
  unfold cpD
  cases hgr : gracB n E l with
  | false =>
    rw [hgr] at hd
    exact startF_done k15 done_plain hd
  | true =>
    rw [hgr] at hh
    simp only [cond_true, Bool.not_true, cond_false] at hh
    rw [wrap64 (by rw [wrap64 (by omega) (by omega)]; omega) (by rw [wrap64 (by omega) (by omega)]; omega), wrap64 (by omega) (by omega)] at hh
    have hll := grac_len hgr
    have hnew : newS E.length [] l = true := by
      simp only [gracB, Bool.and_eq_true] at hgr
      exact hgr.2.1
    have hE : EdOK l.length E := by
      have : l.length = n.toNat := by omega
      rw [this]; exact hg.2.2.2.2
    have loop := l15_0 E c false l c2 nl2 (2 * (E.length : Int) + 1) hE ((newS_lab hnew).mono (by omega)) h10 (by omega) (by omega) (2 * E.length + 1) 0 [] (by omega) (by omega) rfl
    have := startF_one k15 done_plain hh loop (r15_x ..)
    rw [this, cond_true, ← rows_eq E l h1]
    rfl

/-! ### 'rows' -/
theorem nth_rows {R : List (List (Int × Int))} {i : Nat} (h : i < R.length) : nth (R.map rowDV) i = some (rowDV (R.getD i [])) := by
  rw [nth_map, nth_eq]; simp [h]

theorem l17_2 (R : List (List (Int × Int))) (hR : R.length ≤ 1000) (hr : ∀ r ∈ R, r.length ≤ 1000) (i : Nat) (hi : i < R.length) : ∀ (m k : Nat), k + m = (R.getD i []).length →
      LoopAt aeC Ev.nil 17 0 Try.f17 2 (t17 (R.map rowDV) R.length i k) (.exit 2) (s17 (R.map rowDV) R.length i)
  | 0, k, hk => by
    refine .out k17_2 (by simp) ((r17_2 ..).trans ?_)
    have hn := nth_rows hi
    simp (disch := omega) only [cnd_pos, cnd_neg, inR_pos, ble_pos, blt_pos, beq_pos, cond_and, cond_or, Bool.cond_not, cond_true, cond_false, Bool.and_true, Bool.true_and, getI_some, getB_some, nth_ints_o, nth_bools_o, wrap64_o, len_ints, len_bools, lenOf_1, Int.toNat_natCast, Nat.mul_one, Nat.zero_add, setNth_bools_o, setNth_ints_o, len_set_i, len_set_b, Option.bind_some, List.length_append, List.length_cons, List.length_nil, unI_ints, unB_bools, ints_app1, bools_app1, nth_pr1, nth_pr2, len_prs, abs_if, Nat.add_zero, cond_same, hn, rowDV, getS_some, show Nat.beq 2 2 = true from rfl, Bool.or_true]
    rfl
  | m + 1, k, hk => by
    have hn := nth_rows hi
    have hlen := hr (R.getD i []) (by rw [List.getD_eq_getElem?_getD, List.getElem?_eq_getElem hi]; exact List.getElem_mem hi)
    have res := r17_2 (R.map rowDV) R.length i k
    revert res
    simp (disch := omega) only [cnd_pos, cnd_neg, inR_pos, ble_pos, blt_pos, beq_pos, cond_and, cond_or, Bool.cond_not, cond_true, cond_false, Bool.and_true, Bool.true_and, getI_some, getB_some, nth_ints_o, nth_bools_o, wrap64_o, len_ints, len_bools, lenOf_1, Int.toNat_natCast, Nat.mul_one, Nat.zero_add, setNth_bools_o, setNth_ints_o, len_set_i, len_set_b, Option.bind_some, List.length_append, List.length_cons, List.length_nil, unI_ints, unB_bools, ints_app1, bools_app1, nth_pr1, nth_pr2, len_prs, abs_if, Nat.add_zero, cond_same, hn, rowDV, getS_some, show Nat.beq 2 2 = true from rfl, Bool.or_true, decide_true, Bool.and_self, Bool.not_true]
    intro res
    exact .next k17_2 res (l17_2 R hR hr i hi m (k + 1) (by omega))

theorem l17_0 (R : List (List (Int × Int))) (hR : R.length ≤ 1000) (hr : ∀ r ∈ R, r.length ≤ 1000) : ∀ (k i : Nat), i + k = R.length → LoopAt aeC Ev.nil 17 0 Try.f17 0 (s17 (R.map rowDV) R.length i) (.exit 0) ⟨[], [], []⟩
  | 0, i, hk => by
    refine .out k17_0 (by simp) ((r17_0x ..).trans ?_)
    rw [cnd_neg (by omega)]
  | k + 1, i, hk => by
    have hn := nth_rows (show i < R.length by omega)
    have hh := r17_0 (R.map rowDV) R.length i
    revert hh
    simp (disch := omega) only [cnd_pos, cnd_neg, inR_pos, ble_pos, blt_pos, beq_pos, cond_and, cond_or, Bool.cond_not, cond_true, cond_false, Bool.and_true, Bool.true_and, getI_some, getB_some, nth_ints_o, nth_bools_o, wrap64_o, len_ints, len_bools, lenOf_1, Int.toNat_natCast, Nat.mul_one, Nat.zero_add, setNth_bools_o, setNth_ints_o, len_set_i, len_set_b, Option.bind_some, List.length_append, List.length_cons, List.length_nil, unI_ints, unB_bools, ints_app1, bools_app1, nth_pr1, nth_pr2, len_prs, abs_if, Nat.add_zero, cond_same, hn, rowDV, getS_some, show Nat.beq 2 2 = true from rfl, Bool.or_true, decide_true, Bool.not_true]
    intro hh
    refine .nextF k17_0 ((startF_seg k17_0 hh (l17_2 R hR hr i (by omega) (R.getD i []).length 0 (by omega))).trans (nextF_done k17_0 roundD_plain (r17_2n ..))) ?_
    rw [wrap64 (by omega) (by omega)]
    exact l17_0 R hR hr k (i + 1) (by omega)

theorem rows_same (R : List (List (Int × Int))) (hR : R.length ≤ 1000) (hr : ∀ r ∈ R, r.length ≤ 1000) : PureOK Try.prog 17 [rowsDV R, rowsDV R] (bD true) := by
  refine ae_pure EvOK.nil (fn := Try.f17) k17 (by kernel_rfl) (by kernel_rfl) ?_
  have hh := r17h (R.map rowDV) R.length
  rw [decide_eq_true rfl] at hh
  exact startF_one k17 done_plain hh (l17_0 R hR hr R.length 0 (by omega)) r17_x
end Go.Proofs.Ytkcdbndpcabelaa

/- Chapter 02: the law on copies, on data. -/
namespace Go.Proofs.Ytkcdbndpcabelaa
open Go Go.AE

theorem k3 : OkSeg Try.f3 none [0] := ⟨by kernel_rfl, by kernel_rfl, by decide⟩
theorem k3_0 : OkSeg Try.f3 (some 0) [] := ⟨by kernel_rfl, by kernel_rfl, by decide⟩
/-- Tables of what is told of lists. -/
structure Tabs where
  G : Int → List DV → List DV → Bool
  RD : List DV → List DV → List DV
  RL : List DV → List DV → Nat
noncomputable def sp15 (T : Tabs) : List DV → Tr DV
  | [.int .i64 n, .sl es m 2 _ false, .sl cs k 1 _ _] => .node (isP (openS n (unE es) = 0 ∧ isE es m = true ∧ isI cs = true ∧ cs.length = k)) (.node (T.G n es cs)
      (.leaf (.tup [.sl (T.RD es cs) (T.RL es cs) 1 false false, iD 0])) (.leaf (.tup [nilS1, iD 1]))) .fail
  | _ => .fail
noncomputable def okG18 (es : List DV) (m : Nat) (cs : List DV) (k : Nat) : Bool := isP (isE es m = true ∧ isI cs = true ∧ cs.length = k ∧ EdOK k (unE es) ∧ LabOK 10 (unI cs) ∧ 1 ≤ m ∧ m ≤ 10 ∧ k ≤ 100)
noncomputable def sp18 (T : Tabs) : List DV → Tr DV
  | [.sl es m 2 _ _, .sl cs k 1 _ _] => .node (okG18 es m cs k) (.leaf (.sl (T.RD es cs) (T.RL es cs) 1 false false)) .fail
  | _ => .fail
noncomputable def okG17 (a : List DV) (n : Nat) (b : List DV) (m : Nat) : Bool := isP (∃ R : List (List (Int × Int)), a = R.map rowDV ∧ n = R.length ∧ b = a ∧ m = n ∧ R.length ≤ 1000 ∧ ∀ r ∈ R, r.length ≤ 1000)
noncomputable def sp17 : List DV → Tr DV
  | [.sl a n 1 _ false, .sl b m 1 _ false] => .node (okG17 a n b m) (.leaf (bD true)) .fail
  | _ => .fail
noncomputable def sp16t (T : Tabs) : List DV → Tr DV
  | [.int .i64 n, .sl es m 2 _ _, .sl cs k 1 _ _] => .node (okG16 n es m cs k) (.leaf (bD (T.G n es cs))) .fail
  | _ => .fail
/-- The first labels, as a table: whether there are any, the list and its length. -/
structure TabF where
  is : Int → List DV → Bool → Bool
  cs : Int → List DV → Bool → List DV
  len : Int → List DV → Bool → Nat
noncomputable def sp19t (T : TabF) : List DV → Tr DV
  | [.int .i64 n, .sl es m 2 _ _, .bool part] => .node (isP (openS n (unE es) = 0 ∧ isE es m = true)) (.node (T.is n es part) (.leaf (.sl (T.cs n es part) (T.len n es part) 1 false false)) (.leaf (.sl [] 0 1 false true))) .fail
  | _ => .fail
noncomputable def evR3 (n : Int) (E : List (Int × Int)) (c nl : Bool) (m : Int) (F : List (Int × Int)) (T : Tabs) (U : TabF) : Ev := (((((((Ev.nil.add 13 (sp13 n E c nl m F)).add 14 sp14).add 15 (sp15 T)).add 16 (sp16t T)).add 17 sp17).add 18 (sp18 T)).add 19 (sp19t U)).add 20 sp20
noncomputable def s3 (m : Int) (F : List (Int × Int)) (cs : List DV) (k sz : Nat) (c2 nl2 : Bool) (r : Int) : St := ⟨[(7, .d (iD m)), (8, .d (edgX F false false)), (9, .d (.sl cs k sz c2 nl2)), (10, .d (iD r))], [], []⟩


theorem r3 (n : Int) (E : List (Int × Int)) (c nl : Bool) (m : Int) (F : List (Int × Int)) (T : Tabs) (U : TabF) (l : List Int) (c2 nl2 : Bool) : startS aeC (evR3 n E c nl m F T U) 3 0 Try.f3 none ⟨envOf 0 ([iD n, edgX E c nl, lstX l c2 nl2].map .d), [], []⟩ (heldD aeC 3 0) =
  bif isAt (n, edD E, List.length E, c, nl, 10) (n, edD E, List.length E, c, nl, tenI) then
    bif isI (ints l) && (Nat.beq (List.length (ints l)) (List.length l) && true) then
      bif true && Nat.beq (List.length (ints (List.take 10 (unI (ints l))))) 0 || true then
        some (0, ⟨[(7, .d (iD m)), (8, .d (DV.sl (edD F) (List.length F) 2 false false)), (9, .d (DV.sl (ints (List.take 10 (unI (ints l)))) (lenOf 1 (List.length (ints (List.take 10 (unI (ints l)))))) 1 false (true && Nat.beq (List.length (ints (List.take 10 (unI (ints l))))) 0))), (10, .d (iD 0))], [], []⟩)
      else
        none
    else
      none
  else
    none := by kernel_rfl

theorem r3_0 (n : Int) (E : List (Int × Int)) (c nl : Bool) (m : Int) (F : List (Int × Int)) (T : Tabs) (U : TabF) (x : List DV) (k : Nat) (c2 nl2 : Bool) (r : Int) : startS aeC (evR3 n E c nl m F T U) 3 0 Try.f3 (some 0) (s3 m F x k 1 c2 nl2 r) (roundD aeC 3 0 0) =
  bif decide (r < 2) then
    bif isP (openS m (unE (edD F)) = 0 ∧ isE (edD F) (List.length F) = true ∧ isI x = true ∧ List.length x = k) then
      bif Tabs.G T m (edD F) x then
        bif okG16 m (edD F) (List.length F) x k then
          bif !Tabs.G T m (edD F) x then
            some (Ex.ret, ⟨[(6, .d (bD false))], [], []⟩)
          else
            bif okG18 (edD F) (List.length F) x k then
              bif okG17 (Tabs.RD T (edD F) x) (Tabs.RL T (edD F) x) (Tabs.RD T (edD F) x) (Tabs.RL T (edD F) x) then
                bif isP (openS m (unE (edD F)) = 0 ∧ isE (edD F) (List.length F) = true) then
                  bif TabF.is U m (edD F) false then
                    some (Ex.norm, ⟨[(7, .d (iD m)), (8, .d (DV.sl (edD F) (List.length F) 2 false false)), (9, .d (DV.sl (TabF.cs U m (edD F) false) (TabF.len U m (edD F) false) 1 false false)), (10, .d (iD (IntKind.wrap IntKind.i64 (r + 1))))], [], []⟩)
                  else
                    some (Ex.norm, ⟨[(7, .d (iD m)), (8, .d (DV.sl (edD F) (List.length F) 2 false false)), (9, .d (DV.sl [] 0 1 false true)), (10, .d (iD (IntKind.wrap IntKind.i64 (r + 1))))], [], []⟩)
                else
                  none
              else
                none
            else
              none
        else
          none
      else
        bif okG16 m (edD F) (List.length F) x k then
          bif !Tabs.G T m (edD F) x then
            bif isP (openS m (unE (edD F)) = 0 ∧ isE (edD F) (List.length F) = true) then
              bif TabF.is U m (edD F) false then
                some (Ex.norm, ⟨[(7, .d (iD m)), (8, .d (DV.sl (edD F) (List.length F) 2 false false)), (9, .d (DV.sl (TabF.cs U m (edD F) false) (TabF.len U m (edD F) false) 1 false false)), (10, .d (iD (IntKind.wrap IntKind.i64 (r + 1))))], [], []⟩)
              else
                some (Ex.norm, ⟨[(7, .d (iD m)), (8, .d (DV.sl (edD F) (List.length F) 2 false false)), (9, .d (DV.sl [] 0 1 false true)), (10, .d (iD (IntKind.wrap IntKind.i64 (r + 1))))], [], []⟩)
            else
              none
          else
            some (Ex.ret, ⟨[(6, .d (bD false))], [], []⟩)
        else
          none
    else
      none
  else
    some (Ex.exit 0, ⟨[], [], []⟩) := by kernel_rfl

theorem r3_x (n : Int) (E : List (Int × Int)) (c nl : Bool) (m : Int) (F : List (Int × Int)) (T : Tabs) (U : TabF) : nextS aeC (evR3 n E c nl m F T U) 3 0 Try.f3 none 0 (.exit 0) ⟨[], [], []⟩ (doneE aeC Try.f3 0 fun v h => freezeV h 4 v) =
  some (bD true) := by kernel_rfl

/-- The tables. -/
noncomputable def tabs : Tabs := ⟨fun n es cs => gracB n (unE es) (unI cs), fun es cs => (cpAll (unE es) (unI cs)).map rowDV, fun es cs => (cpAll (unE es) (unI cs)).length⟩
noncomputable def tabF : TabF := ⟨fun n es p => (srS n (unE es) p true n.toNat []).1.isSome, fun n es p => ints ((srS n (unE es) p true n.toNat []).1.getD []), fun n es p => ((srS n (unE es) p true n.toNat []).1.getD []).length⟩

theorem sp15_ok : ∀ ds d, (sp15 tabs ds).val = some d → PureOK Try.prog 15 ds d := by
  intro ds d h
  unfold sp15 at h
  split at h
  · rename_i n es m c cs k c2 nl2
    simp only [Tr.val] at h
    obtain ⟨hg, h2⟩ := cond_none h
    clear h
    obtain ⟨q1, q2, q3, q4⟩ := isP_iff.1 hg
    obtain ⟨e1, e2⟩ := ed_unE q2
    obtain ⟨l, rfl⟩ := isI_iff.1 q3
    rw [len_ints] at q4
    subst q4
    have := copies_ok n (unE es) c l c2 nl2 q1
    unfold edgX lstX cpD rowsDV at this
    rw [← e1, ← e2] at this
    simp only [tabs, unI_ints] at h2
    cases hgr : gracB n (unE es) l with
    | true => rw [hgr] at h2 this; cases h2; exact this
    | false => rw [hgr] at h2 this; cases h2; exact this
  · cases h

theorem sp16t_ok : ∀ ds d, (sp16t tabs ds).val = some d → PureOK Try.prog 16 ds d := by
  intro ds d h
  unfold sp16t at h
  split at h
  · exact sp16_ok _ _ h
  · cases h

theorem sp18_ok : ∀ ds d, (sp18 tabs ds).val = some d → PureOK Try.prog 18 ds d := by
  intro ds d h
  unfold sp18 at h
  split at h
  · rename_i es m c nl cs k c2 nl2
    simp only [Tr.val] at h
    obtain ⟨hg, h2⟩ := cond_none h
    clear h
    obtain ⟨g1, g2, g3, g4, g5, g6, g7, g8⟩ := isP_iff.1 hg
    obtain ⟨e1, e2⟩ := ed_unE g1
    obtain ⟨l, rfl⟩ := isI_iff.1 g2
    rw [len_ints] at g3
    subst g3
    rw [unI_ints] at g5
    have := rcopies_ok (unE es) c nl l c2 nl2 g4 g5 (by omega) (by omega) g8
    unfold edgX lstX rowsDV at this
    rw [← e1, ← e2] at this
    simp only [tabs, unI_ints] at h2
    cases h2
    exact this
  · cases h

theorem sp17_ok : ∀ ds d, (sp17 ds).val = some d → PureOK Try.prog 17 ds d := by
  intro ds d h
  unfold sp17 at h
  split at h
  · rename_i a n c b m c2
    simp only [Tr.val] at h
    obtain ⟨hg, h2⟩ := cond_none h
    cases h2
    obtain ⟨R, rfl, rfl, rfl, rfl, h1, h2⟩ := isP_iff.1 hg
    have := rows_same R h1 h2
    unfold rowsDV at this
    refine PureOK.weaken ?_ this
    rintro w G l ⟨v1, r1, rfl, q1, v2, r2, rfl, q2, q3⟩
    exact ⟨v1, _, rfl, sl_open q1, v2, _, rfl, sl_open q2, q3⟩
  · cases h

theorem sp19t_ok : ∀ ds d, (sp19t tabF ds).val = some d → PureOK Try.prog 19 ds d := by
  intro ds d h
  unfold sp19t at h
  split at h
  · rename_i n es m c nl part
    simp only [Tr.val] at h
    obtain ⟨hg, h2⟩ := cond_none h
    obtain ⟨q1, q2⟩ := isP_iff.1 hg
    refine sp19_ok _ _ ?_
    unfold sp19
    simp only [Tr.val]
    rw [decide_eq_true q1, q2]
    exact h2
  · cases h

theorem cpFrom_mem {E : List (Int × Int)} {l : List Int} {sz : Int} : ∀ (k : Nat) (t : Int), ∀ r ∈ cpFrom E l sz k t, r.length = E.length
  | 0, t, r, h => by cases h
  | k + 1, t, r, h => by
    rcases List.mem_cons.1 h with rfl | h
    · simp
    · exact cpFrom_mem k (t + 1) r h

theorem l3 (n : Int) (E : List (Int × Int)) (c nl : Bool) (m : Int) (F : List (Int × Int)) (hF : openS m F = 0) : ∀ (k : Nat) (x : List Int) (c2 nl2 : Bool), k ≤ 2 → x.length ≤ 100 →
    LoopAt aeC (evR3 n E c nl m F tabs tabF) 3 0 Try.f3 0 (s3 m F (ints x) x.length 1 c2 nl2 (2 - (k : Int))) (.exit 0) ⟨[], [], []⟩
  | 0, x, c2, nl2, hk, hx => .out k3_0 (by simp) ((r3_0 ..).trans (by rw [cnd_neg (by omega)]))
  | k + 1, x, c2, nl2, hk, hx => by
    obtain ⟨hg, h2, h7⟩ := open_graph hF
    have res := r3_0 n E c nl m F tabs tabF (ints x) x.length c2 nl2 (2 - ((k + 1 : Nat) : Int))
    have g1 : isP (openS m (unE (edD F)) = 0 ∧ isE (edD F) F.length = true ∧ isI (ints x) = true ∧ (ints x).length = x.length) = true := isP_iff.2 ⟨by rw [unE_ed]; exact hF, isE_ed F, isI_ints x, len_ints x⟩
    have g2 : okG16 m (edD F) F.length (ints x) x.length = true := isP_iff.2 ⟨isE_ed F, isI_ints x, len_ints x, by omega, by omega, by rw [unE_ed]; exact hg.2.2.2.2, by have := hg.2.2.2.1; simp only at this; omega⟩
    have g3 : isP (openS m (unE (edD F)) = 0 ∧ isE (edD F) F.length = true) = true := isP_iff.2 ⟨by rw [unE_ed]; exact hF, isE_ed F⟩
    rw [cnd_pos (by omega), g1, g2, g3, wrap64 (by omega) (by omega), show 2 - ((k + 1 : Nat) : Int) + 1 = 2 - (k : Int) by omega] at res
    have next : startS aeC (evR3 n E c nl m F tabs tabF) 3 0 Try.f3 (some 0) (s3 m F (ints x) x.length 1 c2 nl2 (2 - ((k + 1 : Nat) : Int))) (roundD aeC 3 0 0) =
        (bif tabF.is m (edD F) false then some (.norm, ⟨[(7, .d (iD m)), (8, .d (DV.sl (edD F) F.length 2 false false)), (9, .d (DV.sl (tabF.cs m (edD F) false) (tabF.len m (edD F) false) 1 false false)), (10, .d (iD (2 - (k : Int))))], [], []⟩)
          else some (.norm, ⟨[(7, .d (iD m)), (8, .d (DV.sl (edD F) F.length 2 false false)), (9, .d (DV.sl [] 0 1 false true)), (10, .d (iD (2 - (k : Int))))], [], []⟩)) →
        LoopAt aeC (evR3 n E c nl m F tabs tabF) 3 0 Try.f3 0 (s3 m F (ints x) x.length 1 c2 nl2 (2 - ((k + 1 : Nat) : Int))) (.exit 0) ⟨[], [], []⟩ := by
      intro hres
      cases hs : (srS m F false true m.toNat []).1 with
      | none =>
        have : tabF.is m (edD F) false = false := by simp only [tabF, unE_ed, hs]; rfl
        rw [this] at hres
        exact .next k3_0 hres (l3 n E c nl m F hF k [] false true (by omega) (by simp))
      | some o =>
        have e1 : tabF.is m (edD F) false = true := by simp only [tabF, unE_ed, hs]; rfl
        have e2 : tabF.cs m (edD F) false = ints o := by simp only [tabF, unE_ed, hs]; rfl
        have e3 : tabF.len m (edD F) false = o.length := by simp only [tabF, unE_ed, hs]; rfl
        rw [e1, e2, e3] at hres
        have := grac_len (srS_some hs)
        exact .next k3_0 hres (l3 n E c nl m F hF k o false false (by omega) (by omega))
    cases hgr : gracB m F x with
    | false =>
      have e : tabs.G m (edD F) (ints x) = false := by simp only [tabs, unE_ed, unI_ints, hgr]
      rw [e] at res
      exact next res
    | true =>
      have e : tabs.G m (edD F) (ints x) = true := by simp only [tabs, unE_ed, unI_ints, hgr]
      have hll := grac_len hgr
      have hnew : newS F.length [] x = true := by
        simp only [gracB, Bool.and_eq_true] at hgr
        exact hgr.2.1
      have h10 : F.length ≤ 10 := hg.2.2.2.1
      have h1 : 1 ≤ F.length := hg.2.2.1
      have g4 : okG18 (edD F) F.length (ints x) x.length = true := isP_iff.2 ⟨isE_ed F, isI_ints x, len_ints x, by rw [unE_ed, show x.length = m.toNat by omega]; exact hg.2.2.2.2, by rw [unI_ints]; exact (newS_lab hnew).mono h10, h1, h10, by omega⟩
      have g5 : okG17 (tabs.RD (edD F) (ints x)) (tabs.RL (edD F) (ints x)) (tabs.RD (edD F) (ints x)) (tabs.RL (edD F) (ints x)) = true := by
        refine isP_iff.2 ⟨cpAll F x, ?_, ?_, rfl, rfl, ?_, ?_⟩
        · simp only [tabs, unE_ed, unI_ints]
        · simp only [tabs, unE_ed, unI_ints]
        · have : (cpAll F x).length = 2 * F.length + 1 := cpFrom_len ..
          omega
        · intro r hr
          have := cpFrom_mem _ _ r hr
          omega
      rw [e, g4, g5] at res
      exact next res

theorem law3 (n : Int) (E : List (Int × Int)) (c nl : Bool) (l : List Int) (c2 nl2 : Bool) (hE : E.length < 9223372036854775808) : PureOK Try.prog 3 [iD n, edgX E c nl, lstX l c2 nl2] (bD true) := by
  obtain ⟨m, F, hF, ht⟩ := tame_ok n E c nl hE
  have hev : EvOK Try.prog (evR3 n E c nl m F tabs tabF) := EvOK.add (EvOK.add (EvOK.add (EvOK.add (EvOK.add (EvOK.add (EvOK.add (EvOK.add EvOK.nil (sp13_ok ht)) sp14_ok) sp15_ok) sp16t_ok) sp17_ok) sp18_ok) sp19t_ok) sp20_ok
  refine ae_pure hev (fn := Try.f3) k3 (by kernel_rfl) (by kernel_rfl) ?_
  have h0 := r3 n E c nl m F tabs tabF l c2 nl2
  have ha : isAt (n, edD E, E.length, c, nl, (10 : Int)) (n, edD E, E.length, c, nl, tenI) = true := isAt_iff.2 rfl
  have hb : (isI (ints l) && (Nat.beq (ints l).length l.length && true)) = true := by rw [isI_ints, len_ints, Nat.beq_refl]; rfl
  rw [ha, hb, unI_ints, Bool.or_true, cond_true, cond_true, cond_true, Go.AE.lenOf_1, len_ints] at h0
  exact startF_one k3 done_plain h0 (l3 n E c nl m F hF 2 (l.take 10) false (true && Nat.beq (l.take 10).length 0) (by omega) (by rw [List.length_take]; omega)) (r3_x ..)
end Go.Proofs.Ytkcdbndpcabelaa
