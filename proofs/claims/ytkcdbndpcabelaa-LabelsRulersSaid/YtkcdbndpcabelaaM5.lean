/- Part 5 of what the law stands on: the abstract machine over the model, and what the functions answer. No condition. -/
import Derived.Test.YtkcdbndpcabelaaM4
set_option linter.unusedSimpArgs false
set_option linter.unusedVariables false

/- Chapter 02: whether marks are a ruler, and the first ruler that begins with them: the program's functions. -/
namespace Go.Proofs.Ytkcdbndpcabelaa
open Go Go.AE

noncomputable def s51 (cs : List DV) (n : Nat) (c nl : Bool) (i : Int) (h : List Blk) : St := ⟨[(0, .d (DV.sl cs n 1 c nl)), (3, AV.ref 0 0), (4, AV.fn 62 [AV.ref 0 0] []), (25, .d (DV.sl cs n 1 c nl)), (26, .d (iD n)), (27, .d (iD i))], h, []⟩
noncomputable def h51 (ms : List DV) (ds : List Bool) : List Blk := [.ac (.grow 1 1 false :: diffsA ds), .dc ms]

theorem k51 : OkSeg Try.f51 none [0] := ⟨by kernel_rfl, by kernel_rfl, by decide⟩
theorem k51_0 : OkSeg Try.f51 (some 0) [] := ⟨by kernel_rfl, by kernel_rfl, by decide⟩

theorem r51 (cs : List DV) (n : Nat) (c nl : Bool) : startS aeC ev6 51 0 Try.f51 none ⟨envOf 0 ([DV.sl cs n 1 c nl].map .d), [], []⟩ (heldD aeC 51 0) =
  bif decide ((n : Int) < 2) then none else bif decide (7 < (n : Int)) then none else bif inRange 0 n then getI (nth cs 0) fun x0 => bif !decide (x0 = 0) then none else some (0, s51 cs n c nl 0 [.dc (nilS1 :: bools noDiffs)]) else none := by kernel_rfl

theorem r51_d (cs : List DV) (n : Nat) (c nl : Bool) : startS aeC ev6 51 0 Try.f51 none ⟨envOf 0 ([DV.sl cs n 1 c nl].map .d), [], []⟩ (doneE aeC Try.f51 0 fun v h => freezeV h 4 v) =
  bif decide ((n : Int) < 2) then some .nilp else bif decide (7 < (n : Int)) then some .nilp else bif inRange 0 n then getI (nth cs 0) fun x0 => bif !decide (x0 = 0) then some .nilp else none else none := by kernel_rfl

theorem r51_0a (cs : List DV) (n : Nat) (c nl : Bool) : startS aeC ev6 51 0 Try.f51 (some 0) (s51 cs n c nl 0 [.dc (nilS1 :: bools noDiffs)]) (roundD aeC 51 0 0) =
  bif decide (0 < (n : Int)) then bif inRange 0 n then getI (nth cs 0) fun x0 => bif decide (25 < x0) then some (.ret, ⟨[(2, .d .nilp)], [], []⟩) else some (.norm, s51 cs n c nl (IntKind.wrap .i64 (0 + 1)) (h51 [iD x0] noDiffs)) else none
  else some (.exit 0, ⟨[(3, AV.ref 0 0)], [.dc (nilS1 :: bools noDiffs)], []⟩) := by kernel_rfl

theorem r51_0 (cs : List DV) (n : Nat) (c nl : Bool) (i : Int) (ms : List DV) (ds : List Bool) (hd : ds.length = 26) (hi : decide (0 < i) = true) : startS aeC ev6 51 0 Try.f51 (some 0) (s51 cs n c nl i (h51 ms ds)) (roundD aeC 51 0 0) =
  bif decide (i < (n : Int)) then
    bif inRange i n then
      getI (nth cs (Int.toNat i * 1)) fun x0 =>
        bif inRange (IntKind.wrap IntKind.i64 (i - 1)) n then
          getI (nth cs (Int.toNat (IntKind.wrap IntKind.i64 (i - 1)) * 1)) fun x1 =>
          bif decide (x0 ≤ x1) then some (.ret, ⟨[(2, .d .nilp)], [], []⟩)
          else bif decide (25 < x0) then some (.ret, ⟨[(2, .d .nilp)], [], []⟩)
          else bif ok62 ms x0 (diffsA ds) then
              bif (ad62 ms x0 (diffsA ds)).isSome then some (.norm, s51 cs n c nl (IntKind.wrap .i64 (i + 1)) [.ac (.grow 1 1 false :: expl fun i => ((ad62 ms x0 (diffsA ds)).getD []).getD i false), .dc (ms ++ [iD x0])])
              else some (.ret, ⟨[(2, .d .nilp)], [], []⟩)
            else none
        else none
    else none
  else some (.exit 0, ⟨[(3, AV.ref 0 0)], h51 ms ds, []⟩) := by
  have key : startS aeC ev6 51 0 Try.f51 (some 0) (s51 cs n c nl i (h51 ms ds)) (roundD aeC 51 0 0) =
    bif decide (i < (n : Int)) then
      bif inRange i n then
        getI (nth cs (Int.toNat i * 1)) fun x0 =>
          bif decide (0 < i) then
            bif inRange (IntKind.wrap IntKind.i64 (i - 1)) n then
            getI (nth cs (Int.toNat (IntKind.wrap IntKind.i64 (i - 1)) * 1)) fun x1 =>
            bif decide (x0 ≤ x1) then some (.ret, ⟨[(2, .d .nilp)], [], []⟩)
            else bif decide (25 < x0) then some (.ret, ⟨[(2, .d .nilp)], [], []⟩)
            else bif ok62 ms x0 (diffsA ds) then
                bif (ad62 ms x0 (diffsA ds)).isSome then some (.norm, s51 cs n c nl (IntKind.wrap .i64 (i + 1)) [.ac (.grow 1 1 false :: expl fun i => ((ad62 ms x0 (diffsA ds)).getD []).getD i false), .dc (ms ++ [iD x0])])
                else some (.ret, ⟨[(2, .d .nilp)], [], []⟩)
              else none
            else none
          else bif decide (25 < x0) then some (.ret, ⟨[(2, .d .nilp)], [], []⟩)
            else bif ok62 ms x0 (diffsA ds) then
                bif (ad62 ms x0 (diffsA ds)).isSome then some (.norm, s51 cs n c nl (IntKind.wrap .i64 (i + 1)) [.ac (.grow 1 1 false :: expl fun i => ((ad62 ms x0 (diffsA ds)).getD []).getD i false), .dc (ms ++ [iD x0])])
                else some (.ret, ⟨[(2, .d .nilp)], [], []⟩)
              else none
      else none
    else some (.exit 0, ⟨[(3, AV.ref 0 0)], h51 ms ds, []⟩) := by
    obtain ⟨b0, b1, b2, b3, b4, b5, b6, b7, b8, b9, b10, b11, b12, b13, b14, b15, b16, b17, b18, b19, b20, b21, b22, b23, b24, b25, rfl⟩ := len26 hd
    kernel_rfl
  rw [key, hi]
  simp only [cond_true]

theorem r51_x (ms : List DV) (ds : List Bool) (hd : ds.length = 26) : nextS aeC ev6 51 0 Try.f51 none 0 (.exit 0) ⟨[(3, AV.ref 0 0)], h51 ms ds, []⟩ (doneE aeC Try.f51 0 fun v h => freezeV h 4 v) =
  some (.ptr (.sl ms (lenOf 1 ms.length) 1 false (!false && Nat.beq ms.length 0) :: bools ds) 0) := by
  obtain ⟨b0, b1, b2, b3, b4, b5, b6, b7, b8, b9, b10, b11, b12, b13, b14, b15, b16, b17, b18, b19, b20, b21, b22, b23, b24, b25, rfl⟩ := len26 hd
  kernel_rfl
theorem r51_xr : nextS aeC ev6 51 0 Try.f51 none 0 .ret ⟨[(2, .d .nilp)], [], []⟩ (doneE aeC Try.f51 0 fun v h => freezeV h 4 v) = some .nilp := by kernel_rfl

theorem getLastD_take {l : List Int} {i : Nat} (h0 : 1 ≤ i) (h1 : i ≤ l.length) : lastI (l.take i) = l.getD (i - 1) 0 := by
  unfold lastI
  rw [List.getLastD_eq_getLast?, List.getLast?_eq_getElem?, List.length_take, Nat.min_eq_left h1]
  simp [List.getElem?_take, show i - 1 < i by omega]

theorem l51 (l : List Int) (c nl : Bool) (hl : l.length ≤ 7) : ∀ (r : List Int) (i : Nat) (ds : List Bool), ds.length = 26 → 1 ≤ i → l.drop i = r → (∀ x ∈ l.take i, markOK x) → lastI (l.take i) ≤ 25 →
      LoopAt aeC ev6 51 0 Try.f51 0 (s51 (ints l) l.length c nl i (h51 (ints (l.take i)) ds)) (match begS (l.take i) r ds with | some _ => .exit 0 | none => .ret)
        (match begS (l.take i) r ds with | some ds' => ⟨[(3, AV.ref 0 0)], h51 (ints l) ds', []⟩ | none => ⟨[(2, .d .nilp)], [], []⟩)
  | [], i, ds, hn, hi, hr, hm, hm2 => by
    have h1 := drop_nil_o hr
    refine .out k51_0 (by simp [begS]) ((r51_0 _ _ _ _ _ _ ds hn (by simp; omega)).trans ?_)
    simp (disch := omega) only [cnd_pos, cnd_neg, inR_pos, ble_pos, blt_pos, beq_pos, cond_and, cond_or, Bool.cond_not, cond_true, cond_false, Bool.and_true, Bool.true_and, getI_some, getB_some, nth_ints_o, nth_bools_o, wrap64_o, len_ints, len_bools, lenOf_1, Int.toNat_natCast, Nat.mul_one, Nat.zero_add, setNth_bools_o, setNth_ints_o, len_set_i, len_set_b, Option.bind_some, List.length_append, List.length_cons, List.length_nil, unI_ints, unB_bools, ints_app1, bools_app1]
    rw [List.take_of_length_le h1]
    rfl
  | x :: r, i, ds, hn, hi, hr, hm, hm2 => by
    obtain ⟨h1, h2, h3⟩ := drop_cons_o (d := 0) hr
    have hlast := getLastD_take (l := l) hi (by omega)
    have res := r51_0 (ints l) l.length c nl i (ints (l.take i)) ds hn (by simp; omega)
    revert res
    simp (disch := omega) only [cnd_pos, cnd_neg, inR_pos, ble_pos, blt_pos, beq_pos, cond_and, cond_or, Bool.cond_not, cond_true, cond_false, Bool.and_true, Bool.true_and, getI_some, getB_some, nth_ints_o, nth_bools_o, wrap64_o, len_ints, len_bools, lenOf_1, Int.toNat_natCast, Nat.mul_one, Nat.zero_add, setNth_bools_o, setNth_ints_o, len_set_i, len_set_b, Option.bind_some, List.length_append, List.length_cons, List.length_nil, unI_ints, unB_bools, ints_app1, bools_app1, show ((i : Int) - 1).toNat = i - 1 by omega]
    rw [h2]
    intro res
    simp only [begS, hlast]
    by_cases c1 : x ≤ l.getD (i - 1) 0
    · rw [if_pos c1]
      rw [cnd_pos c1] at res
      exact .out k51_0 (by simp) res
    rw [cnd_neg c1] at res
    rw [if_neg c1]
    by_cases c2 : 25 < x
    · rw [if_pos c2]
      rw [cnd_pos c2] at res
      exact .out k51_0 (by simp) res
    rw [cnd_neg c2] at res
    rw [if_neg c2]
    have hx : markOK x := by
      have hq : l.getD (i - 1) 0 ∈ l.take i := by
        rw [← getD_take_o (show i - 1 < i by omega)]
        have : i - 1 < (l.take i).length := by rw [List.length_take]; omega
        rw [List.getD_eq_getElem?_getD, List.getElem?_eq_getElem this]
        exact List.getElem_mem this
      have := hm _ hq
      exact ⟨by have := this.1; omega, by omega⟩
    have hok : ok62 (ints (l.take i)) x (diffsA ds) = true := by
      simp only [ok62, isI_ints, len_ints, unI_ints, isA_diffs, length_diffs, hn, Nat.beq_refl, Bool.true_and, Bool.and_true, Bool.and_eq_true, List.all_eq_true, okM_iff, Nat.blt_eq]
      exact ⟨by rw [List.length_take]; omega, hx, hm⟩
    have had : ad62 (ints (l.take i)) x (diffsA ds) = addS (l.take i) x ds := by simp only [ad62, unI_ints, unA_diffs]
    rw [hok, had] at res
    simp only [cond_true] at res
    cases ha : addS (l.take i) x ds with
    | none =>
      rw [ha] at res
      exact .out k51_0 (by simp) res
    | some ds' =>
      rw [ha] at res
      have hd' := (addS_length ha).trans hn
      have htk : l.take i ++ [x] = l.take (i + 1) := by
        rw [List.take_add_one, ← h2]; simp [h1]
      simp only [Option.isSome_some, cond_true, Option.getD_some, expl_eq hd', htk] at res
      simp only [htk]
      refine .next k51_0 res ?_
      refine l51 l c nl hl r (i + 1) ds' hd' (by omega) h3 ?_ ?_
      · rw [← htk]
        intro y hy
        rcases List.mem_append.1 hy with hy | hy
        · exact hm y hy
        · simp at hy; subst hy; exact hx
      · rw [← htk, lastI_append]; omega

/-- The differences of marks that are a ruler. -/
def begR (l : List Int) : Option (List Bool) := if 2 ≤ l.length ∧ l.length ≤ 7 ∧ l.getD 0 0 = 0 then begS [0] l.tail noDiffs else none

theorem begR_ruler (l : List Int) : (begR l).isSome = rulerB l := by
  unfold begR rulerB
  by_cases h1 : 2 ≤ l.length <;> by_cases h2 : l.length ≤ 7 <;> by_cases h3 : l.getD 0 0 = 0 <;> simp only [h1, h2, h3, and_self, and_false, false_and, if_true, if_false, decide_true, decide_false, Bool.true_and, Bool.false_and] <;> rfl

theorem begS_length : ∀ (r p : List Int) (ds ds' : List Bool), begS p r ds = some ds' → ds'.length = ds.length
  | [], p, ds, ds', h => by simp only [begS, Option.some.injEq] at h; rw [h]
  | m :: r, p, ds, ds', h => by
    simp only [begS] at h
    split at h
    · cases h
    split at h
    · cases h
    cases ha : addS p m ds with
    | none => rw [ha] at h; cases h
    | some d1 => rw [ha] at h; rw [begS_length r _ _ _ h, addS_length ha]

theorem begR_length {l : List Int} {ds : List Bool} (h : begR l = some ds) : ds.length = 26 := by
  unfold begR at h
  split at h
  · exact begS_length _ _ _ _ h
  · cases h

def begD (l : List Int) : DV := match begR l with
  | some ds => .ptr (.sl (ints l) l.length 1 false false :: bools ds) 0
  | none => .nilp

theorem begun_ok (l : List Int) (c nl : Bool) : PureOK Try.prog 51 [.sl (ints l) l.length 1 c nl] (begD l) := by
  refine ae_pure ev6_ok (fn := Try.f51) k51 (by kernel_rfl) (by kernel_rfl) ?_
  have res := r51_d (ints l) l.length c nl
  have resh := r51 (ints l) l.length c nl
  unfold begD begR
  by_cases h1 : 2 ≤ l.length
  rotate_left
  · rw [cnd_pos (by omega)] at res
    rw [if_neg (by omega)]
    exact startF_done k51 done_plain res
  by_cases h2 : l.length ≤ 7
  rotate_left
  · rw [cnd_neg (by omega), cnd_pos (by omega)] at res
    rw [if_neg (by omega)]
    exact startF_done k51 done_plain res
  revert res resh
  simp (disch := omega) only [cnd_pos, cnd_neg, inR_pos, ble_pos, blt_pos, beq_pos, cond_and, cond_or, Bool.cond_not, cond_true, cond_false, Bool.and_true, Bool.true_and, getI_some, getB_some, nth_ints_o, nth_bools_o, wrap64_o, len_ints, len_bools, lenOf_1, Int.toNat_natCast, Nat.mul_one, Nat.zero_add, setNth_bools_o, setNth_ints_o, len_set_i, len_set_b, Option.bind_some, List.length_append, List.length_cons, List.length_nil, unI_ints, unB_bools, ints_app1, bools_app1]
  intro res resh
  by_cases h3 : l.getD 0 0 = 0
  rotate_left
  · rw [cnd_neg h3] at res
    rw [if_neg (fun h => h3 h.2.2)]
    exact startF_done k51 done_plain res
  rw [cnd_pos h3] at resh
  rw [if_pos ⟨h1, h2, h3⟩]
  have ht : l.take 1 = [0] := by
    cases l with
    | nil => simp at h1
    | cons x r => simp at h3; subst h3; rfl
  have first := r51_0a (ints l) l.length c nl
  revert first
  simp (disch := omega) only [cnd_pos, cnd_neg, inR_pos, ble_pos, blt_pos, beq_pos, cond_and, cond_or, Bool.cond_not, cond_true, cond_false, Bool.and_true, Bool.true_and, getI_some, getB_some, nth_ints_o, nth_bools_o, wrap64_o, len_ints, len_bools, lenOf_1, Int.toNat_natCast, Nat.mul_one, Nat.zero_add, setNth_bools_o, setNth_ints_o, len_set_i, len_set_b, Option.bind_some, List.length_append, List.length_cons, List.length_nil, unI_ints, unB_bools, ints_app1, bools_app1]
  rw [h3]
  intro first
  have loop := l51 l c nl h2 l.tail 1 noDiffs rfl (by omega) (by rw [← List.drop_one]) (by rw [ht]; intro x hx; simp at hx; subst hx; exact ⟨by omega, by omega⟩) (by rw [ht]; decide)
  rw [ht] at loop
  have loop0 := LoopAt.next k51_0 first loop
  rw [startF_seg k51 resh loop0]
  refine nextF_done k51 done_plain ?_
  cases hb : begS [0] l.tail noDiffs with
  | none => exact r51_xr
  | some ds =>
    refine (r51_x (ints l) ds (begS_length _ _ _ _ hb)).trans ?_
    rw [len_ints, show Nat.beq l.length 0 = false by cases l with
      | nil => simp at h1
      | cons x r => rfl]
    rfl

def sp51 : List DV → Tr DV
  | [.sl cs n 1 _ _] => .node (isI cs && Nat.beq cs.length n) (.node (begR (unI cs)).isSome (.leaf (.ptr (.sl cs n 1 false false :: explD fun i => ((begR (unI cs)).getD []).getD i false) 0)) (.leaf .nilp)) .fail
  | _ => .fail
theorem sp51_ok : ∀ ds d, (sp51 ds).val = some d → PureOK Try.prog 51 ds d := by
  intro ds d h
  unfold sp51 at h
  split at h
  · rename_i cs n c nl
    simp only [Tr.val] at h
    obtain ⟨hg, h2⟩ := cond_none h
    simp only [Bool.and_eq_true] at hg
    obtain ⟨l, rfl⟩ := isI_iff.1 hg.1
    have hn := Nat.eq_of_beq_eq_true hg.2
    rw [len_ints] at hn
    subst hn
    rw [unI_ints] at h2
    have := begun_ok l c nl
    unfold begD at this
    cases hb : begR l with
    | none => rw [hb] at h2 this; cases h2; exact this
    | some ds =>
      rw [hb] at h2 this
      simp only [Option.isSome_some, cond_true, Option.getD_some, explD_eq (begR_length hb)] at h2
      cases h2; exact this
  · cases h

/-! ### 'IsRuler' and 'Extend' -/
def evI : Ev := ev6.add 51 sp51
theorem evI_ok : EvOK Try.prog evI := EvOK.add ev6_ok sp51_ok
theorem k25 : OkSeg Try.f25 none [] := ⟨by kernel_rfl, by kernel_rfl, by decide⟩
theorem k26 : OkSeg Try.f26 none [] := ⟨by kernel_rfl, by kernel_rfl, by decide⟩

theorem r25 (cs : List DV) (n : Nat) (c nl : Bool) : startS aeC evI 25 0 Try.f25 none ⟨envOf 0 ([DV.sl cs n 1 c nl].map .d), [], []⟩ (doneE aeC Try.f25 0 fun v h => freezeV h 4 v) =
  bif isI cs && Nat.beq cs.length n then bif (begR (unI cs)).isSome then some (.tup [bD true, iD 0]) else some (.tup [bD false, iD 0]) else none := by kernel_rfl

def sp25 : List DV → Tr DV
  | [.sl cs n 1 _ _] => .node (isI cs && Nat.beq cs.length n) (.leaf (.tup [bD (rulerB (unI cs)), iD 0])) .fail
  | _ => .fail
theorem sp25_ok : ∀ ds d, (sp25 ds).val = some d → PureOK Try.prog 25 ds d := by
  intro ds d h
  unfold sp25 at h
  split at h
  · rename_i cs n c nl
    simp only [Tr.val] at h
    obtain ⟨hg, h2⟩ := cond_none h
    cases h2
    refine ae_pure evI_ok (fn := Try.f25) k25 (by kernel_rfl) (by kernel_rfl) (startF_done k25 done_plain ?_)
    rw [r25, hg, ← begR_ruler]
    cases (begR (unI cs)).isSome <;> rfl
  · cases h

noncomputable def evG (f : Nat) : Ev := evI.add 50 (sp50 f)
theorem evG_ok (f : Nat) : EvOK Try.prog (evG f) := EvOK.add evI_ok (sp50_ok f)

theorem r26 (f : Nat) (cs : List DV) (n : Nat) (c nl : Bool) (many : Int) : startS aeC (evG f) 26 0 Try.f26 none ⟨envOf 0 ([DV.sl cs n 1 c nl, iD many].map .d), [], []⟩ (doneE aeC Try.f26 0 fun v h => freezeV h 4 v) =
  bif isI cs && Nat.beq cs.length n then bif (begR (unI cs)).isSome then
      bif decide (many < 2) then some (.tup [nilS1, bD false, iD 1])
      else bif decide (7 < many) then some (.tup [nilS1, bD false, iD 1])
      else bif decide (many < (n : Int)) then some (.tup [nilS1, bD false, iD 0])
      else bif okG f cs n (explD fun i => ((begR (unI cs)).getD []).getD i false) 25 then
        bif (outG f cs (explD fun i => ((begR (unI cs)).getD []).getD i false) many 25).isSome then
          some (.tup [.sl (ints ((outG f cs (explD fun i => ((begR (unI cs)).getD []).getD i false) many 25).getD [])) ((outG f cs (explD fun i => ((begR (unI cs)).getD []).getD i false) many 25).getD []).length 1 false false, bD true, iD 0])
        else some (.tup [.sl [] 0 1 false true, bD false, iD 0])
      else none
    else some (.tup [nilS1, bD false, iD 1]) else none := by kernel_rfl

def sp26 : List DV → Tr DV
  | [.sl cs n 1 _ _, .int .i64 many] => .node (isI cs && Nat.beq cs.length n) (.node (rulerB (unI cs)) (.node (decide (many < 2)) (.leaf (.tup [nilS1, bD false, iD 1]))
      (.node (decide (7 < many)) (.leaf (.tup [nilS1, bD false, iD 1])) (.node (decide (many < (n : Int))) (.leaf (.tup [nilS1, bD false, iD 0])) (.node (extS many 25 8 (unI cs)).isSome
        (.leaf (.tup [.sl (ints ((extS many 25 8 (unI cs)).getD [])) ((extS many 25 8 (unI cs)).getD []).length 1 false false, bD true, iD 0])) (.leaf (.tup [.sl [] 0 1 false true, bD false, iD 0])))))) (.leaf (.tup [nilS1, bD false, iD 1]))) .fail
  | _ => .fail

theorem begR_beg {l : List Int} {ds : List Bool} (h : begR l = some ds) : Beg l ds := by
  unfold begR at h
  split at h
  · rename_i hc; exact ⟨hc.2.2, by omega, h⟩
  · cases h

theorem begS_mem : ∀ (r p : List Int) (ds : List Bool), (begS p r ds).isSome = true → (∀ x ∈ p, markOK x) → 0 ≤ lastI p → ∀ x ∈ p ++ r, markOK x
  | [], p, ds, h, hm, h0 => by simpa using hm
  | m :: r, p, ds, h, hm, h0 => by
    simp only [begS] at h
    split at h
    · cases h
    split at h
    · cases h
    cases ha : addS p m ds with
    | none => rw [ha] at h; cases h
    | some d1 =>
      rw [ha] at h
      have := begS_mem r (p ++ [m]) d1 h (by
        intro x hx
        rcases List.mem_append.1 hx with hx | hx
        · exact hm x hx
        · simp at hx; subst hx; exact ⟨by omega, by omega⟩) (by rw [lastI_append]; omega)
      simpa using this

theorem sp26_ok : ∀ ds d, (sp26 ds).val = some d → PureOK Try.prog 26 ds d := by
  intro ds d h
  unfold sp26 at h
  split at h
  · rename_i cs n c nl many
    simp only [Tr.val] at h
    obtain ⟨hg, h2⟩ := cond_none h
    clear h
    refine ae_pure (evG_ok 26) (fn := Try.f26) k26 (by kernel_rfl) (by kernel_rfl) (startF_done k26 done_plain ?_)
    rw [r26, hg, cond_true]
    simp only [Bool.and_eq_true] at hg
    obtain ⟨l, rfl⟩ := isI_iff.1 hg.1
    have hn := Nat.eq_of_beq_eq_true hg.2
    rw [len_ints] at hn
    subst hn
    rw [unI_ints] at h2 ⊢
    rw [← begR_ruler] at h2
    cases hb : begR l with
    | none => rw [hb] at h2; exact h2
    | some ds =>
      rw [hb] at h2
      simp only [Option.isSome_some, cond_true, Option.getD_some, explD_eq (begR_length hb)] at h2 ⊢
      by_cases c1 : many < 2
      · rw [cnd_pos c1] at h2 ⊢; exact h2
      rw [cnd_neg c1] at h2 ⊢
      by_cases c2 : 7 < many
      · rw [cnd_pos c2] at h2 ⊢; exact h2
      rw [cnd_neg c2] at h2 ⊢
      by_cases c3 : many < (l.length : Int)
      · rw [cnd_pos c3] at h2 ⊢; exact h2
      rw [cnd_neg c3] at h2 ⊢
      have hbeg := begR_beg hb
      have hlast := hbeg.last
      have hmem : ∀ x ∈ l, markOK x := by
        have := begS_mem l.tail [0] noDiffs (by rw [hbeg.2.2]; rfl) (by intro x hx; simp at hx; subst hx; exact ⟨by omega, by omega⟩) (by decide)
        rw [hbeg.cons] at this
        exact this
      have hok : okG 26 (ints l) l.length (bools ds) 25 = true := by
        have := hbeg.2.1
        simp only [okG, isI_ints, isB_bools, length_bools, unI_ints, begR_length hb, Nat.beq_refl, len_ints, Bool.true_and, Bool.and_eq_true, List.all_eq_true, okM_iff, Nat.blt_eq, decide_eq_true_eq]
        exact ⟨by omega, hmem, by omega, by omega, by omega, by omega⟩
      have hout : outG 26 (ints l) (bools ds) many 25 = extS many 25 8 l := by
        simp only [outG, unI_ints, unB_bools]
        exact grow_ext many 25 (by omega) (by omega) 8 26 l ds hbeg (by omega) (by omega) (by omega) (by have := hbeg.2.1; omega)
      rw [hok, hout, cond_true]
      exact h2
  · cases h
end Go.Proofs.Ytkcdbndpcabelaa

/- Chapter 02: the law on rulers, on data. -/
namespace Go.Proofs.Ytkcdbndpcabelaa
open Go Go.AE

def sp14 : List DV → Tr DV
  | [.sl cs n 1 _ _, .int .i64 most] => .node (isI cs && (Nat.beq cs.length n && (decide (0 ≤ most) && decide (most ≤ 1000)))) (.leaf (.sl (ints ((unI cs).take most.toNat)) (lenOf 1 (ints ((unI cs).take most.toNat)).length) 1 false (true && Nat.beq (ints ((unI cs).take most.toNat)).length 0))) .fail
  | _ => .fail
noncomputable def evR5 : Ev := (((((((Ev.nil.add 14 sp14).add 20 sp20).add 22 sp22).add 23 sp23).add 25 sp25).add 26 sp26).add 27 (sp27 8))
/-- A row as data. -/
noncomputable def rowX (c nl : Bool) (x : List Int) : DV := .sl (ints x) (lenOf 1 (ints x).length) 1 c nl
/-- A row that is built: in a block of its own, or data so far. -/
noncomputable def rowV (own : Bool) (x : List DV) : AV := bif own then .grow 0 1 false else .d (.sl x (lenOf 1 x.length) 1 true false)
noncomputable def rowH (own : Bool) (x : List DV) : List Blk := bif own then [.dc x] else []
noncomputable def s5 (c nl : Bool) (x : List Int) (many r : Int) : St := ⟨[(1, .d (iD many)), (5, .d (rowX c nl x)), (6, .d (iD r))], [], []⟩
noncomputable def t5 (c nl : Bool) (x : List Int) (many r : Int) (own : Bool) (nx : List DV) (i : Int) : St := ⟨[(1, .d (iD many)), (5, .d (rowX c nl x)), (6, .d (iD r)), (14, rowV own nx), (15, .d (iD i))], rowH own nx, []⟩
noncomputable def x5 (many r : Int) (own : Bool) (nx : List DV) : St := ⟨[(1, .d (iD many)), (6, .d (iD r)), (14, rowV own nx)], rowH own nx, []⟩

theorem k14 : OkSeg Try.f14 none [] := ⟨by kernel_rfl, by kernel_rfl, by decide⟩
theorem ints_take (l : List Int) (k : Nat) : (ints l).take k = ints (l.take k) := by simp [ints, List.map_take]

theorem r14 (cs : List DV) (n : Nat) (c nl : Bool) (most : Int) : startS aeC Ev.nil 14 0 Try.f14 none ⟨envOf 0 ([DV.sl cs n 1 c nl, iD most].map .d), [], []⟩ (doneE aeC Try.f14 0 fun v h => freezeV h 4 v) =
  bif nl || true then
    bif decide (0 ≤ if most < (n : Int) then most else (n : Int)) && decide ((if most < (n : Int) then most else (n : Int)) ≤ (n : Int)) then
      bif nl || true then
        bif Nat.ble (Int.toNat (if most < (n : Int) then most else (n : Int)) - 0) 1048576 then
          some (DV.sl (sub cs 0 ((Int.toNat (if most < (n : Int) then most else (n : Int)) - 0) * 1)) (lenOf 1 (List.length (sub cs 0 ((Int.toNat (if most < (n : Int) then most else (n : Int)) - 0) * 1)))) 1 false (true && Nat.beq (List.length (sub cs 0 ((Int.toNat (if most < (n : Int) then most else (n : Int)) - 0) * 1))) 0))
        else none
      else none
    else none
  else none := by kernel_rfl

theorem few_ok (l : List Int) (c nl : Bool) (most : Int) (h0 : 0 ≤ most) (hm : most ≤ 1000) :
    PureOK Try.prog 14 [.sl (ints l) l.length 1 c nl, iD most] (.sl (ints (l.take most.toNat)) (lenOf 1 (ints (l.take most.toNat)).length) 1 false (true && Nat.beq (ints (l.take most.toNat)).length 0)) := by
  refine ae_pure EvOK.nil (fn := Try.f14) k14 (by kernel_rfl) (by kernel_rfl) (startF_done k14 done_plain ?_)
  rw [r14]
  generalize hk : (if most < (l.length : Int) then most else (l.length : Int)) = k
  have h1 : 0 ≤ k ∧ k ≤ 1000 ∧ k ≤ l.length ∧ l.take k.toNat = l.take most.toNat := by
    split at hk
    · subst hk; exact ⟨h0, hm, by omega, rfl⟩
    · subst hk
      refine ⟨by omega, by omega, by omega, ?_⟩
      rw [List.take_of_length_le (by omega), List.take_of_length_le (by omega)]
  obtain ⟨g1, g2, g3, g4⟩ := h1
  rw [show sub (ints l) 0 ((k.toNat - 0) * 1) = ints (l.take most.toNat) by rw [← g4, ← ints_take]; simp [sub]]
  simp only [Bool.or_true, cond_true, decide_eq_true g1, decide_eq_true g3, Bool.and_self]
  rw [ble_pos (by omega)]

theorem sp14_ok : ∀ ds d, (sp14 ds).val = some d → PureOK Try.prog 14 ds d := by
  intro ds d h
  unfold sp14 at h
  split at h
  · rename_i cs n c nl most
    simp only [Tr.val] at h
    obtain ⟨hg, h2⟩ := cond_none h
    cases h2
    simp only [Bool.and_eq_true, decide_eq_true_eq] at hg
    obtain ⟨l, rfl⟩ := isI_iff.1 hg.1
    have hn := Nat.eq_of_beq_eq_true hg.2.1
    rw [len_ints] at hn
    subst hn
    rw [unI_ints]
    exact few_ok l c nl most hg.2.2.1 hg.2.2.2
  · cases h

theorem evR5_ok : EvOK Try.prog evR5 := EvOK.add (EvOK.add (EvOK.add (EvOK.add (EvOK.add (EvOK.add (EvOK.add EvOK.nil sp14_ok) sp20_ok) sp22_ok) sp23_ok) sp25_ok) sp26_ok) (sp27_ok 8).2

theorem k5 : OkSeg Try.f5 none [0] := ⟨by kernel_rfl, by kernel_rfl, by decide⟩
theorem k5_0 : OkSeg Try.f5 (some 0) [2] := ⟨by kernel_rfl, by kernel_rfl, by decide⟩
theorem k5_2 : OkSeg Try.f5 (some 2) [] := ⟨by kernel_rfl, by kernel_rfl, by decide⟩

theorem r5 (cs : List DV) (n : Nat) (c nl : Bool) (many : Int) : startS aeC evR5 5 0 Try.f5 none ⟨envOf 0 ([DV.sl cs n 1 c nl, iD many].map .d), [], []⟩ (heldD aeC 5 0) =
  bif isI cs && (Nat.beq (List.length cs) n && true) then
    bif true && Nat.beq (List.length (ints (List.take 9 (unI cs)))) 0 || true then
      some (0, ⟨[(1, .d (iD many)), (5, .d (DV.sl (ints (List.take 9 (unI cs))) (lenOf 1 (List.length (ints (List.take 9 (unI cs))))) 1 false (true && Nat.beq (List.length (ints (List.take 9 (unI cs)))) 0))), (6, .d (iD 0))], [], []⟩)
    else
      none
  else
    none := by kernel_rfl

theorem r5_0h (c nl : Bool) (x : List Int) (many r : Int) : startS aeC evR5 5 0 Try.f5 (some 0) (s5 c nl x many r) (heldD aeC 5 0) =
  bif decide (r < 2) then
    bif isI (ints x) && Nat.beq (List.length (ints x)) (lenOf 1 (List.length (ints x))) then
      bif isI (ints x) && Nat.beq (List.length (ints x)) (lenOf 1 (List.length (ints x))) then
        bif rulerB (unI (ints x)) then
          bif decide (many < 2) then
            bif isI (ints x) && (Nat.beq (List.length (ints x)) (lenOf 1 (List.length (ints x))) && Nat.blt (lenOf 1 (List.length (ints x))) 4611686018427387904) then
              bif !decide (rulerB (unI (ints x)) = rulerB (unI (ints x))) then
                none
              else
                bif !rulerB (unI (ints x)) then
                  some (2, ⟨[(1, .d (iD many)), (5, .d (DV.sl (ints x) (lenOf 1 (List.length (ints x))) 1 c nl)), (6, .d (iD r)), (14, .d (DV.sl [iD 0] 1 1 true false)), (15, .d (iD 0))], [], []⟩)
                else
                  bif decide (many < 2) then
                    some (2, ⟨[(1, .d (iD many)), (5, .d (DV.sl (ints x) (lenOf 1 (List.length (ints x))) 1 c nl)), (6, .d (iD r)), (14, .d (DV.sl [iD 0] 1 1 true false)), (15, .d (iD 0))], [], []⟩)
                  else
                    bif decide (7 < many) then
                      some (2, ⟨[(1, .d (iD many)), (5, .d (DV.sl (ints x) (lenOf 1 (List.length (ints x))) 1 c nl)), (6, .d (iD r)), (14, .d (DV.sl [iD 0] 1 1 true false)), (15, .d (iD 0))], [], []⟩)
                    else
                      bif extG 8 (ints x) (lenOf 1 (List.length (ints x))) nl many 25 then
                        bif Option.isSome (extS many 25 8 (unI (ints x))) then
                          none
                        else
                          none
                      else
                        none
            else
              none
          else
            bif decide (7 < many) then
              bif isI (ints x) && (Nat.beq (List.length (ints x)) (lenOf 1 (List.length (ints x))) && Nat.blt (lenOf 1 (List.length (ints x))) 4611686018427387904) then
                bif !decide (rulerB (unI (ints x)) = rulerB (unI (ints x))) then
                  none
                else
                  bif !rulerB (unI (ints x)) then
                    some (2, ⟨[(1, .d (iD many)), (5, .d (DV.sl (ints x) (lenOf 1 (List.length (ints x))) 1 c nl)), (6, .d (iD r)), (14, .d (DV.sl [iD 0] 1 1 true false)), (15, .d (iD 0))], [], []⟩)
                  else
                    bif decide (many < 2) then
                      some (2, ⟨[(1, .d (iD many)), (5, .d (DV.sl (ints x) (lenOf 1 (List.length (ints x))) 1 c nl)), (6, .d (iD r)), (14, .d (DV.sl [iD 0] 1 1 true false)), (15, .d (iD 0))], [], []⟩)
                    else
                      bif decide (7 < many) then
                        some (2, ⟨[(1, .d (iD many)), (5, .d (DV.sl (ints x) (lenOf 1 (List.length (ints x))) 1 c nl)), (6, .d (iD r)), (14, .d (DV.sl [iD 0] 1 1 true false)), (15, .d (iD 0))], [], []⟩)
                      else
                        bif extG 8 (ints x) (lenOf 1 (List.length (ints x))) nl many 25 then
                          bif Option.isSome (extS many 25 8 (unI (ints x))) then
                            none
                          else
                            none
                        else
                          none
              else
                none
            else
              bif decide (many < (↑(lenOf 1 (List.length (ints x))) : Int)) then
                bif isI (ints x) && (Nat.beq (List.length (ints x)) (lenOf 1 (List.length (ints x))) && Nat.blt (lenOf 1 (List.length (ints x))) 4611686018427387904) then
                  bif !decide (rulerB (unI (ints x)) = rulerB (unI (ints x))) then
                    none
                  else
                    bif !rulerB (unI (ints x)) then
                      none
                    else
                      bif decide (many < 2) then
                        none
                      else
                        bif decide (7 < many) then
                          none
                        else
                          bif extG 8 (ints x) (lenOf 1 (List.length (ints x))) nl many 25 then
                            bif Option.isSome (extS many 25 8 (unI (ints x))) then
                              none
                            else
                              some (2, ⟨[(1, .d (iD many)), (5, .d (DV.sl (ints x) (lenOf 1 (List.length (ints x))) 1 c nl)), (6, .d (iD r)), (14, .d (DV.sl [iD 0] 1 1 true false)), (15, .d (iD 0))], [], []⟩)
                          else
                            none
                else
                  none
              else
                bif Option.isSome (extS many 25 8 (unI (ints x))) then
                  bif isI (ints x) && (Nat.beq (List.length (ints x)) (lenOf 1 (List.length (ints x))) && Nat.blt (lenOf 1 (List.length (ints x))) 4611686018427387904) then
                    bif !decide (rulerB (unI (ints x)) = rulerB (unI (ints x))) then
                      none
                    else
                      bif !rulerB (unI (ints x)) then
                        none
                      else
                        bif decide (many < 2) then
                          none
                        else
                          bif decide (7 < many) then
                            none
                          else
                            bif extG 8 (ints x) (lenOf 1 (List.length (ints x))) nl many 25 then
                              bif Option.isSome (extS many 25 8 (unI (ints x))) then
                                bif isI (ints (Option.getD (extS many 25 8 (unI (ints x))) [])) && (isI (ints (Option.getD (extS many 25 8 (unI (ints x))) [])) && (Nat.beq (List.length (ints (Option.getD (extS many 25 8 (unI (ints x))) []))) (List.length (Option.getD (extS many 25 8 (unI (ints x))) [])) && (Nat.beq (List.length (ints (Option.getD (extS many 25 8 (unI (ints x))) []))) (List.length (Option.getD (extS many 25 8 (unI (ints x))) [])) && Nat.blt (List.length (Option.getD (extS many 25 8 (unI (ints x))) [])) 4611686018427387904))) then
                                  bif !decide (unI (ints (Option.getD (extS many 25 8 (unI (ints x))) [])) = unI (ints (Option.getD (extS many 25 8 (unI (ints x))) []))) then
                                    none
                                  else
                                    some (2, ⟨[(1, .d (iD many)), (5, .d (DV.sl (ints x) (lenOf 1 (List.length (ints x))) 1 c nl)), (6, .d (iD r)), (14, .d (DV.sl [iD 0] 1 1 true false)), (15, .d (iD 0))], [], []⟩)
                                else
                                  none
                              else
                                none
                            else
                              none
                  else
                    none
                else
                  bif isI (ints x) && (Nat.beq (List.length (ints x)) (lenOf 1 (List.length (ints x))) && Nat.blt (lenOf 1 (List.length (ints x))) 4611686018427387904) then
                    bif !decide (rulerB (unI (ints x)) = rulerB (unI (ints x))) then
                      none
                    else
                      bif !rulerB (unI (ints x)) then
                        none
                      else
                        bif decide (many < 2) then
                          none
                        else
                          bif decide (7 < many) then
                            none
                          else
                            bif extG 8 (ints x) (lenOf 1 (List.length (ints x))) nl many 25 then
                              bif Option.isSome (extS many 25 8 (unI (ints x))) then
                                none
                              else
                                some (2, ⟨[(1, .d (iD many)), (5, .d (DV.sl (ints x) (lenOf 1 (List.length (ints x))) 1 c nl)), (6, .d (iD r)), (14, .d (DV.sl [iD 0] 1 1 true false)), (15, .d (iD 0))], [], []⟩)
                            else
                              none
                  else
                    none
        else
          bif isI (ints x) && (Nat.beq (List.length (ints x)) (lenOf 1 (List.length (ints x))) && Nat.blt (lenOf 1 (List.length (ints x))) 4611686018427387904) then
            bif !decide (rulerB (unI (ints x)) = rulerB (unI (ints x))) then
              none
            else
              bif !rulerB (unI (ints x)) then
                some (2, ⟨[(1, .d (iD many)), (5, .d (DV.sl (ints x) (lenOf 1 (List.length (ints x))) 1 c nl)), (6, .d (iD r)), (14, .d (DV.sl [iD 0] 1 1 true false)), (15, .d (iD 0))], [], []⟩)
              else
                bif decide (many < 2) then
                  some (2, ⟨[(1, .d (iD many)), (5, .d (DV.sl (ints x) (lenOf 1 (List.length (ints x))) 1 c nl)), (6, .d (iD r)), (14, .d (DV.sl [iD 0] 1 1 true false)), (15, .d (iD 0))], [], []⟩)
                else
                  bif decide (7 < many) then
                    some (2, ⟨[(1, .d (iD many)), (5, .d (DV.sl (ints x) (lenOf 1 (List.length (ints x))) 1 c nl)), (6, .d (iD r)), (14, .d (DV.sl [iD 0] 1 1 true false)), (15, .d (iD 0))], [], []⟩)
                  else
                    bif extG 8 (ints x) (lenOf 1 (List.length (ints x))) nl many 25 then
                      bif Option.isSome (extS many 25 8 (unI (ints x))) then
                        none
                      else
                        none
                    else
                      none
          else
            none
      else
        none
    else
      none
  else
    none := by kernel_rfl

theorem r5_0x (c nl : Bool) (x : List Int) (many : Int) : startS aeC evR5 5 0 Try.f5 (some 0) (s5 c nl x many 2) (roundD aeC 5 0 0) =
  some (Ex.exit 0, ⟨[], [], []⟩) := by kernel_rfl

theorem r5_e  : nextS aeC evR5 5 0 Try.f5 none 0 (.exit 0) ⟨[], [], []⟩ (doneE aeC Try.f5 0 fun v h => freezeV h 4 v) =
  some (bD true) := by kernel_rfl

theorem r5_2 (c nl : Bool) (x : List Int) (many r : Int) (own : Bool) (nx : List DV) (i : Int) : startS aeC evR5 5 0 Try.f5 (some 2) (t5 c nl x many r own nx i) (roundD aeC 5 0 2) =
  bif decide (i < (lenOf 1 (List.length (ints x)) : Int)) then
    bif decide ((lenOf 1 (List.length nx) : Int) < 6) then
      bif Nat.ble (lenOf 1 (List.length nx)) 1048576 then
        bif inRange (IntKind.wrap IntKind.i64 ((lenOf 1 (List.length nx) : Int) - 1)) (lenOf 1 (List.length nx)) then
          getI (nth nx (Int.toNat (IntKind.wrap IntKind.i64 ((lenOf 1 (List.length nx) : Int) - 1)) * 1)) fun x0 =>
          bif inRange i (lenOf 1 (List.length (ints x))) then
            getI (nth (ints x) (Int.toNat i * 1)) fun x1 =>
            bif Nat.ble (lenOf 1 (List.length nx) + 1) 1048576 then
              bif isI (nx ++ [iD (IntKind.wrap IntKind.i64 (IntKind.wrap IntKind.i64 (x0 + 1) + IntKind.wrap IntKind.i64 (Int.tmod (IntKind.wrap IntKind.u64 x1) 7)))]) && (Nat.beq (List.length (nx ++ [iD (IntKind.wrap IntKind.i64 (IntKind.wrap IntKind.i64 (x0 + 1) + IntKind.wrap IntKind.i64 (Int.tmod (IntKind.wrap IntKind.u64 x1) 7)))])) (lenOf 1 (List.length (nx ++ [iD (IntKind.wrap IntKind.i64 (IntKind.wrap IntKind.i64 (x0 + 1) + IntKind.wrap IntKind.i64 (Int.tmod (IntKind.wrap IntKind.u64 x1) 7)))]))) && Nat.blt (lenOf 1 (List.length (nx ++ [iD (IntKind.wrap IntKind.i64 (IntKind.wrap IntKind.i64 (x0 + 1) + IntKind.wrap IntKind.i64 (Int.tmod (IntKind.wrap IntKind.u64 x1) 7)))]))) 4611686018427387904) then
                bif rulerB (unI (nx ++ [iD (IntKind.wrap IntKind.i64 (IntKind.wrap IntKind.i64 (x0 + 1) + IntKind.wrap IntKind.i64 (Int.tmod (IntKind.wrap IntKind.u64 x1) 7)))])) then
                  some (.norm, t5 c nl x many r true (nx ++ [iD (IntKind.wrap IntKind.i64 (IntKind.wrap IntKind.i64 (x0 + 1) + IntKind.wrap IntKind.i64 (Int.tmod (IntKind.wrap IntKind.u64 x1) 7)))]) (IntKind.wrap IntKind.i64 (i + 1)))
                else some (.norm, t5 c nl x many r own nx (IntKind.wrap IntKind.i64 (i + 1)))
              else none
            else none
          else none
        else none
      else none
    else some (.exit 2, x5 many r own nx)
  else some (.exit 2, x5 many r own nx) := by cases own <;> kernel_rfl

/-- What follows a row that was built. -/
theorem r5_x (many r : Int) (own : Bool) (nx : List Int) (h1 : 1 ≤ nx.length) (h2 : nx.length ≤ 6) (hr : 0 ≤ r ∧ r < 5) : ∃ c nl x many', x.length ≤ 9 ∧ (nl = true → x = []) ∧ nextS aeC evR5 5 0 Try.f5 (some 0) 2 (.exit 2) (x5 many r own (ints nx)) (roundD aeC 5 0 0) = some (.norm, s5 c nl x many' (r + 1)) := by
  have hrw : IntKind.wrap .i64 (r + 1) = r + 1 := wrap64 (by omega) (by omega)
  cases own with
  | true =>
    have key : nextS aeC evR5 5 0 Try.f5 (some 0) 2 (.exit 2) (x5 many r true (ints nx)) (roundD aeC 5 0 0) =
        bif decide ((lenOf 1 (List.length (ints nx)) : Int) < 2) then
          bif Nat.ble (lenOf 1 (List.length (ints nx)) + 1) 1048576 then
            some (.norm, ⟨[(1, .d (iD (IntKind.wrap .i64 (2 + IntKind.wrap .i64 (Int.tmod (IntKind.wrap .u64 many) 6))))), (5, .d (.sl (ints nx ++ [iD 1]) (lenOf 1 (ints nx ++ [iD 1]).length) 1 false (true && Nat.beq (List.length (ints nx ++ [iD 1])) 0))), (6, .d (iD (IntKind.wrap .i64 (r + 1))))], [], []⟩)
          else none
        else some (.norm, s5 false (true && Nat.beq (List.length (ints nx)) 0) nx (IntKind.wrap .i64 (2 + IntKind.wrap .i64 (Int.tmod (IntKind.wrap .u64 many) 6))) (IntKind.wrap .i64 (r + 1))) := by kernel_rfl
    by_cases hc : nx.length < 2
    · refine ⟨false, (true && Nat.beq (List.length (ints (nx ++ [1]))) 0), nx ++ [1], IntKind.wrap .i64 (2 + IntKind.wrap .i64 (Int.tmod (IntKind.wrap .u64 many) 6)), by simp; omega, ?_, key.trans ?_⟩
      · intro h; rw [Bool.true_and, len_ints] at h; have := Nat.eq_of_beq_eq_true h; simp at this
      · rw [cnd_pos (by rw [lenOf_1, len_ints]; omega), ble_pos (by rw [lenOf_1, len_ints]; omega), hrw, ints_app1]
        rfl
    · refine ⟨false, (true && Nat.beq (List.length (ints nx)) 0), nx, IntKind.wrap .i64 (2 + IntKind.wrap .i64 (Int.tmod (IntKind.wrap .u64 many) 6)), by omega, ?_, key.trans ?_⟩
      · intro h; rw [Bool.true_and, len_ints] at h; have := Nat.eq_of_beq_eq_true h; omega
      · rw [cnd_neg (by rw [lenOf_1, len_ints]; omega), hrw]
  | false =>
    have key : nextS aeC evR5 5 0 Try.f5 (some 0) 2 (.exit 2) (x5 many r false (ints nx)) (roundD aeC 5 0 0) =
        bif decide ((lenOf 1 (List.length (ints nx)) : Int) < 2) then
          bif Nat.ble (lenOf 1 (List.length (ints nx)) + 1) 1048576 then
            bif Nat.beq (lenOf 1 (List.length (ints nx))) 0 then some (.norm, ⟨[(1, .d (iD (IntKind.wrap .i64 (2 + IntKind.wrap .i64 (Int.tmod (IntKind.wrap .u64 many) 6))))), (5, .d (.sl [iD 1] 1 1 false false)), (6, .d (iD (IntKind.wrap .i64 (r + 1))))], [], []⟩) else
            some (.norm, ⟨[(1, .d (iD (IntKind.wrap .i64 (2 + IntKind.wrap .i64 (Int.tmod (IntKind.wrap .u64 many) 6))))), (5, .d (.sl (ints nx ++ [iD 1]) (lenOf 1 (ints nx ++ [iD 1]).length) 1 false (false && Nat.beq (List.length (ints nx ++ [iD 1])) 0))), (6, .d (iD (IntKind.wrap .i64 (r + 1))))], [], []⟩)
          else none
        else some (.norm, s5 true false nx (IntKind.wrap .i64 (2 + IntKind.wrap .i64 (Int.tmod (IntKind.wrap .u64 many) 6))) (IntKind.wrap .i64 (r + 1))) := by
      kernel_rfl
    by_cases hc : nx.length < 2
    · have hne : Nat.beq (lenOf 1 (List.length (ints nx))) 0 = false := by
        rw [lenOf_1, len_ints]
        cases h : Nat.beq nx.length 0 with
        | false => rfl
        | true => have := Nat.eq_of_beq_eq_true h; omega
      refine ⟨false, false, nx ++ [1], IntKind.wrap .i64 (2 + IntKind.wrap .i64 (Int.tmod (IntKind.wrap .u64 many) 6)), by simp; omega, by simp, key.trans ?_⟩
      rw [cnd_pos (by rw [lenOf_1, len_ints]; omega), ble_pos (by rw [lenOf_1, len_ints]; omega), hne, hrw, ints_app1]
      rfl
    · refine ⟨true, false, nx, IntKind.wrap .i64 (2 + IntKind.wrap .i64 (Int.tmod (IntKind.wrap .u64 many) 6)), by omega, by simp, key.trans ?_⟩
      rw [cnd_neg (by rw [lenOf_1, len_ints]; omega), hrw]

theorem l5_2 (c nl : Bool) (x : List Int) (many r : Int) (hx : x.length ≤ 9) : ∀ (k i : Nat) (own : Bool) (nx : List Int), i + k = x.length → 1 ≤ nx.length → nx.length ≤ 6 →
    ∃ own' nx', 1 ≤ nx'.length ∧ nx'.length ≤ 6 ∧ LoopAt aeC evR5 5 0 Try.f5 2 (t5 c nl x many r own (ints nx) i) (.exit 2) (x5 many r own' (ints nx'))
  | 0, i, own, nx, hk, h1, h2 => by
    refine ⟨own, nx, h1, h2, .out k5_2 (by simp) ((r5_2 ..).trans ?_)⟩
    simp (disch := omega) only [cnd_pos, cnd_neg, inR_pos, ble_pos, blt_pos, beq_pos, cond_and, cond_or, Bool.cond_not, cond_true, cond_false, Bool.and_true, Bool.true_and, getI_some, getB_some, nth_ints_o, nth_bools_o, wrap64_o, len_ints, len_bools, lenOf_1, Int.toNat_natCast, Nat.mul_one, Nat.zero_add, setNth_bools_o, setNth_ints_o, len_set_i, len_set_b, Option.bind_some, List.length_append, List.length_cons, List.length_nil, unI_ints, unB_bools, ints_app1, bools_app1]
  | k + 1, i, own, nx, hk, h1, h2 => by
    have res := r5_2 c nl x many r own (ints nx) i
    revert res
    simp (disch := omega) only [cnd_pos, cnd_neg, inR_pos, ble_pos, blt_pos, beq_pos, cond_and, cond_or, Bool.cond_not, cond_true, cond_false, Bool.and_true, Bool.true_and, getI_some, getB_some, nth_ints_o, nth_bools_o, wrap64_o, len_ints, len_bools, lenOf_1, Int.toNat_natCast, Nat.mul_one, Nat.zero_add, setNth_bools_o, setNth_ints_o, len_set_i, len_set_b, Option.bind_some, List.length_append, List.length_cons, List.length_nil, unI_ints, unB_bools, ints_app1, bools_app1, Bool.and_true]
    intro res
    by_cases h6 : (nx.length : Int) < 6
    · rw [cnd_pos h6] at res
      revert res
      simp (disch := omega) only [cnd_pos, cnd_neg, inR_pos, ble_pos, blt_pos, beq_pos, cond_and, cond_or, Bool.cond_not, cond_true, cond_false, Bool.and_true, Bool.true_and, getI_some, getB_some, nth_ints_o, nth_bools_o, wrap64_o, len_ints, len_bools, lenOf_1, Int.toNat_natCast, Nat.mul_one, Nat.zero_add, setNth_bools_o, setNth_ints_o, len_set_i, len_set_b, Option.bind_some, List.length_append, List.length_cons, List.length_nil, unI_ints, unB_bools, ints_app1, bools_app1, isI_ints, Nat.beq_refl]
      generalize IntKind.wrap IntKind.i64 (IntKind.wrap IntKind.i64 (nx.getD ((nx.length : Int) - 1).toNat 0 + 1) + IntKind.wrap IntKind.i64 (Int.tmod (IntKind.wrap IntKind.u64 (x.getD i 0)) 7)) = v
      intro res
      cases hr : rulerB (nx ++ [v]) with
      | true =>
        rw [hr, cond_true] at res
        obtain ⟨o', n', q1, q2, q3⟩ := l5_2 c nl x many r hx k (i + 1) true (nx ++ [v]) (by omega) (by simp) (by simp; omega)
        exact ⟨o', n', q1, q2, .next k5_2 res q3⟩
      | false =>
        rw [hr, cond_false] at res
        obtain ⟨o', n', q1, q2, q3⟩ := l5_2 c nl x many r hx k (i + 1) own nx (by omega) h1 h2
        exact ⟨o', n', q1, q2, .next k5_2 res q3⟩
    · rw [cnd_neg h6] at res
      exact ⟨own, nx, h1, h2, .out k5_2 (by simp) res⟩

theorem head5 (c nl : Bool) (x : List Int) (many r : Int) (hx : x.length ≤ 9) (hnl : nl = true → x = []) (hr : r < 2) : startS aeC evR5 5 0 Try.f5 (some 0) (s5 c nl x many r) (heldD aeC 5 0) = some (2, t5 c nl x many r false (ints [0]) (0 : Nat)) := by
  rw [r5_0h]
  have hb : (isI (ints x) && (Nat.beq (List.length (ints x)) (lenOf 1 (List.length (ints x))) && Nat.blt (lenOf 1 (List.length (ints x))) 4611686018427387904)) = true := by
    rw [isI_ints, lenOf_1, Nat.beq_refl, len_ints, show Nat.blt x.length 4611686018427387904 = true by rw [Nat.blt_eq]; omega]; rfl
  have hb2 : (isI (ints x) && Nat.beq (List.length (ints x)) (lenOf 1 (List.length (ints x)))) = true := by rw [isI_ints, lenOf_1, Nat.beq_refl]; rfl
  have hsame : decide (rulerB x = rulerB x) = true := decide_eq_true rfl
  rw [cnd_pos hr]
  simp only [hb, hb2, unI_ints, hsame, cond_true, Bool.not_true, cond_false]
  cases hru : rulerB x with
  | false => rfl
  | true =>
    have h2 : 2 ≤ x.length ∧ x.length ≤ 7 ∧ x.getD 0 0 = 0 := by
      simp only [rulerB, Bool.and_eq_true, decide_eq_true_eq] at hru
      exact ⟨hru.1, hru.2.1, hru.2.2.1⟩
    simp only [cond_true, Bool.not_true, cond_false]
    by_cases c1 : many < 2
    · simp only [cnd_pos c1]; rfl
    by_cases c2 : 7 < many
    · simp only [cnd_neg c1, cnd_pos c2]; rfl
    have hnl' : nl = false := by
      cases nl with
      | false => rfl
      | true => rw [hnl rfl] at h2; simp at h2
    have hg : extG 8 (ints x) (lenOf 1 (List.length (ints x))) nl many 25 = true := isP_iff.2 ⟨by omega, hnl', isI_ints _, rfl, by rw [lenOf_1, len_ints]; omega, by rw [lenOf_1, len_ints]; omega, by omega, by omega, by rw [unI_ints]; exact h2.2.2, by rw [lenOf_1, len_ints]; omega⟩
    simp only [cnd_neg c1, cnd_neg c2, hg, cond_true]
    by_cases c3 : many < (lenOf 1 (List.length (ints x)) : Int)
    · have he : extS many 25 8 x = none := by simp only [extS]; rw [lenOf_1, len_ints] at c3; rw [if_pos c3]
      simp only [cnd_pos c3, he, Option.isSome_none, cond_false]; rfl
    · simp only [cnd_neg c3]
      cases he : extS many 25 8 x with
      | none => rfl
      | some o =>
        have ho := (extS_some _ _ _ _ _ he).1
        have hb3 : (isI (ints o) && (isI (ints o) && (Nat.beq (ints o).length o.length && (Nat.beq (ints o).length o.length && Nat.blt o.length 4611686018427387904)))) = true := by
          rw [isI_ints, len_ints, Nat.beq_refl, show Nat.blt o.length 4611686018427387904 = true by rw [Nat.blt_eq]; omega]; rfl
        simp only [Option.isSome_some, cond_true, Option.getD_some, hb3, unI_ints, decide_true, Bool.not_true, cond_false]; rfl

theorem l5 : ∀ (k : Nat) (c nl : Bool) (x : List Int) (many : Int), k ≤ 2 → x.length ≤ 9 → (nl = true → x = []) → LoopAt aeC evR5 5 0 Try.f5 0 (s5 c nl x many (2 - (k : Int))) (.exit 0) ⟨[], [], []⟩
  | 0, c, nl, x, many, hk, hx, hnl => .out k5_0 (by simp) (r5_0x c nl x many)
  | k + 1, c, nl, x, many, hk, hx, hnl => by
    obtain ⟨own, nx, h1, h2, h3⟩ := l5_2 c nl x many (2 - ((k + 1 : Nat) : Int)) hx x.length 0 false [0] (by omega) (by simp) (by simp)
    obtain ⟨c', nl', x', many', g1, g2, g3⟩ := r5_x many (2 - ((k + 1 : Nat) : Int)) own nx h1 h2 (by omega)
    refine .nextF k5_0 ((startF_seg k5_0 (head5 c nl x many _ hx hnl (by omega)) h3).trans (nextF_done k5_0 roundD_plain g3)) ?_
    rw [show 2 - ((k + 1 : Nat) : Int) + 1 = 2 - (k : Int) by omega]
    exact l5 k c' nl' x' many' (by omega) g1 g2

theorem law5 (l : List Int) (c nl : Bool) (many : Int) : PureOK Try.prog 5 [.sl (ints l) l.length 1 c nl, iD many] (bD true) := by
  refine ae_pure evR5_ok (fn := Try.f5) k5 (by kernel_rfl) (by kernel_rfl) ?_
  have h0 := r5 (ints l) l.length c nl many
  have hb : (isI (ints l) && (Nat.beq (ints l).length l.length && true)) = true := by rw [isI_ints, len_ints, Nat.beq_refl]; rfl
  rw [hb, unI_ints, Bool.or_true, cond_true, cond_true] at h0
  exact startF_one k5 done_plain h0 (l5 2 false (true && Nat.beq (ints (l.take 9)).length 0) (l.take 9) many (by omega) (by rw [List.length_take]; omega) (by
    intro h
    rw [Bool.true_and, len_ints] at h
    exact List.length_eq_zero_iff.1 (Nat.eq_of_beq_eq_true h))) r5_e
end Go.Proofs.Ytkcdbndpcabelaa
