/- Part 6 of what the law stands on: the abstract machine over the model, and what the functions answer. No condition. -/
import Derived.Test.YtkcdbndpcabelaaM5
set_option linter.unusedSimpArgs false
set_option linter.unusedVariables false

/- Chapter 02: a graph is made of any numbers. -/
namespace Go.Proofs.Ytkcdbndpcabelaa
open Go Go.AE

theorem k13 : OkSeg Try.f13 none [0] := ⟨by kernel_rfl, by kernel_rfl, by decide⟩
theorem k13_0 : OkSeg Try.f13 (some 0) [2] := ⟨by kernel_rfl, by kernel_rfl, by decide⟩
theorem k13_2 : OkSeg Try.f13 (some 2) [4] := ⟨by kernel_rfl, by kernel_rfl, by decide⟩
theorem k13_4 : OkSeg Try.f13 (some 4) [] := ⟨by kernel_rfl, by kernel_rfl, by decide⟩

noncomputable def s13 (n : Int) (E : List (Int × Int)) (c nl : Bool) (most : Int) (out : List DV) (a : Int) : St := ⟨[(0, .d (iD n)), (1, .d (edgX E c nl)), (2, .d (iD most)), (8, AV.grow 0 2 false), (9, .d (iD a))], [.dc out], []⟩
noncomputable def t13 (n : Int) (E : List (Int × Int)) (c nl : Bool) (most : Int) (out : List DV) (a b : Int) : St := ⟨[(0, .d (iD n)), (1, .d (edgX E c nl)), (2, .d (iD most)), (8, AV.grow 0 2 false), (9, .d (iD a)), (10, .d (iD b))], [.dc out], []⟩
noncomputable def u13 (n : Int) (E : List (Int × Int)) (c nl : Bool) (most : Int) (out : List DV) (a b i : Int) : St := ⟨[(0, .d (iD n)), (1, .d (edgX E c nl)), (2, .d (iD most)), (8, AV.grow 0 2 false), (9, .d (iD a)), (10, .d (iD b)), (11, .d (iD i))], [.dc out], []⟩
noncomputable def x13 (n : Int) (out : List DV) : St := ⟨[(0, .d (iD n)), (8, AV.grow 0 2 false)], [.dc out], []⟩

theorem r13 (n : Int) (E : List (Int × Int)) (c nl : Bool) (most : Int) : startS aeC Ev.nil 13 0 Try.f13 none ⟨envOf 0 ([iD n, edgX E c nl, iD most].map .d), [], []⟩ (heldD aeC 13 0) =
  some (0, ⟨[(0, .d (iD (IntKind.wrap IntKind.i64 (2 + IntKind.wrap IntKind.i64 (Int.tmod (IntKind.wrap IntKind.u64 n) 6))))), (1, .d (DV.sl (edD E) (List.length E) 2 c nl)), (2, .d (iD most)), (8, AV.grow 0 2 false), (9, .d (iD 0))], [.dc []], []⟩) := by kernel_rfl

theorem r13_0 (n : Int) (E : List (Int × Int)) (c nl : Bool) (most : Int) (out : List DV) (a : Int) : startS aeC Ev.nil 13 0 Try.f13 (some 0) (s13 n E c nl most out a) (heldD aeC 13 0) =
  bif decide (a < n) then
    some (2, ⟨[(0, .d (iD n)), (1, .d (DV.sl (edD E) (List.length E) 2 c nl)), (2, .d (iD most)), (8, AV.grow 0 2 false), (9, .d (iD a)), (10, .d (iD (IntKind.wrap IntKind.i64 (a + 1))))], [.dc out], []⟩)
  else
    none := by kernel_rfl

theorem r13_0x (n : Int) (E : List (Int × Int)) (c nl : Bool) (most : Int) (out : List DV) (a : Int) : startS aeC Ev.nil 13 0 Try.f13 (some 0) (s13 n E c nl most out a) (roundD aeC 13 0 0) =
  bif decide (a < n) then
    none
  else
    some (Ex.exit 0, ⟨[(0, .d (iD n)), (8, AV.grow 0 2 false)], [.dc out], []⟩) := by kernel_rfl

theorem r13_0n (n : Int) (E : List (Int × Int)) (c nl : Bool) (most : Int) (out : List DV) (a : Int) : nextS aeC Ev.nil 13 0 Try.f13 (some 0) 2 (.exit 2) (s13 n E c nl most out a) (roundD aeC 13 0 0) =
  some (Ex.norm, ⟨[(0, .d (iD n)), (1, .d (DV.sl (edD E) (List.length E) 2 c nl)), (2, .d (iD most)), (8, AV.grow 0 2 false), (9, .d (iD (IntKind.wrap IntKind.i64 (a + 1))))], [.dc out], []⟩) := by kernel_rfl

theorem r13_2 (n : Int) (E : List (Int × Int)) (c nl : Bool) (most : Int) (out : List DV) (a b : Int) : startS aeC Ev.nil 13 0 Try.f13 (some 2) (t13 n E c nl most out a b) (heldD aeC 13 0) =
  bif decide (b < n) then
    some (4, ⟨[(0, .d (iD n)), (1, .d (DV.sl (edD E) (List.length E) 2 c nl)), (2, .d (iD most)), (8, AV.grow 0 2 false), (9, .d (iD a)), (10, .d (iD b)), (11, .d (iD 0))], [.dc out], []⟩)
  else
    none := by kernel_rfl

theorem r13_2x (n : Int) (E : List (Int × Int)) (c nl : Bool) (most : Int) (out : List DV) (a b : Int) : startS aeC Ev.nil 13 0 Try.f13 (some 2) (t13 n E c nl most out a b) (roundD aeC 13 0 2) =
  bif decide (b < n) then
    none
  else
    some (Ex.exit 2, ⟨[(0, .d (iD n)), (1, .d (DV.sl (edD E) (List.length E) 2 c nl)), (2, .d (iD most)), (8, AV.grow 0 2 false), (9, .d (iD a))], [.dc out], []⟩) := by kernel_rfl

theorem r13_2n (n : Int) (E : List (Int × Int)) (c nl : Bool) (most : Int) (out : List DV) (a b : Int) : nextS aeC Ev.nil 13 0 Try.f13 (some 2) 4 (.exit 4) (t13 n E c nl most out a b) (roundD aeC 13 0 2) =
  some (Ex.norm, ⟨[(0, .d (iD n)), (1, .d (DV.sl (edD E) (List.length E) 2 c nl)), (2, .d (iD most)), (8, AV.grow 0 2 false), (9, .d (iD a)), (10, .d (iD (IntKind.wrap IntKind.i64 (b + 1))))], [.dc out], []⟩) := by kernel_rfl

theorem r13_4 (n : Int) (E : List (Int × Int)) (c nl : Bool) (most : Int) (out : List DV) (a b i : Int) : startS aeC Ev.nil 13 0 Try.f13 (some 4) (u13 n E c nl most out a b i) (roundD aeC 13 0 4) =
  bif decide (i < (↑(List.length E) : Int)) then
    bif decide ((↑(lenOf 2 (List.length out)) : Int) < most) then
      bif inRange i (List.length E) then
        getI (nth (edD E) (Int.toNat i * 2 + 0)) fun x0 =>
        bif decide (IntKind.wrap IntKind.u64 n = 0) then
          none
        else
          bif inRange i (List.length E) then
            getI (nth (edD E) (Int.toNat i * 2 + 1)) fun x1 =>
            bif decide (IntKind.wrap IntKind.u64 n = 0) then
              none
            else
              bif decide ((if IntKind.wrap IntKind.i64 (Int.tmod (IntKind.wrap IntKind.u64 x1) (IntKind.wrap IntKind.u64 n)) < IntKind.wrap IntKind.i64 (Int.tmod (IntKind.wrap IntKind.u64 x0) (IntKind.wrap IntKind.u64 n)) then IntKind.wrap IntKind.i64 (Int.tmod (IntKind.wrap IntKind.u64 x1) (IntKind.wrap IntKind.u64 n)) else IntKind.wrap IntKind.i64 (Int.tmod (IntKind.wrap IntKind.u64 x0) (IntKind.wrap IntKind.u64 n))) = a) then
                bif decide ((if IntKind.wrap IntKind.i64 (Int.tmod (IntKind.wrap IntKind.u64 x1) (IntKind.wrap IntKind.u64 n)) > IntKind.wrap IntKind.i64 (Int.tmod (IntKind.wrap IntKind.u64 x0) (IntKind.wrap IntKind.u64 n)) then IntKind.wrap IntKind.i64 (Int.tmod (IntKind.wrap IntKind.u64 x1) (IntKind.wrap IntKind.u64 n)) else IntKind.wrap IntKind.i64 (Int.tmod (IntKind.wrap IntKind.u64 x0) (IntKind.wrap IntKind.u64 n))) = b) then
                  bif Nat.ble (lenOf 2 (List.length out) + 1) 1048576 then
                    some (Ex.exit 4, ⟨[(0, .d (iD n)), (1, .d (DV.sl (edD E) (List.length E) 2 c nl)), (2, .d (iD most)), (8, AV.grow 0 2 false), (9, .d (iD a)), (10, .d (iD b))], [.dc (out ++ [iD a, iD b])], []⟩)
                  else
                    none
                else
                  some (Ex.norm, ⟨[(0, .d (iD n)), (1, .d (DV.sl (edD E) (List.length E) 2 c nl)), (2, .d (iD most)), (8, AV.grow 0 2 false), (9, .d (iD a)), (10, .d (iD b)), (11, .d (iD (IntKind.wrap IntKind.i64 (i + 1))))], [.dc out], []⟩)
              else
                some (Ex.norm, ⟨[(0, .d (iD n)), (1, .d (DV.sl (edD E) (List.length E) 2 c nl)), (2, .d (iD most)), (8, AV.grow 0 2 false), (9, .d (iD a)), (10, .d (iD b)), (11, .d (iD (IntKind.wrap IntKind.i64 (i + 1))))], [.dc out], []⟩)
          else
            none
      else
        none
    else
      some (Ex.exit 4, ⟨[(0, .d (iD n)), (1, .d (DV.sl (edD E) (List.length E) 2 c nl)), (2, .d (iD most)), (8, AV.grow 0 2 false), (9, .d (iD a)), (10, .d (iD b))], [.dc out], []⟩)
  else
    some (Ex.exit 4, ⟨[(0, .d (iD n)), (1, .d (DV.sl (edD E) (List.length E) 2 c nl)), (2, .d (iD most)), (8, AV.grow 0 2 false), (9, .d (iD a)), (10, .d (iD b))], [.dc out], []⟩) := by kernel_rfl

theorem r13_x (n : Int) (out : List DV) : nextS aeC Ev.nil 13 0 Try.f13 none 0 (.exit 0) (x13 n out) (doneE aeC Try.f13 0 fun v h => freezeV h 4 v) =
  bif decide ((↑(lenOf 2 (List.length out)) : Int) = 0) then
    bif Nat.ble (lenOf 2 (List.length out) + 1) 1048576 then
      some (DV.tup [iD n, DV.sl (out ++ [iD 0, iD 1]) (lenOf 2 (List.length (out ++ [iD 0, iD 1]))) 2 false (true && Nat.beq (List.length (out ++ [iD 0, iD 1])) 0)])
    else
      none
  else
    some (DV.tup [iD n, DV.sl out (lenOf 2 (List.length out)) 2 false (true && Nat.beq (List.length out) 0)]) := by kernel_rfl

theorem edD_snoc : ∀ (E : List (Int × Int)) (a b : Int), edD (E ++ [(a, b)]) = edD E ++ [iD a, iD b]
  | [], a, b => rfl
  | e :: r, a, b => by show iD e.1 :: iD e.2 :: edD (r ++ [(a, b)]) = _; rw [edD_snoc r a b]; rfl
theorem lenOf_ed (E : List (Int × Int)) : lenOf 2 (edD E).length = E.length := by
  rw [len_prs]; show E.length * 2 / 2 = E.length; omega
theorem wrapu {n : Int} (h1 : 0 ≤ n) (h2 : n < 18446744073709551616) : IntKind.wrap .u64 n = n := by
  rw [wrapU_eq]; omega

/-- What has been made so far: all of it ahead of the edge from a to b. -/
def Made (n a b : Int) (out : List (Int × Int)) : Prop := openL n none out = true ∧ out.length ≤ 10 ∧ ∀ e ∈ out, e.1 < a ∨ (e.1 = a ∧ e.2 < b)

theorem openL_snoc {n a b : Int} (h0 : 0 ≤ a) (hab : a < b) (hbn : b < n) : ∀ (out : List (Int × Int)) (p : Option (Int × Int)), openL n p out = true → (∀ e ∈ out, e.1 < a ∨ (e.1 = a ∧ e.2 < b)) →
    (∀ q, p = some q → q.1 < a ∨ (q.1 = a ∧ q.2 < b)) → openL n p (out ++ [(a, b)]) = true
  | [], p, _, _, hp => by
    simp only [List.nil_append, openL, Bool.and_true, Bool.and_eq_true, Bool.not_eq_true', decide_eq_false_iff_not]
    refine ⟨by omega, by omega, by omega, ?_⟩
    cases p with
    | none => rfl
    | some q =>
      have := hp q rfl
      simp only [Bool.not_eq_true', decide_eq_false_iff_not]
      unfold cmp2 cmpI
      rcases this with h | ⟨h1, h2⟩
      · rw [if_pos h]; simp
      · subst h1; simp [h2]
  | e :: r, p, h, he, hp => by
    simp only [List.cons_append, openL, Bool.and_eq_true] at h ⊢
    exact ⟨h.1, h.2.1, h.2.2.1, h.2.2.2.1, openL_snoc h0 hab hbn r (some e) h.2.2.2.2 (fun x hx => he x (List.mem_cons_of_mem _ hx)) (by intro q hq; cases hq; exact he e (List.mem_cons_self ..))⟩

theorem l13_4 (n : Int) (E : List (Int × Int)) (c nl : Bool) (a b : Int) (hn : 2 ≤ n ∧ n ≤ 7) (hE : E.length < 9223372036854775808) (out : List (Int × Int)) (ho : out.length ≤ 10) : ∀ (r : List (Int × Int)) (i : Nat), i ≤ E.length → E.drop i = r →
    ∃ out', (out' = out ∨ (out' = out ++ [(a, b)] ∧ out.length < 10)) ∧ LoopAt aeC Ev.nil 13 0 Try.f13 4 (u13 n E c nl 10 (edD out) a b i) (.exit 4) (t13 n E c nl 10 (edD out') a b)
  | [], i, hi, hr => by
    have h1 := drop_nil_o hr
    refine ⟨out, .inl rfl, .out k13_4 (by simp) ((r13_4 ..).trans ?_)⟩
    rw [cnd_neg (by omega)]; rfl
  | d :: r, i, hi, hr => by
    obtain ⟨h1, h2, h3⟩ := drop_cons_o (d := (0, 0)) hr
    have res := r13_4 n E c nl 10 (edD out) a b i
    rw [cnd_pos (by omega), lenOf_ed] at res
    by_cases c1 : (out.length : Int) < 10
    · rw [cnd_pos c1] at res
      revert res
      simp (disch := omega) only [cnd_pos, cnd_neg, inR_pos, ble_pos, blt_pos, beq_pos, cond_and, cond_or, Bool.cond_not, cond_true, cond_false, Bool.and_true, Bool.true_and, getI_some, getB_some, nth_ints_o, nth_bools_o, wrap64_o, len_ints, len_bools, lenOf_1, Int.toNat_natCast, Nat.mul_one, Nat.zero_add, setNth_bools_o, setNth_ints_o, len_set_i, len_set_b, Option.bind_some, List.length_append, List.length_cons, List.length_nil, unI_ints, unB_bools, ints_app1, bools_app1, nth_pr1, nth_pr2, len_prs, abs_if, Nat.add_zero, cond_same, wrapu, wrap64_o, ← edD_snoc]
      generalize (if IntKind.wrap IntKind.i64 (Int.tmod (IntKind.wrap IntKind.u64 (E.getD i (0, 0)).2) n) < IntKind.wrap IntKind.i64 (Int.tmod (IntKind.wrap IntKind.u64 (E.getD i (0, 0)).1) n) then IntKind.wrap IntKind.i64 (Int.tmod (IntKind.wrap IntKind.u64 (E.getD i (0, 0)).2) n) else IntKind.wrap IntKind.i64 (Int.tmod (IntKind.wrap IntKind.u64 (E.getD i (0, 0)).1) n)) = u
      generalize (if IntKind.wrap IntKind.i64 (Int.tmod (IntKind.wrap IntKind.u64 (E.getD i (0, 0)).2) n) > IntKind.wrap IntKind.i64 (Int.tmod (IntKind.wrap IntKind.u64 (E.getD i (0, 0)).1) n) then IntKind.wrap IntKind.i64 (Int.tmod (IntKind.wrap IntKind.u64 (E.getD i (0, 0)).2) n) else IntKind.wrap IntKind.i64 (Int.tmod (IntKind.wrap IntKind.u64 (E.getD i (0, 0)).1) n)) = v
      intro res
      obtain ⟨o', q1, q2⟩ := l13_4 n E c nl a b hn hE out ho r (i + 1) h1 h3
      by_cases c2 : u = a
      · rw [cnd_pos c2] at res
        by_cases c3 : v = b
        · rw [cnd_pos c3] at res
          exact ⟨out ++ [(a, b)], .inr ⟨rfl, by omega⟩, .out k13_4 (by simp) res⟩
        · rw [cnd_neg c3] at res
          exact ⟨o', q1, .next k13_4 res q2⟩
      · rw [cnd_neg c2] at res
        exact ⟨o', q1, .next k13_4 res q2⟩
    · rw [cnd_neg c1] at res
      exact ⟨out, .inl rfl, .out k13_4 (by simp) res⟩

theorem l13_2 (n : Int) (E : List (Int × Int)) (c nl : Bool) (a : Int) (hn : 2 ≤ n ∧ n ≤ 7) (ha : 0 ≤ a) (hE : E.length < 9223372036854775808) : ∀ (k : Nat) (out : List (Int × Int)), (k : Int) + a < n → Made n a (n - k) out →
    ∃ out', Made n a n out' ∧ LoopAt aeC Ev.nil 13 0 Try.f13 2 (t13 n E c nl 10 (edD out) a (n - k)) (.exit 2) (s13 n E c nl 10 (edD out') a)
  | 0, out, hk, hm => by
    refine ⟨out, by simpa using hm, .out k13_2 (by simp) ((r13_2x ..).trans ?_)⟩
    rw [cnd_neg (by omega)]; rfl
  | k + 1, out, hk, hm => by
    have h0 := r13_2 n E c nl 10 (edD out) a (n - (k + 1 : Nat))
    rw [cnd_pos (by omega)] at h0
    obtain ⟨o1, q1, q2⟩ := l13_4 n E c nl a (n - (k + 1 : Nat)) hn hE out hm.2.1 E 0 (by omega) rfl
    have hm1 : Made n a (n - k) o1 := by
      rcases q1 with rfl | ⟨rfl, hl⟩
      · exact ⟨hm.1, hm.2.1, fun e he => by have := hm.2.2 e he; omega⟩
      · refine ⟨openL_snoc ha (by omega) (by omega) out none hm.1 hm.2.2 (by intro q hq; cases hq), by simp; omega, fun e he => ?_⟩
        rcases List.mem_append.1 he with he | he
        · have := hm.2.2 e he; omega
        · simp only [List.mem_singleton] at he
          subst he
          exact .inr ⟨rfl, by show n - ((k + 1 : Nat) : Int) < n - k; omega⟩
    obtain ⟨o2, q3, q4⟩ := l13_2 n E c nl a hn ha hE k o1 (by omega) hm1
    refine ⟨o2, q3, .nextF k13_2 ((startF_seg k13_2 h0 q2).trans (nextF_done k13_2 roundD_plain (r13_2n ..))) ?_⟩
    rw [wrap64 (by omega) (by omega), show n - (k + 1 : Nat) + 1 = n - (k : Int) by omega]
    exact q4

theorem l13_0 (n : Int) (E : List (Int × Int)) (c nl : Bool) (hn : 2 ≤ n ∧ n ≤ 7) (hE : E.length < 9223372036854775808) : ∀ (k : Nat) (out : List (Int × Int)), (k : Int) ≤ n → Made n (n - k) (n - k + 1) out →
    ∃ out', openL n none out' = true ∧ out'.length ≤ 10 ∧ LoopAt aeC Ev.nil 13 0 Try.f13 0 (s13 n E c nl 10 (edD out) (n - k)) (.exit 0) (x13 n (edD out'))
  | 0, out, hk, hm => by
    refine ⟨out, hm.1, hm.2.1, .out k13_0 (by simp) ((r13_0x ..).trans ?_)⟩
    rw [cnd_neg (by omega)]; rfl
  | k + 1, out, hk, hm => by
    have h0 := r13_0 n E c nl 10 (edD out) (n - (k + 1 : Nat))
    rw [cnd_pos (by omega), wrap64 (by omega) (by omega), show n - (k + 1 : Nat) + 1 = n - (k : Int) by omega] at h0
    rw [show n - (k + 1 : Nat) + 1 = n - (k : Int) by omega] at hm
    obtain ⟨o1, q1, q2⟩ := l13_2 n E c nl (n - (k + 1 : Nat)) hn (by omega) hE k out (by omega) hm
    obtain ⟨o2, q3, q4, q5⟩ := l13_0 n E c nl hn hE k o1 (by omega) ⟨q1.1, q1.2.1, fun e he => by have := q1.2.2 e he; omega⟩
    refine ⟨o2, q3, q4, .nextF k13_0 ((startF_seg k13_0 h0 q2).trans (nextF_done k13_0 roundD_plain (r13_0n ..))) ?_⟩
    rw [wrap64 (by omega) (by omega), show n - (k + 1 : Nat) + 1 = n - (k : Int) by omega]
    exact q5

/-- A graph is made of any numbers. -/
theorem tame_ok (n : Int) (E : List (Int × Int)) (c nl : Bool) (hE : E.length < 9223372036854775808) : ∃ (m : Int) (F : List (Int × Int)), openS m F = 0 ∧ PureOK Try.prog 13 [iD n, edgX E c nl, iD 10] (.tup [iD m, .sl (edD F) F.length 2 false false]) := by
  have hm : 2 ≤ IntKind.wrap .i64 (2 + IntKind.wrap .i64 (Int.tmod (IntKind.wrap .u64 n) 6)) ∧ IntKind.wrap .i64 (2 + IntKind.wrap .i64 (Int.tmod (IntKind.wrap .u64 n) 6)) ≤ 7 := by
    have h0 : 0 ≤ IntKind.wrap .u64 n := by rw [wrapU_eq]; omega
    have h1 : Int.tmod (IntKind.wrap .u64 n) 6 = (IntKind.wrap .u64 n) % 6 := Int.tmod_eq_emod_of_nonneg h0
    have h2 : 0 ≤ (IntKind.wrap .u64 n) % 6 ∧ (IntKind.wrap .u64 n) % 6 < 6 := by omega
    rw [h1, wrap64 (n := IntKind.wrap .u64 n % 6) (by omega) (by omega), wrap64 (by omega) (by omega)]
    omega
  have h0 := r13 n E c nl 10
  revert h0 hm
  generalize IntKind.wrap .i64 (2 + IntKind.wrap .i64 (Int.tmod (IntKind.wrap .u64 n) 6)) = m
  intro hm h0
  obtain ⟨o, q1, q2, q3⟩ := l13_0 m E c nl hm hE m.toNat [] (by omega) ⟨rfl, by simp, by intro e he; cases he⟩
  rw [show m - (m.toNat : Int) = 0 by omega] at q3
  have hb : ∀ d, nextS aeC Ev.nil 13 0 Try.f13 none 0 (.exit 0) (x13 m (edD o)) (doneE aeC Try.f13 0 fun v h => freezeV h 4 v) = some d → PureOK Try.prog 13 [iD n, edgX E c nl, iD 10] d :=
    fun d h => ae_pure EvOK.nil (fn := Try.f13) k13 (by kernel_rfl) (by kernel_rfl) (startF_one k13 done_plain h0 q3 h)
  have hx := r13_x m (edD o)
  rw [lenOf_ed] at hx
  by_cases he : o.length = 0
  · rw [cnd_pos (by omega), ble_pos (by omega), ← edD_snoc, lenOf_ed] at hx
    have : o = [] := List.length_eq_zero_iff.1 he
    subst this
    refine ⟨m, [(0, 1)], ?_, hb _ hx⟩
    unfold openS
    rw [if_neg (by omega), if_neg (by simp)]
    simp only [openL]
    have : ¬ (m ≤ 1) := by omega
    simp [this]
  · rw [cnd_neg (by omega)] at hx
    refine ⟨m, o, ?_, hb _ (hx.trans ?_)⟩
    · unfold openS
      rw [if_neg (by omega), if_neg (by omega), if_pos q1]
    · have : Nat.beq (edD o).length 0 = false := by
        rw [len_prs]
        cases h : Nat.beq (o.length * 2) 0 with
        | false => rfl
        | true => have := Nat.eq_of_beq_eq_true h; omega
      rw [this]; rfl
end Go.Proofs.Ytkcdbndpcabelaa

/- Chapter 02: the program's walk through labels finds what the document's search finds. -/
namespace Go.Proofs.Ytkcdbndpcabelaa
open Go Go.AE

/-! ### Differences -/
/-- The edges below a node. -/
def below (k : Nat) (E : List (Int × Int)) : List (Int × Int) := E.filter fun e => decide (e.2 < k)
/-- The edges that come to a node from below. -/
def atN (k : Nat) (E : List (Int × Int)) : List (Int × Int) := E.filter fun e => decide (e.2 = k)

theorem upTo_perm (k : Nat) : ∀ E : List (Int × Int), (upTo k E).Perm (below k E ++ atN k E)
  | [] => .nil
  | e :: r => by
    have ih := upTo_perm k r
    unfold upTo below atN at *
    rcases Int.lt_trichotomy e.2 k with h | h | h
    · rw [List.filter_cons_of_pos (by simp; omega), List.filter_cons_of_pos (by simp; omega), List.filter_cons_of_neg (by simp; omega)]
      exact ih.cons e
    · rw [List.filter_cons_of_pos (by simp; omega), List.filter_cons_of_neg (by simp; omega), List.filter_cons_of_pos (by simp; omega)]
      exact (ih.cons e).trans List.perm_middle.symm
    · rw [List.filter_cons_of_neg (by simp; omega), List.filter_cons_of_neg (by simp; omega), List.filter_cons_of_neg (by simp; omega)]
      exact ih

/-- The differences of labels so far. -/
def difS (E : List (Int × Int)) (l : List Int) : List Nat := (below l.length E).map (dlt l)

theorem dist_comm (a b : Int) : dist a b = dist b a := by unfold dist; omega

theorem dlt_snoc {n : Nat} {E : List (Int × Int)} {l : List Int} {x : Int} (hE : EdOK n E) {e : Int × Int} (he : e ∈ below l.length E) : dlt (l ++ [x]) e = dlt l e := by
  unfold below at he
  simp only [List.mem_filter, decide_eq_true_eq] at he
  have := hE e he.1
  unfold dlt
  rw [labAt_snoc (by omega) he.2, labAt_snoc (by omega) (by omega)]

theorem dlt_le {m : Nat} {l : List Int} (hl : LabOK m l) {e : Int × Int} (h0 : 0 ≤ e.1) (h1 : e.1 < e.2) (h2 : e.2 < l.length) : dlt l e ≤ m := by
  have ha := hl.at h0 (show e.1 < l.length by omega)
  have hb := hl.at (show 0 ≤ e.2 by omega) h2
  unfold dlt dist; omega

theorem atN_mem {k : Nat} {E : List (Int × Int)} {e : Int × Int} (h : e ∈ atN k E) : e ∈ E ∧ e.2 = k := by
  unfold atN at h
  simpa only [List.mem_filter, decide_eq_true_eq] using h

theorem rep_false (n d : Nat) : (List.replicate n false).getD d false = false := by
  rw [List.getD_eq_getElem?_getD, List.getElem?_replicate]
  split <;> rfl

/-- Labels so far, with what is taken. -/
structure Cons (g : Gr) (l : List Int) (used diffs : List Bool) : Prop where
  lab : LabOK g.E.length l
  len : l.length ≤ g.n
  ulen : used.length = 26
  dlen : diffs.length = 26
  use : ∀ v : Nat, used.getD v false = decide ((v : Int) ∈ l)
  nodup : (difS g.E l).Nodup
  dif : ∀ d : Nat, diffs.getD d false = decide (d ∈ difS g.E l)
  distinct : l.Nodup

theorem edgeS_chk (labs : List Int) (node : Nat) (v : Int) : ∀ (E : List (Int × Int)) (ds : List Bool), edgeS labs node v E ds = chkD ((atN node E).map fun e => dist (labAt labs e.1) v) ds
  | [], ds => rfl
  | e :: r, ds => by
    unfold atN
    simp only [edgeS]
    by_cases h : e.2 = node
    · rw [if_pos h, List.filter_cons_of_pos (by simpa using h), List.map_cons, chkD]
      have hb : (ds[dist (labAt labs e.1) v]? = some true) ↔ (ds.getD (dist (labAt labs e.1) v) false = true) := by
        rw [List.getD_eq_getElem?_getD]
        cases ds[dist (labAt labs e.1) v]? <;> simp
      simp only [hb]
      split
      · rfl
      · exact edgeS_chk labs node v r _
    · rw [if_neg h, List.filter_cons_of_neg (by simpa using h)]
      exact edgeS_chk labs node v r ds

theorem take_labAt {labs l : List Int} {k : Nat} (h : labs.take k = l) {a : Int} (h0 : 0 ≤ a) (h1 : a < k) : labAt labs a = labAt l a := by
  unfold labAt
  rw [← h, getD_take_o (by omega)]

/-- A label's fitting: by the walk, and by the document. -/
theorem fits_walk (g : Gr) (hg : GrOK g) (l labs : List Int) (used diffs : List Bool) (hc : Cons g l used diffs) (hlt : l.length < g.n) (hl : labs.take l.length = l) (v : Nat) (hv : v ≤ g.E.length) :
    (used.getD v false = true → fitsB g.E l v = false) ∧ (used.getD v false = false → (edgeS labs l.length v g.E diffs).isSome = fitsB g.E l v ∧ ∀ now, edgeS labs l.length v g.E diffs = some now → Cons g (l ++ [(v : Int)]) (used.set v true) now) := by
  obtain ⟨g1, g2, g3, g4, g5⟩ := hg
  have hE : EdOK g.n g.E := g5
  have hlab' : LabOK g.E.length (l ++ [(v : Int)]) := hc.lab.snoc (by omega) (by omega)
  have hmem : (List.contains l (v : Int) = true) ↔ (v : Int) ∈ l := by simp
  refine ⟨fun hu => ?_, fun hu => ?_⟩
  · rw [hc.use] at hu
    have : List.contains l (v : Int) = true := hmem.2 (by simpa using hu)
    unfold fitsB
    rw [this]; simp
  · rw [hc.use] at hu
    have hnot : ¬ (v : Int) ∈ l := by simpa using hu
    have hcon : List.contains l (v : Int) = false := by
      cases h : List.contains l (v : Int) with
      | false => rfl
      | true => exact absurd (hmem.1 h) hnot
    have hnew : ((atN l.length g.E).map fun e => dist (labAt labs e.1) v) = (atN l.length g.E).map (dlt (l ++ [(v : Int)])) := by
      apply List.map_congr_left
      intro e he
      obtain ⟨h1, h2⟩ := atN_mem he
      have := hE e h1
      unfold dlt
      rw [labAt_last h2, labAt_snoc this.1 (by omega), take_labAt hl this.1 (by omega), dist_comm]
    have hold : (below l.length g.E).map (dlt (l ++ [(v : Int)])) = difS g.E l := List.map_congr_left fun e he => dlt_snoc hE he
    have bnd : ∀ d ∈ (atN l.length g.E).map (dlt (l ++ [(v : Int)])), d ≤ 10 := by
      intro d hd
      obtain ⟨e, he, rfl⟩ := List.mem_map.1 hd
      obtain ⟨h1, h2⟩ := atN_mem he
      have := hE e h1
      have := dlt_le hlab' this.1 this.2.1 (by simp; omega)
      omega
    have bnd2 : ∀ d ∈ (upTo l.length g.E).map (dlt (l ++ [(v : Int)])), d < (List.replicate 11 false).length := by
      intro d hd
      obtain ⟨e, he, rfl⟩ := List.mem_map.1 hd
      unfold upTo at he
      simp only [List.mem_filter, decide_eq_true_eq] at he
      have := hE e he.1
      have := dlt_le hlab' this.1 this.2.1 (by simp; omega)
      simp; omega
    have i1 := chkD_iff ((atN l.length g.E).map (dlt (l ++ [(v : Int)]))) diffs (by intro d hd; have := bnd d hd; rw [hc.dlen]; omega)
    have i2 := chkD_iff ((upTo l.length g.E).map (dlt (l ++ [(v : Int)]))) (List.replicate 11 false) bnd2
    have hperm : ((upTo l.length g.E).map (dlt (l ++ [(v : Int)]))).Perm (difS g.E l ++ (atN l.length g.E).map (dlt (l ++ [(v : Int)]))) := by
      have := (upTo_perm l.length g.E).map (dlt (l ++ [(v : Int)]))
      rw [List.map_append, hold] at this
      exact this
    have both : (chkD ((atN l.length g.E).map (dlt (l ++ [(v : Int)]))) diffs).isSome = true ↔ (chkD ((upTo l.length g.E).map (dlt (l ++ [(v : Int)]))) (List.replicate 11 false)).isSome = true := by
      rw [i1, i2, hperm.nodup_iff, List.nodup_append]
      constructor
      · rintro ⟨h1, h2⟩
        refine ⟨⟨hc.nodup, h1, ?_⟩, fun d _ => rep_false _ d⟩
        intro a ha b hb hab
        subst hab
        have := h2 a hb
        rw [hc.dif] at this
        simp only [decide_eq_false_iff_not] at this
        exact this ha
      · rintro ⟨⟨_, h1, h2⟩, _⟩
        refine ⟨h1, fun d hd => ?_⟩
        rw [hc.dif]
        simp only [decide_eq_false_iff_not]
        intro hm
        exact h2 d hm d hd rfl
    rw [edgeS_chk, hnew]
    constructor
    · unfold fitsB
      rw [hcon, Bool.not_false, Bool.and_true]
      exact Bool.eq_iff_iff.2 both
    · intro now hnow
      have hsome : (chkD ((atN l.length g.E).map (dlt (l ++ [(v : Int)]))) diffs).isSome = true := by rw [hnow]; rfl
      have hmet := chkD_met _ _ _ (by intro d hd; have := bnd d hd; rw [hc.dlen]; omega) hnow
      have h2 := (i2.1 (both.1 hsome)).1
      have hbel : below (l ++ [(v : Int)]).length g.E = upTo l.length g.E := by
        unfold below upTo
        apply List.filter_congr
        intro e _
        simp only [List.length_append, List.length_cons, List.length_nil, decide_eq_decide]
        omega
      have hdif : difS g.E (l ++ [(v : Int)]) = (upTo l.length g.E).map (dlt (l ++ [(v : Int)])) := by unfold difS; rw [hbel]
      refine ⟨hlab', by simp; omega, by simpa using hc.ulen, by rw [chkD_len hnow, hc.dlen], ?_, by rw [hdif]; exact h2, ?_, ?_⟩
      · intro u
        rw [getD_set_b (by rw [hc.ulen]; omega), hc.use]
        split
        · rename_i h; subst h; simp
        · rename_i h
          have : ¬ ((u : Int) = v) := by omega
          simp [this]
      · intro d
        rw [hmet, hc.dif, hdif, ← Bool.decide_or, decide_eq_decide, hperm.mem_iff, List.mem_append]
      · rw [List.nodup_append]
        refine ⟨hc.distinct, by simp, ?_⟩
        intro a ha b hb hab
        simp at hb
        subst hab hb
        exact hnot ha

/-! ### By which number labels part -/
theorem partF_low (labs : List Int) (k : Int) : ∀ (E : List (Int × Int)) (low high : Int), (partF labs E low high).1 ≤ k ↔ low ≤ k ∧ ∀ e ∈ E, min (labAt labs e.1) (labAt labs e.2) ≤ k
  | [], low, high => by simp [partF]
  | e :: r, low, high => by
    rw [partF, partF_low labs k r, List.forall_mem_cons]
    constructor
    · rintro ⟨h1, h2⟩; exact ⟨by omega, by omega, h2⟩
    · rintro ⟨h1, h2, h3⟩; exact ⟨by omega, h3⟩
theorem partF_high (labs : List Int) (k : Int) : ∀ (E : List (Int × Int)) (low high : Int), k < (partF labs E low high).2 ↔ k < high ∧ ∀ e ∈ E, k < max (labAt labs e.1) (labAt labs e.2)
  | [], low, high => by simp [partF]
  | e :: r, low, high => by
    rw [partF, partF_high labs k r, List.forall_mem_cons]
    constructor
    · rintro ⟨h1, h2⟩; exact ⟨by omega, by omega, h2⟩
    · rintro ⟨h1, h2, h3⟩; exact ⟨by omega, h3⟩

theorem splitE_iff (l : List Int) (k : Int) (e : Int × Int) : splitE l k e = true ↔ min (labAt l e.1) (labAt l e.2) ≤ k ∧ k < max (labAt l e.1) (labAt l e.2) := by
  unfold splitE
  rw [Bool.not_eq_true', decide_eq_false_iff_not, decide_eq_decide]
  omega

theorem split_all (l : List Int) (E : List (Int × Int)) (k : Int) (h0 : 0 ≤ k) (h1 : k < 25) : E.all (splitE l k) = true ↔ (partF l E (-1) 25).1 ≤ k ∧ k < (partF l E (-1) 25).2 := by
  rw [partF_low, partF_high, List.all_eq_true]
  constructor
  · intro h
    exact ⟨⟨by omega, fun e he => ((splitE_iff l k e).1 (h e he)).1⟩, h1, fun e he => ((splitE_iff l k e).1 (h e he)).2⟩
  · rintro ⟨⟨_, h2⟩, _, h3⟩ e he
    exact (splitE_iff l k e).2 ⟨h2 e he, h3 e he⟩

theorem partL_iff (E : List (Int × Int)) (l : List Int) : ∀ j : Nat, j ≤ E.length → ((partL E l j).isSome = true ↔ ∃ k : Int, (E.length : Int) - j ≤ k ∧ k < E.length ∧ E.all (splitE l k) = true)
  | 0, hj => by
    simp only [partL]
    constructor
    · intro h; cases h
    · rintro ⟨k, h1, h2, _⟩; omega
  | j + 1, hj => by
    simp only [partL]
    split
    · rename_i h
      exact ⟨fun _ => ⟨_, Int.le_refl _, by omega, h⟩, fun _ => rfl⟩
    · rename_i h
      rw [partL_iff E l j (by omega)]
      constructor
      · rintro ⟨k, h1, h2, h3⟩; exact ⟨k, by omega, h2, h3⟩
      · rintro ⟨k, h1, h2, h3⟩
        refine ⟨k, ?_, h2, h3⟩
        rcases Int.lt_or_eq_of_le h1 with q | q
        · omega
        · rw [← q] at h3; exact absurd h3 h

/-- The least number by which labels part is the program's. -/
theorem parts_same (E : List (Int × Int)) (l : List Int) (hE : EdOK l.length E) (hl : LabOK E.length l) (h1 : 1 ≤ E.length) (h10 : E.length ≤ 10) : (0 ≤ partS l E) ↔ (partL E l E.length).isSome = true := by
  rw [partL_iff E l E.length (Nat.le_refl _)]
  obtain ⟨e, he⟩ : ∃ e, e ∈ E := ⟨E[0], List.getElem_mem (by omega)⟩
  have hee := hE e he
  have hla := hl.at hee.1 (show e.1 < l.length by omega)
  have hlb := hl.at (show 0 ≤ e.2 by omega) hee.2.2
  have hlow : 0 ≤ (partF l E (-1) 25).1 := by
    by_cases h : (partF l E (-1) 25).1 < 0
    · have := ((partF_low l (-1) E (-1) 25).1 (by omega)).2 e he
      omega
    · omega
  have hhigh : (partF l E (-1) 25).2 ≤ E.length := by
    by_cases h : (E.length : Int) < (partF l E (-1) 25).2
    · have := ((partF_high l E.length E (-1) 25).1 h).2 e he
      omega
    · omega
  unfold partS
  constructor
  · intro h
    split at h
    · omega
    · rename_i hc
      exact ⟨(partF l E (-1) 25).1, by omega, by omega, (split_all l E _ hlow (by omega)).2 ⟨Int.le_refl _, by omega⟩⟩
  · rintro ⟨k, k1, k2, k3⟩
    have := (split_all l E k (by omega) (by omega)).1 k3
    rw [if_neg (by omega)]
    exact hlow

/-! ### Graceful -/
theorem newS_iff {m : Nat} : ∀ (r p : List Int), newS m p r = true ↔ LabOK m r ∧ r.Nodup ∧ ∀ x ∈ r, x ∉ p
  | [], p => by simp [newS, LabOK]
  | y :: r, p => by
    simp only [newS, Bool.and_eq_true, decide_eq_true_eq, Bool.not_eq_true', newS_iff r, List.nodup_cons]
    unfold LabOK
    simp only [List.forall_mem_cons]
    constructor
    · rintro ⟨h1, h2, h3, h4, h5, h6⟩
      refine ⟨⟨⟨h1, h2⟩, h4⟩, ⟨fun h => ?_, h5⟩, by simpa using h3, fun x hx h => h6 x hx (List.mem_append_left _ h)⟩
      exact h6 y h (by simp)
    · rintro ⟨⟨⟨h1, h2⟩, h4⟩, ⟨h7, h5⟩, h3, h6⟩
      refine ⟨h1, h2, by simpa using h3, h4, h5, fun x hx h => ?_⟩
      rcases List.mem_append.1 h with h | h
      · exact h6 x hx h
      · simp at h; subst h; exact h7 hx

theorem below_all {n : Nat} {E : List (Int × Int)} (hE : EdOK n E) : below n E = E := by
  unfold below
  rw [List.filter_eq_self]
  intro e he
  have := hE e he
  simp; omega

theorem Cons.graceful {g : Gr} (hg : GrOK g) {l : List Int} {used diffs : List Bool} (hc : Cons g l used diffs) (hl : l.length = g.n) : gracB g.n g.E l = true := by
  obtain ⟨g1, g2, g3, g4, g5⟩ := hg
  have hE : EdOK g.n g.E := g5
  unfold gracB
  rw [decide_eq_true (by omega), Bool.true_and, (newS_iff l []).2 ⟨hc.lab, hc.distinct, by simp⟩, Bool.true_and]
  have hd := hc.nodup
  unfold difS at hd
  rw [hl, below_all hE] at hd
  refine (chkD_iff _ _ ?_).2 ⟨hd, fun d _ => rep_false _ d⟩
  intro d hd
  obtain ⟨e, he, rfl⟩ := List.mem_map.1 hd
  have := hE e he
  have := dlt_le hc.lab this.1 this.2.1 (by omega)
  simp; omega

/-! ### The walk is the search -/
/-- What the walk comes to, and what the search comes to. -/
def RelF (p : List Int × Out) (r : Option (List Int) × Int) : Prop := match p.2 with
  | .off o => r = (some o, 1)
  | .on a => a = 0 ∧ r = (none, 0)

/-- The walk's labels. -/
def LabsOK (g : Gr) (l labs : List Int) : Prop := labs.length = g.n ∧ LabOK g.E.length labs ∧ labs.take l.length = l

def partW : Who → Bool
  | .part => true
  | _ => false

theorem take_snoc {labs l : List Int} {v : Int} (h : labs.take (l.length + 1) = l ++ [v]) : labs.take l.length = l := by
  have := congrArg (List.take l.length) h
  rw [List.take_take, Nat.min_eq_left (by omega)] at this
  simpa using this

theorem set_take {labs l : List Int} {v : Int} {n : Nat} (h : labs.take l.length = l) (hl : labs.length = n) (hlt : l.length < n) : (labs.set l.length v).take (l.length + 1) = l ++ [v] := by
  rw [List.take_add_one, List.take_set, h, List.set_eq_of_length_le (by omega)]
  simp [hl, hlt]

theorem scan_first (g : Gr) (hg : GrOK g) (next : List Int → List Bool → List Bool → Int → List Int × Out) (srch : List Int → Option (List Int) × Int) (l : List Int) (used diffs : List Bool) (hc : Cons g l used diffs) (hlt : l.length < g.n)
    (hnext : ∀ v labs used diffs, Cons g (l ++ [v]) used diffs → LabsOK g (l ++ [v]) labs → RelF (next labs used diffs 0) (srch (l ++ [v])) ∧ LabsOK g (l ++ [v]) (next labs used diffs 0).1) :
    ∀ (k : Nat) (labs : List Int), k ≤ g.E.length + 1 → LabsOK g l labs → RelF (scanW next g.E l.length used diffs k labs 0) (loopX srch g.E l true k none 0) ∧ LabsOK g l (scanW next g.E l.length used diffs k labs 0).1
  | 0, labs, hk, hL => ⟨⟨rfl, rfl⟩, hL⟩
  | k + 1, labs, hk, hL => by
    have hv : g.E.length - k ≤ g.E.length := by omega
    have hcast : (g.E.length : Int) - k = ((g.E.length - k : Nat) : Int) := by omega
    obtain ⟨f1, f2⟩ := fits_walk g hg l labs used diffs hc hlt hL.2.2 (g.E.length - k) hv
    have ih := scan_first g hg next srch l used diffs hc hlt hnext k
    simp only [scanW, loopX]
    rw [hcast]
    have hb : (used[g.E.length - k]? = some true) ↔ (used.getD (g.E.length - k) false = true) := by
      rw [List.getD_eq_getElem?_getD]
      cases used[g.E.length - k]? <;> simp
    by_cases hu : used.getD (g.E.length - k) false = true
    · rw [if_pos (hb.2 hu), if_neg (by rw [f1 hu]; simp)]
      exact ih labs (by omega) hL
    · have hu' : used.getD (g.E.length - k) false = false := by simpa using hu
      rw [if_neg (fun h => hu (hb.1 h))]
      obtain ⟨q1, q2⟩ := f2 hu'
      cases he : edgeS labs l.length (g.E.length - k : Nat) g.E diffs with
      | none =>
        rw [he] at q1
        rw [if_neg (by rw [← q1]; simp)]
        exact ih labs (by omega) hL
      | some now =>
        rw [he] at q1
        have q1' : fitsB g.E l ((g.E.length - k : Nat) : Int) = true := by rw [← q1]; rfl
        rw [if_pos q1']
        dsimp only
        have hc' := q2 now he
        have hL' : LabsOK g (l ++ [((g.E.length - k : Nat) : Int)]) (labs.set l.length ((g.E.length - k : Nat) : Int)) := by
          refine ⟨by simpa using hL.1, ?_, by simpa using set_take hL.2.2 hL.1 hlt⟩
          intro x hx
          rcases List.mem_or_eq_of_mem_set hx with hx | rfl
          · exact hL.2.1 x hx
          · omega
        obtain ⟨n1, n2⟩ := hnext _ _ _ _ hc' hL'
        have n3 : LabsOK g l (next (labs.set l.length ((g.E.length - k : Nat) : Int)) (used.set (g.E.length - k) true) now 0).1 := ⟨n2.1, n2.2.1, take_snoc (by simpa using n2.2.2)⟩
        revert n1 n3
        generalize next (labs.set l.length ((g.E.length - k : Nat) : Int)) (used.set (g.E.length - k) true) now 0 = p
        intro n1 n3
        obtain ⟨labs', o⟩ := p
        cases o with
        | on a =>
          obtain ⟨rfl, e2⟩ := n1
          simp only [e2]
          rw [if_neg (by simp)]
          exact ih labs' (by omega) n3
        | off o =>
          have e2 : srch (l ++ [((g.E.length - k : Nat) : Int)]) = (some o, 1) := n1
          simp only [e2]
          rw [if_pos (by simp)]
          exact ⟨rfl, n3⟩

theorem walk_first (g : Gr) (hg : GrOK g) (w : Who) (hw : w ≠ .count) : ∀ (f : Nat) (l labs : List Int) (used diffs : List Bool), f + l.length = g.n → Cons g l used diffs → LabsOK g l labs →
    RelF (putS w g f labs used diffs 0) (srS g.n g.E (partW w) true f l) ∧ LabsOK g l (putS w g f labs used diffs 0).1
  | 0, l, labs, used, diffs, hf, hc, hL => by
    have hl : labs = l := by have := hL.2.2; rw [List.take_of_length_le (by rw [hL.1]; omega)] at this; exact this
    subst hl
    have hgr := hc.graceful hg hL.1
    refine ⟨?_, hL⟩
    simp only [putS, srS, hgr, true_and]
    cases w with
    | count => exact absurd rfl hw
    | label => simp [partW, yieldS, RelF]
    | part =>
      have hp := parts_same g.E labs (by rw [hL.1]; exact hg.2.2.2.2) hc.lab hg.2.2.1 hg.2.2.2.1
      simp only [partW, yieldS, Bool.true_eq_false, or_false]
      by_cases h : 0 ≤ partS labs g.E
      · rw [if_pos h, if_pos (hp.1 h)]; rfl
      · rw [if_neg h, if_neg (fun q => h (hp.2 q))]; exact ⟨rfl, rfl⟩
  | f + 1, l, labs, used, diffs, hf, hc, hL => by
    have hnode : g.n - (f + 1) = l.length := by omega
    simp only [putS, srS]
    rw [hnode]
    refine scan_first g hg (putS w g f) (srS g.n g.E (partW w) true f) l used diffs hc (by omega) ?_ _ labs (Nat.le_refl _) hL
    intro v labs used diffs hc hL
    exact walk_first g hg w hw f (l ++ [v]) labs used diffs (by simp; omega) hc hL

theorem scan_count (g : Gr) (hg : GrOK g) (next : List Int → List Bool → List Bool → Int → List Int × Out) (srch : List Int → Option (List Int) × Int) (B M : Int) (hB : 0 ≤ B) (l : List Int) (used diffs : List Bool) (hc : Cons g l used diffs) (hlt : l.length < g.n)
    (hs : ∀ x, 0 ≤ (srch x).2 ∧ (srch x).2 ≤ B)
    (hnext : ∀ v labs used diffs acc, Cons g (l ++ [v]) used diffs → LabsOK g (l ++ [v]) labs → 0 ≤ acc → acc + B ≤ M → (next labs used diffs acc).2 = .on (acc + (srch (l ++ [v])).2) ∧ LabsOK g (l ++ [v]) (next labs used diffs acc).1) :
    ∀ (k : Nat) (labs : List Int) (acc : Int) (best : Option (List Int)) (many : Int), k ≤ g.E.length + 1 → LabsOK g l labs → 0 ≤ acc → acc + k * B ≤ M → (scanW next g.E l.length used diffs k labs acc).2 = .on (acc + ((loopX srch g.E l false k best many).2 - many)) ∧ LabsOK g l (scanW next g.E l.length used diffs k labs acc).1
  | 0, labs, acc, best, many, hk, hL, ha, hb => by simp only [scanW, loopX]; exact ⟨by congr 1; omega, hL⟩
  | k + 1, labs, acc, best, many, hk, hL, ha, hb => by
    have hv : g.E.length - k ≤ g.E.length := by omega
    have hcast : (g.E.length : Int) - k = ((g.E.length - k : Nat) : Int) := by omega
    have hkB : ((k + 1 : Nat) : Int) * B = k * B + B := by rw [Int.natCast_add, Int.add_mul]; simp
    have hk0 : 0 ≤ (k : Int) * B := Int.mul_nonneg (by omega) hB
    obtain ⟨f1, f2⟩ := fits_walk g hg l labs used diffs hc hlt hL.2.2 (g.E.length - k) hv
    have ih := scan_count g hg next srch B M hB l used diffs hc hlt hs hnext k
    simp only [scanW, loopX]
    rw [hcast]
    have hbb : (used[g.E.length - k]? = some true) ↔ (used.getD (g.E.length - k) false = true) := by
      rw [List.getD_eq_getElem?_getD]
      cases used[g.E.length - k]? <;> simp
    by_cases hu : used.getD (g.E.length - k) false = true
    · rw [if_pos (hbb.2 hu), if_neg (by rw [f1 hu]; simp)]
      exact ih labs acc best many (by omega) hL ha (by omega)
    · have hu' : used.getD (g.E.length - k) false = false := by simpa using hu
      rw [if_neg (fun h => hu (hbb.1 h))]
      obtain ⟨q1, q2⟩ := f2 hu'
      cases he : edgeS labs l.length (g.E.length - k : Nat) g.E diffs with
      | none =>
        rw [he] at q1
        rw [if_neg (by rw [← q1]; simp)]
        exact ih labs acc best many (by omega) hL ha (by omega)
      | some now =>
        rw [he] at q1
        have q1' : fitsB g.E l ((g.E.length - k : Nat) : Int) = true := by rw [← q1]; rfl
        rw [if_pos q1', if_neg (by simp)]
        dsimp only
        have hc' := q2 now he
        have hL' : LabsOK g (l ++ [((g.E.length - k : Nat) : Int)]) (labs.set l.length ((g.E.length - k : Nat) : Int)) := by
          refine ⟨by simpa using hL.1, ?_, by simpa using set_take hL.2.2 hL.1 hlt⟩
          intro x hx
          rcases List.mem_or_eq_of_mem_set hx with hx | rfl
          · exact hL.2.1 x hx
          · omega
        obtain ⟨n1, n2⟩ := hnext _ _ _ _ acc hc' hL' ha (by omega)
        have hsx := hs (l ++ [((g.E.length - k : Nat) : Int)])
        have n3 : LabsOK g l (next (labs.set l.length ((g.E.length - k : Nat) : Int)) (used.set (g.E.length - k) true) now acc).1 := ⟨n2.1, n2.2.1, take_snoc (by simpa using n2.2.2)⟩
        revert n1 n3
        generalize next (labs.set l.length ((g.E.length - k : Nat) : Int)) (used.set (g.E.length - k) true) now acc = p
        intro n1 n3
        obtain ⟨labs', o⟩ := p
        simp only at n1
        subst n1
        simp only
        have := ih labs' (acc + (srch (l ++ [((g.E.length - k : Nat) : Int)])).2) (best.or (srch (l ++ [((g.E.length - k : Nat) : Int)])).1) (many + (srch (l ++ [((g.E.length - k : Nat) : Int)])).2) (by omega) n3 (by omega) (by omega)
        refine ⟨this.1.trans ?_, this.2⟩
        congr 1; omega

theorem walk_count (g : Gr) (hg : GrOK g) : ∀ (f : Nat) (l labs : List Int) (used diffs : List Bool) (acc : Int), f + l.length = g.n → Cons g l used diffs → LabsOK g l labs → 0 ≤ acc → acc + 11 ^ f ≤ 1000000000 →
    (putS .count g f labs used diffs acc).2 = .on (acc + (srS g.n g.E false false f l).2) ∧ LabsOK g l (putS .count g f labs used diffs acc).1
  | 0, l, labs, used, diffs, acc, hf, hc, hL, ha, hb => by
    have hl : labs = l := by have := hL.2.2; rw [List.take_of_length_le (by rw [hL.1]; omega)] at this; exact this
    subst hl
    have hgr := hc.graceful hg hL.1
    refine ⟨?_, hL⟩
    simp only [putS, srS, hgr, true_and, or_true, if_true, yieldS]
    rw [wrap64 (by omega) (by omega)]
  | f + 1, l, labs, used, diffs, acc, hf, hc, hL, ha, hb => by
    have hnode : g.n - (f + 1) = l.length := by omega
    simp only [putS, srS]
    rw [hnode]
    have hp : (11 : Int) ^ (f + 1) = 11 * 11 ^ f := by rw [Int.pow_succ]; omega
    have h10 := hg.2.2.2.1
    have h11 : ((g.E.length + 1 : Nat) : Int) * 11 ^ f ≤ 11 * 11 ^ f := Int.mul_le_mul_of_nonneg_right (by omega) (Int.pow_nonneg (by omega))
    have := scan_count g hg (putS .count g f) (srS g.n g.E false false f) (11 ^ f) 1000000000 (Int.pow_nonneg (by omega)) l used diffs hc (by omega) (srS_bound g.n g.E false false h10 f) ?_ (g.E.length + 1) labs acc none 0 (Nat.le_refl _) hL ha (by omega)
    · refine ⟨this.1.trans ?_, this.2⟩
      congr 1; omega
    intro v labs used diffs acc hc hL ha hb
    exact walk_count g hg f (l ++ [v]) labs used diffs acc (by simp; omega) hc hL ha hb

/-- Nothing is taken at the begin. -/
theorem cons0 (g : Gr) (hg : GrOK g) : Cons g [] noDiffs noDiffs := by
  have hb : difS g.E [] = [] := by
    unfold difS below
    rw [List.map_eq_nil_iff, List.filter_eq_nil_iff]
    intro e he
    have := hg.2.2.2.2 e he
    simp; omega
  refine ⟨(by intro x hx; cases hx), by simp, rfl, rfl, fun v => ?_, by rw [hb]; exact List.nodup_nil, fun d => ?_, List.nodup_nil⟩
  · unfold noDiffs; rw [rep_false]; simp
  · unfold noDiffs; rw [rep_false, hb]; simp

theorem labs0 (g : Gr) : LabsOK g [] (List.replicate g.n 0) := by
  refine ⟨by simp, ?_, by simp⟩
  intro x hx
  have := (List.mem_replicate.1 hx).2
  omega

/-- The first graceful labels (that part, if asked) are the document's. -/
theorem first_same (g : Gr) (hg : GrOK g) (w : Who) (hw : w ≠ .count) : RelF (p0 w g) (srS g.n g.E (partW w) true g.n []) :=
  (walk_first g hg w hw g.n [] (List.replicate g.n 0) noDiffs noDiffs (by simp) (cons0 g hg) (labs0 g)).1

/-- There are as many graceful labels as the document says. -/
theorem count_same (g : Gr) (hg : GrOK g) : (p0 .count g).2 = .on (srS g.n g.E false false g.n []).2 := by
  have := (walk_count g hg g.n [] (List.replicate g.n 0) noDiffs noDiffs 0 (by simp) (cons0 g hg) (labs0 g) (by omega) (by have := pow_le hg.2.1; omega)).1
  rw [Int.zero_add] at this
  exact this
end Go.Proofs.Ytkcdbndpcabelaa

/- Chapter 02: the law on the first labels, on data. -/
namespace Go.Proofs.Ytkcdbndpcabelaa
open Go Go.AE

theorem k6 : OkSeg Try.f6 none [] := ⟨by kernel_rfl, by kernel_rfl, by decide⟩
def tenI : Int := 10
noncomputable def sp13 (n : Int) (E : List (Int × Int)) (c nl : Bool) (m : Int) (F : List (Int × Int)) : List DV → Tr DV
  | [.int .i64 n', .sl es k 2 c' nl', .int .i64 most] => .node (isAt (n', es, k, c', nl', most) (n, edD E, E.length, c, nl, tenI)) (.leaf (.tup [iD m, .sl (edD F) F.length 2 false false])) .fail
  | _ => .fail
/-- The program's functions on labels. -/
noncomputable def spL (w : Who) : List DV → Tr DV
  | [.int .i64 n, .sl es m 2 _ false] => .node (decide (openS n (unE es) = 0) && isE es m) (match w with
      | .count => .leaf (.tup [iD (srS n (unE es) false false n.toNat []).2, iD 0])
      | _ => .node (srS n (unE es) (partW w) true n.toNat []).1.isSome (.leaf (.tup [.sl (ints ((srS n (unE es) (partW w) true n.toNat []).1.getD [])) ((srS n (unE es) (partW w) true n.toNat []).1.getD []).length 1 false false, bD true, iD 0])) (.leaf (.tup [nilS1, bD false, iD 0]))) .fail
  | _ => .fail
theorem loopX_some {next : List Int → Option (List Int) × Int} {E : List (Int × Int)} {l : List Int} {first : Bool} {Q : List Int → Prop} (h : ∀ x o, (next (l ++ [x])).1 = some o → Q o) : ∀ (k : Nat) (best : Option (List Int)) (many : Int), (∀ o, best = some o → Q o) → ∀ o, (loopX next E l first k best many).1 = some o → Q o
  | 0, best, many, hb, o, e => hb o e
  | k + 1, best, many, hb, o, e => by
    have hb' : ∀ o, best.or (next (l ++ [(E.length : Int) - k])).1 = some o → Q o := by
      intro o e
      cases best with
      | none => exact h _ o (by simpa using e)
      | some b => exact hb o (by simpa using e)
    simp only [loopX] at e
    split at e
    · split at e
      · exact hb' o e
      · exact loopX_some h k _ _ hb' o e
    · exact loopX_some h k best many hb o e

theorem srS_some {n : Int} {E : List (Int × Int)} {part first : Bool} : ∀ {f : Nat} {l o : List Int}, (srS n E part first f l).1 = some o → gracB n E o = true
  | 0, l, o, e => by
    simp only [srS] at e
    split at e
    · rename_i h; cases e; exact h.1
    · cases e
  | f + 1, l, o, e => loopX_some (fun x o e => srS_some e) _ none 0 (by simp) o e

theorem grac_len {n : Int} {E : List (Int × Int)} {o : List Int} (h : gracB n E o = true) : (o.length : Int) = n := by
  simp only [gracB, Bool.and_eq_true, decide_eq_true_eq] at h
  exact h.1

theorem open_graph {n : Int} {E : List (Int × Int)} (h : openS n E = 0) : GrOK ⟨n.toNat, E⟩ ∧ 2 ≤ n ∧ n ≤ 7 := by
  obtain ⟨g, rfl, rfl, hg⟩ := openS_ok h
  have := hg.1; have := hg.2.1
  exact ⟨by rw [Int.toNat_natCast]; exact hg, by omega, by omega⟩

theorem lenOf_1 (n : Nat) : lenOf 1 n = n := rfl
theorem off_eq (o : List Int) : offD o = .tup [.sl (ints o) o.length 1 false false, bD true, iD 0] := by
  unfold offD
  rw [Go.AE.lenOf_1, len_ints]

theorem spL_ok (w : Who) : ∀ ds d, (spL w ds).val = some d → PureOK Try.prog (fnW w) ds d := by
  intro ds d h
  unfold spL at h
  split at h
  · rename_i n es m c
    simp only [Tr.val] at h
    obtain ⟨hg, h2⟩ := cond_none h
    clear h
    simp only [Bool.and_eq_true, decide_eq_true_eq] at hg
    obtain ⟨e1, e2⟩ := ed_unE hg.2
    obtain ⟨q1, q2, q3⟩ := open_graph hg.1
    have main := w28_ok w n (unE es) c false (by simp)
    unfold resD at main
    rw [decide_eq_true hg.1, cond_true, ← e1, ← e2] at main
    have first : w ≠ .count → RelF (p0 w ⟨n.toNat, unE es⟩) (srS n (unE es) (partW w) true n.toNat []) := by
      intro hw
      have := first_same ⟨n.toNat, unE es⟩ q1 w hw
      rw [show (((⟨n.toNat, unE es⟩ : Gr).n : Nat) : Int) = n by show ((n.toNat : Nat) : Int) = n; omega] at this
      exact this
    have one : w ≠ .count → (bif (srS n (unE es) (partW w) true n.toNat []).1.isSome then some (DV.tup [.sl (ints ((srS n (unE es) (partW w) true n.toNat []).1.getD [])) ((srS n (unE es) (partW w) true n.toNat []).1.getD []).length 1 false false, bD true, iD 0]) else some (.tup [nilS1, bD false, iD 0])) = some (okD w (p0 w ⟨n.toNat, unE es⟩).2) := by
      intro hw
      have := first hw
      unfold RelF at this
      revert this
      generalize (p0 w ⟨n.toNat, unE es⟩).2 = p
      intro this
      cases p with
      | on a =>
        rw [this.2]
        cases w with
        | count => exact absurd rfl hw
        | label => rfl
        | part => rfl
      | off o =>
        rw [this]
        cases w with
        | count => exact absurd rfl hw
        | label => simp only [Option.isSome_some, cond_true, Option.getD_some, okD, Out.isOn, cond_false, Out.found, off_eq]
        | part => simp only [Option.isSome_some, cond_true, Option.getD_some, okD, Out.isOn, cond_false, Out.found, off_eq]
    cases w with
    | count =>
      have hc := count_same ⟨n.toNat, unE es⟩ q1
      rw [show (((⟨n.toNat, unE es⟩ : Gr).n : Nat) : Int) = n by show ((n.toNat : Nat) : Int) = n; omega] at hc
      cases h2
      simp only [okD] at main
      rw [hc] at main
      exact main
    | label =>
      have := one (by simp)
      simp only [Tr.val] at h2
      rw [this] at h2
      cases h2; exact main
    | part =>
      have := one (by simp)
      simp only [Tr.val] at h2
      rw [this] at h2
      cases h2; exact main
  · cases h

end Go.Proofs.Ytkcdbndpcabelaa

/- Chapter 02: whether labels are graceful: the program's function. -/
namespace Go.Proofs.Ytkcdbndpcabelaa
open Go Go.AE

theorem k48 : OkSeg Try.f48 none [0, 2] := ⟨by kernel_rfl, by kernel_rfl, by decide⟩
theorem k48_0 : OkSeg Try.f48 (some 0) [] := ⟨by kernel_rfl, by kernel_rfl, by decide⟩
theorem k48_2 : OkSeg Try.f48 (some 2) [] := ⟨by kernel_rfl, by kernel_rfl, by decide⟩
noncomputable def s48 (n : Int) (E : List (Int × Int)) (c : Bool) (l : List Int) (c2 nl2 : Bool) (used diffs : List DV) (i : Int) : St := ⟨[(0, .d (DV.ptr [iD n, edgX E c false] 0)), (1, .d (lstX l c2 nl2)), (5, .d (iD E.length)), (6, AV.ref 0 0), (7, AV.ref 1 0), (25, .d (lstX l c2 nl2)), (26, .d (iD l.length)), (27, .d (iD i))], [.dc used, .dc diffs], []⟩
noncomputable def x48 (n : Int) (E : List (Int × Int)) (c : Bool) (l : List Int) (c2 nl2 : Bool) (diffs : List DV) : St := ⟨[(0, .d (DV.ptr [iD n, edgX E c false] 0)), (1, .d (lstX l c2 nl2)), (7, AV.ref 0 0)], [.dc diffs], []⟩
noncomputable def t48 (E : List (Int × Int)) (l : List Int) (c2 nl2 : Bool) (diffs : List DV) (i : Int) : St := ⟨[(1, .d (lstX l c2 nl2)), (7, AV.ref 0 0), (49, .d (edgX E false false)), (50, .d (iD E.length)), (51, .d (iD i))], [.dc diffs], []⟩

theorem r48 (n : Int) (E : List (Int × Int)) (c : Bool) (l : List Int) (c2 nl2 : Bool) : startS aeC ev7 48 0 Try.f48 none ⟨envOf 0 ([.ptr [iD n, edgX E c false] 0, lstX l c2 nl2].map .d), [], []⟩ (heldD aeC 48 0) =
  bif !decide ((↑(List.length l) : Int) = n) then
    none
  else
    some (0, ⟨[(0, .d (DV.ptr [iD n, DV.sl (edD E) (List.length E) 2 c false] 0)), (1, .d (DV.sl (ints l) (List.length l) 1 c2 nl2)), (5, .d (iD (↑(List.length E) : Int))), (6, AV.ref 0 0), (7, AV.ref 1 0), (25, .d (DV.sl (ints l) (List.length l) 1 c2 nl2)), (26, .d (iD (↑(List.length l) : Int))), (27, .d (iD 0))], [.dc [bD false, bD false, bD false, bD false, bD false, bD false, bD false, bD false, bD false, bD false, bD false, bD false, bD false, bD false, bD false, bD false, bD false, bD false, bD false, bD false, bD false, bD false, bD false, bD false, bD false, bD false], .dc [bD false, bD false, bD false, bD false, bD false, bD false, bD false, bD false, bD false, bD false, bD false, bD false, bD false, bD false, bD false, bD false, bD false, bD false, bD false, bD false, bD false, bD false, bD false, bD false, bD false, bD false]], []⟩) := by kernel_rfl

theorem r48_d (n : Int) (E : List (Int × Int)) (c : Bool) (l : List Int) (c2 nl2 : Bool) : startS aeC ev7 48 0 Try.f48 none ⟨envOf 0 ([.ptr [iD n, edgX E c false] 0, lstX l c2 nl2].map .d), [], []⟩ (doneE aeC Try.f48 0 fun v h => freezeV h 4 v) =
  bif !decide ((↑(List.length l) : Int) = n) then
    some (bD false)
  else
    none := by kernel_rfl

theorem r48_0 (n : Int) (E : List (Int × Int)) (c : Bool) (l : List Int) (c2 nl2 : Bool) (used diffs : List DV) (i : Int) : startS aeC ev7 48 0 Try.f48 (some 0) (s48 n E c l c2 nl2 used diffs i) (roundD aeC 48 0 0) =
  bif decide (i < (↑(List.length l) : Int)) then
    bif inRange i (List.length l) then
      getI (nth (ints l) (Int.toNat i * 1)) fun x0 =>
      bif decide (x0 < 0) then
        some (Ex.ret, ⟨[(4, .d (bD false))], [], []⟩)
      else
        bif decide ((↑(List.length E) : Int) < x0) then
          some (Ex.ret, ⟨[(4, .d (bD false))], [], []⟩)
        else
          bif inRange x0 26 then
            getB (nth used (0 + Int.toNat x0 * 1)) fun y1 =>
            bif y1 then
              some (Ex.ret, ⟨[(4, .d (bD false))], [], []⟩)
            else
              bif inRange x0 26 then
                bif Nat.ble (0 + Int.toNat x0 * 1 + 1) (List.length used) && true then
                  some (Ex.norm, ⟨[(0, .d (DV.ptr [iD n, DV.sl (edD E) (List.length E) 2 c false] 0)), (1, .d (DV.sl (ints l) (List.length l) 1 c2 nl2)), (5, .d (iD (↑(List.length E) : Int))), (6, AV.ref 0 0), (7, AV.ref 1 0), (25, .d (DV.sl (ints l) (List.length l) 1 c2 nl2)), (26, .d (iD (↑(List.length l) : Int))), (27, .d (iD (IntKind.wrap IntKind.i64 (i + 1))))], [.dc (setNth used (0 + Int.toNat x0 * 1) (bD true)), .dc diffs], []⟩)
                else
                  none
              else
                none
          else
            none
    else
      none
  else
    some (Ex.exit 0, ⟨[(0, .d (DV.ptr [iD n, DV.sl (edD E) (List.length E) 2 c false] 0)), (1, .d (DV.sl (ints l) (List.length l) 1 c2 nl2)), (7, AV.ref 0 0)], [.dc diffs], []⟩) := by kernel_rfl

theorem r48_1r  : nextS aeC ev7 48 0 Try.f48 none 0 .ret ⟨[(4, .d (bD false))], [], []⟩ (doneE aeC Try.f48 0 fun v h => freezeV h 4 v) =
  some (bD false) := by kernel_rfl

theorem r48_1 (n : Int) (E : List (Int × Int)) (c : Bool) (l : List Int) (c2 nl2 : Bool) (diffs : List DV) : nextS aeC ev7 48 0 Try.f48 none 0 (.exit 0) (x48 n E c l c2 nl2 diffs) (heldD aeC 48 0) =
  some (2, ⟨[(1, .d (DV.sl (ints l) (List.length l) 1 c2 nl2)), (7, AV.ref 0 0), (49, .d (DV.sl (edD E) (List.length E) 2 false false)), (50, .d (iD (↑(List.length E) : Int))), (51, .d (iD 0))], [.dc diffs], []⟩) := by kernel_rfl

theorem r48_2 (E : List (Int × Int)) (l : List Int) (c2 nl2 : Bool) (diffs : List DV) (i : Int) : startS aeC ev7 48 0 Try.f48 (some 2) (t48 E l c2 nl2 diffs i) (roundD aeC 48 0 2) =
  bif decide (i < (↑(List.length E) : Int)) then
    bif inRange i (List.length E) then
      getI (nth (edD E) (Int.toNat i * 2)) fun x0 =>
      getI (nth (edD E) (Int.toNat i * 2 + 1)) fun x1 =>
      bif inRange x0 (List.length l) then
        getI (nth (ints l) (Int.toNat x0 * 1)) fun x2 =>
        bif inRange x1 (List.length l) then
          getI (nth (ints l) (Int.toNat x1 * 1)) fun x3 =>
          bif inRange (IntKind.wrap IntKind.i64 (max x2 x3 - min x2 x3)) 26 then
            getB (nth diffs (0 + Int.toNat (IntKind.wrap IntKind.i64 (max x2 x3 - min x2 x3)) * 1)) fun y4 =>
            bif y4 then
              some (Ex.ret, ⟨[(4, .d (bD false))], [], []⟩)
            else
              bif inRange (IntKind.wrap IntKind.i64 (max x2 x3 - min x2 x3)) 26 then
                bif Nat.ble (0 + Int.toNat (IntKind.wrap IntKind.i64 (max x2 x3 - min x2 x3)) * 1 + 1) (List.length diffs) && true then
                  some (Ex.norm, ⟨[(1, .d (DV.sl (ints l) (List.length l) 1 c2 nl2)), (7, AV.ref 0 0), (49, .d (DV.sl (edD E) (List.length E) 2 false false)), (50, .d (iD (↑(List.length E) : Int))), (51, .d (iD (IntKind.wrap IntKind.i64 (i + 1))))], [.dc (setNth diffs (0 + Int.toNat (IntKind.wrap IntKind.i64 (max x2 x3 - min x2 x3)) * 1) (bD true))], []⟩)
                else
                  none
              else
                none
          else
            none
        else
          none
      else
        none
    else
      none
  else
    some (Ex.exit 2, ⟨[], [], []⟩) := by kernel_rfl

theorem r48_x  : nextS aeC ev7 48 0 Try.f48 none 2 (.exit 2) ⟨[], [], []⟩ (doneE aeC Try.f48 0 fun v h => freezeV h 4 v) =
  some (bD true) := by kernel_rfl

theorem r48_xr  : nextS aeC ev7 48 0 Try.f48 none 2 .ret ⟨[(4, .d (bD false))], [], []⟩ (doneE aeC Try.f48 0 fun v h => freezeV h 4 v) =
  some (bD false) := by kernel_rfl

theorem l48_0 (n : Int) (E : List (Int × Int)) (c : Bool) (l : List Int) (c2 nl2 : Bool) (diffs : List DV) (hl : l.length ≤ 100) (hE : E.length ≤ 10) : ∀ (r : List Int) (i : Nat) (used : List Bool), used.length = 26 → (∀ v : Nat, used.getD v false = decide ((v : Int) ∈ l.take i)) → i ≤ l.length → l.drop i = r →
      LoopAt aeC ev7 48 0 Try.f48 0 (s48 n E c l c2 nl2 (bools used) diffs i) (bif newS E.length (l.take i) r then .exit 0 else .ret) (bif newS E.length (l.take i) r then x48 n E c l c2 nl2 diffs else ⟨[(4, .d (bD false))], [], []⟩)
  | [], i, used, hu, hch, hi, hr => by
    have h1 := drop_nil_o hr
    refine .out k48_0 (by simp [newS]) ((r48_0 ..).trans ?_)
    simp (disch := omega) only [cnd_pos, cnd_neg, inR_pos, ble_pos, blt_pos, beq_pos, cond_and, cond_or, Bool.cond_not, cond_true, cond_false, Bool.and_true, Bool.true_and, getI_some, getB_some, nth_ints_o, nth_bools_o, wrap64_o, len_ints, len_bools, lenOf_1, Int.toNat_natCast, Nat.mul_one, Nat.zero_add, setNth_bools_o, setNth_ints_o, len_set_i, len_set_b, Option.bind_some, List.length_append, List.length_cons, List.length_nil, unI_ints, unB_bools, ints_app1, bools_app1, nth_pr1, nth_pr2, len_prs, abs_if, Nat.add_zero, cond_same]
    rfl
  | y :: r, i, used, hu, hch, hi, hr => by
    obtain ⟨h1, h2, h3⟩ := drop_cons_o (d := 0) hr
    have res := r48_0 n E c l c2 nl2 (bools used) diffs i
    revert res
    simp (disch := omega) only [cnd_pos, cnd_neg, inR_pos, ble_pos, blt_pos, beq_pos, cond_and, cond_or, Bool.cond_not, cond_true, cond_false, Bool.and_true, Bool.true_and, getI_some, getB_some, nth_ints_o, nth_bools_o, wrap64_o, len_ints, len_bools, lenOf_1, Int.toNat_natCast, Nat.mul_one, Nat.zero_add, setNth_bools_o, setNth_ints_o, len_set_i, len_set_b, Option.bind_some, List.length_append, List.length_cons, List.length_nil, unI_ints, unB_bools, ints_app1, bools_app1, nth_pr1, nth_pr2, len_prs, abs_if, Nat.add_zero, cond_same]
    rw [h2]
    intro res
    simp only [newS]
    by_cases c1 : y < 0
    · rw [cnd_pos c1] at res
      rw [decide_eq_false (show ¬ 0 ≤ y by omega), Bool.false_and]
      exact .out k48_0 (by simp) res
    rw [cnd_neg c1] at res
    rw [decide_eq_true (show 0 ≤ y by omega), Bool.true_and]
    by_cases c3 : (E.length : Int) < y
    · rw [cnd_pos c3] at res
      rw [decide_eq_false (show ¬ y ≤ (E.length : Int) by omega), Bool.false_and]
      exact .out k48_0 (by simp) res
    rw [cnd_neg c3] at res
    rw [decide_eq_true (show y ≤ (E.length : Int) by omega), Bool.true_and]
    revert res
    simp (disch := omega) only [cnd_pos, cnd_neg, inR_pos, ble_pos, blt_pos, beq_pos, cond_and, cond_or, Bool.cond_not, cond_true, cond_false, Bool.and_true, Bool.true_and, getI_some, getB_some, nth_ints_o, nth_bools_o, wrap64_o, len_ints, len_bools, lenOf_1, Int.toNat_natCast, Nat.mul_one, Nat.zero_add, setNth_bools_o, setNth_ints_o, len_set_i, len_set_b, Option.bind_some, List.length_append, List.length_cons, List.length_nil, unI_ints, unB_bools, ints_app1, bools_app1, nth_pr1, nth_pr2, len_prs, abs_if, Nat.add_zero, cond_same]
    intro res
    have hcon : List.contains (l.take i) y = used.getD y.toNat false := by
      rw [hch y.toNat, show ((y.toNat : Nat) : Int) = y by omega]
      simp
    rw [hcon]
    cases hb : used.getD y.toNat false with
    | true =>
      rw [hb] at res
      exact .out k48_0 (by simp) res
    | false =>
      rw [hb] at res
      have htk : l.take i ++ [y] = l.take (i + 1) := by
        rw [List.take_add_one, ← h2]; simp [h1]
      simp only [htk, Bool.not_false, Bool.true_and]
      refine .next k48_0 res (l48_0 n E c l c2 nl2 diffs hl hE r (i + 1) _ (by simpa using hu) ?_ h1 h3)
      intro v
      rw [getD_set_b (by omega), hch v, ← htk]
      split
      · rename_i h; subst h; simp; omega
      · rename_i h
        have : ¬ ((v : Int) = y) := by omega
        simp [this]

theorem l48_2 (E : List (Int × Int)) (l : List Int) (c2 nl2 : Bool) (hl : LabOK E.length l) (hEd : EdOK l.length E) (hln : l.length ≤ 100) (hlen : E.length ≤ 10) : ∀ (r : List (Int × Int)) (i : Nat) (met : List Bool), met.length = 26 → i ≤ E.length → E.drop i = r →
      LoopAt aeC ev7 48 0 Try.f48 2 (t48 E l c2 nl2 (bools met) i) (bif (chkD (r.map (dlt l)) met).isSome then .exit 2 else .ret) (bif (chkD (r.map (dlt l)) met).isSome then ⟨[], [], []⟩ else ⟨[(4, .d (bD false))], [], []⟩)
  | [], i, met, hm, hi, hr => by
    have h1 := drop_nil_o hr
    refine .out k48_2 (by simp [chkD]) ((r48_2 ..).trans ?_)
    simp (disch := omega) only [cnd_pos, cnd_neg, inR_pos, ble_pos, blt_pos, beq_pos, cond_and, cond_or, Bool.cond_not, cond_true, cond_false, Bool.and_true, Bool.true_and, getI_some, getB_some, nth_ints_o, nth_bools_o, wrap64_o, len_ints, len_bools, lenOf_1, Int.toNat_natCast, Nat.mul_one, Nat.zero_add, setNth_bools_o, setNth_ints_o, len_set_i, len_set_b, Option.bind_some, List.length_append, List.length_cons, List.length_nil, unI_ints, unB_bools, ints_app1, bools_app1, nth_pr1, nth_pr2, len_prs, abs_if, Nat.add_zero, cond_same]
    rfl
  | d :: r, i, met, hm, hi, hr => by
    obtain ⟨h1, h2, h3⟩ := drop_cons_o (d := (0, 0)) hr
    have hd := hEd.get h1
    have res := r48_2 E l c2 nl2 (bools met) i
    have ha := hl.at hd.1 (by omega)
    have hb := hl.at (show 0 ≤ (E.getD i (0, 0)).2 by omega) hd.2.2
    rw [h2] at hd ha hb
    revert res
    simp (disch := omega) only [cnd_pos, cnd_neg, inR_pos, ble_pos, blt_pos, beq_pos, cond_and, cond_or, Bool.cond_not, cond_true, cond_false, Bool.and_true, Bool.true_and, getI_some, getB_some, nth_ints_o, nth_bools_o, wrap64_o, len_ints, len_bools, lenOf_1, Int.toNat_natCast, Nat.mul_one, Nat.zero_add, setNth_bools_o, setNth_ints_o, len_set_i, len_set_b, Option.bind_some, List.length_append, List.length_cons, List.length_nil, unI_ints, unB_bools, ints_app1, bools_app1, nth_pr1, nth_pr2, len_prs, abs_if, Nat.add_zero, cond_same, h2, show l.getD d.1.toNat 0 = labAt l d.1 from rfl, show l.getD d.2.toNat 0 = labAt l d.2 from rfl]
    have k1 : (max (labAt l d.1) (labAt l d.2) - min (labAt l d.1) (labAt l d.2)).toNat = dlt l d := by
      unfold dlt; rw [dist_comm]; rfl
    rw [k1]
    have hlt : dlt l d < met.length := by rw [← k1]; omega
    try simp (disch := omega) only [cnd_pos, cnd_neg, inR_pos, ble_pos, blt_pos, beq_pos, cond_and, cond_or, Bool.cond_not, cond_true, cond_false, Bool.and_true, Bool.true_and, getI_some, getB_some, nth_ints_o, nth_bools_o, wrap64_o, len_ints, len_bools, lenOf_1, Int.toNat_natCast, Nat.mul_one, Nat.zero_add, setNth_bools_o, setNth_ints_o, len_set_i, len_set_b, Option.bind_some, List.length_append, List.length_cons, List.length_nil, unI_ints, unB_bools, ints_app1, bools_app1, nth_pr1, nth_pr2, len_prs, abs_if, Nat.add_zero, cond_same]
    intro res
    rw [List.map_cons, chkD]
    cases hbit : met.getD (dlt l d) false with
    | true =>
      rw [hbit] at res
      exact .out k48_2 (by simp) res
    | false =>
      rw [hbit] at res
      exact .next k48_2 res (l48_2 E l c2 nl2 hl hEd hln hlen r (i + 1) _ (by simpa using hm) h1 h3)

theorem chkD_free {l : List Nat} {a b : Nat} (ha : ∀ d ∈ l, d < a) (hb : ∀ d ∈ l, d < b) : (chkD l (List.replicate a false)).isSome = (chkD l (List.replicate b false)).isSome := by
  rw [Bool.eq_iff_iff, chkD_iff _ _ (by intro d hd; simpa using ha d hd), chkD_iff _ _ (by intro d hd; simpa using hb d hd)]
  simp only [rep_false, implies_true, and_true]

theorem pgrac_ok (n : Nat) (E : List (Int × Int)) (c : Bool) (l : List Int) (c2 nl2 : Bool) (hE : EdOK n E) (hn : n ≤ 100) (hlen : E.length ≤ 10) : PureOK Try.prog 48 [.ptr [iD n, edgX E c false] 0, lstX l c2 nl2] (bD (gracB n E l)) := by
  refine ae_pure ev7_ok (fn := Try.f48) k48 (by kernel_rfl) (by kernel_rfl) ?_
  unfold gracB
  by_cases hl : (l.length : Int) = n
  · have h0 := r48 n E c l c2 nl2
    rw [decide_eq_true hl, Bool.not_true, cond_false] at h0
    rw [decide_eq_true hl, Bool.true_and, startF_seg k48 h0 (l48_0 n E c l c2 nl2 (bools noDiffs) (by omega) hlen l 0 noDiffs rfl (by intro v; unfold noDiffs; rw [rep_false]; simp) (by omega) rfl)]
    rw [List.take_zero]
    cases hnew : newS E.length [] l with
    | false => exact nextF_done k48 done_plain r48_1r
    | true =>
      simp only [cond_true, Bool.true_and]
      have hlE : l.length = n := by omega
      have hEd : EdOK l.length E := by rw [hlE]; exact hE
      rw [nextF_seg k48 (by simp) (exit_small (by omega)) (r48_1 ..) (l48_2 E l c2 nl2 (newS_lab hnew) hEd (by omega) hlen E 0 noDiffs rfl (by omega) rfl)]
      have hd : ∀ d ∈ E.map (dlt l), d ≤ E.length := by
        intro d hd
        obtain ⟨e, he, rfl⟩ := List.mem_map.1 hd
        have := hEd e he
        exact dlt_le (newS_lab hnew) this.1 this.2.1 this.2.2
      rw [show (chkD (E.map (dlt l)) (List.replicate (E.length + 1) false)).isSome = (chkD (E.map (dlt l)) noDiffs).isSome from chkD_free (fun d h => by have := hd d h; omega) (fun d h => by have := hd d h; omega)]
      cases (chkD (E.map (dlt l)) noDiffs).isSome with
      | true => exact nextF_done k48 done_plain r48_x
      | false => exact nextF_done k48 done_plain r48_xr
  · have h0 := r48_d n E c l c2 nl2
    rw [decide_eq_false hl] at h0 ⊢
    exact startF_done k48 done_plain h0

/-- Whether labels are graceful, told of data. -/
noncomputable def sp48 : List DV → Tr DV
  | [.ptr [.int .i64 n, .sl es m 2 _ false] 0, .sl cs k 1 _ _] => .node (decide (openS n (unE es) = 0) && (isE es m && (isI cs && Nat.beq cs.length k))) (.leaf (bD (gracB n (unE es) (unI cs)))) .fail
  | _ => .fail
theorem sp48_ok : ∀ ds d, (sp48 ds).val = some d → PureOK Try.prog 48 ds d := by
  intro ds d h
  unfold sp48 at h
  split at h
  · rename_i n es m c cs k c2 nl2
    simp only [Tr.val] at h
    obtain ⟨hg, h2⟩ := cond_none h
    cases h2
    simp only [Bool.and_eq_true, decide_eq_true_eq] at hg
    obtain ⟨e1, e2⟩ := ed_unE hg.2.1
    obtain ⟨q1, q2, q3⟩ := open_graph hg.1
    obtain ⟨l, rfl⟩ := isI_iff.1 hg.2.2.1
    have hk := Nat.eq_of_beq_eq_true hg.2.2.2
    rw [len_ints] at hk
    subst hk
    have := pgrac_ok n.toNat (unE es) c l c2 nl2 q1.2.2.2.2 (by omega) q1.2.2.2.1
    unfold edgX lstX at this
    rw [← e1, ← e2, show ((n.toNat : Nat) : Int) = n by omega] at this
    rw [unI_ints]
    exact this
  · cases h

/-- A graph is opened, told of data. -/
def sp47x : List DV → Tr DV
  | [.int .i64 n, .sl es m 2 c nl] => .node (isE es m) (.node (decide (openS n (unE es) = 0)) (.leaf (.tup [.ptr [iD n, .sl es m 2 c nl] 0, iD 0])) (.leaf (.tup [.nilp, iD (openS n (unE es))]))) .fail
  | _ => .fail
theorem sp47x_ok : ∀ ds d, (sp47x ds).val = some d → PureOK Try.prog 47 ds d := by
  intro ds d h
  unfold sp47x at h
  split at h
  · rename_i n es m c nl
    simp only [Tr.val] at h
    obtain ⟨hg, h2⟩ := cond_none h
    clear h
    obtain ⟨e1, e2⟩ := ed_unE hg
    have main := open_ok n (unE es) c nl
    unfold openD at main
    rw [← e1, ← e2] at main
    cases hb : decide (openS n (unE es) = 0) with
    | true => rw [hb] at h2 main; cases h2; exact main
    | false => rw [hb] at h2 main; cases h2; exact main
  · cases h
end Go.Proofs.Ytkcdbndpcabelaa

/- Chapter 02: copies: the program's are the document's. -/
namespace Go.Proofs.Ytkcdbndpcabelaa
open Go Go.AE

theorem k15 : OkSeg Try.f15 none [0] := ⟨by kernel_rfl, by kernel_rfl, by decide⟩
theorem k15_0 : OkSeg Try.f15 (some 0) [2] := ⟨by kernel_rfl, by kernel_rfl, by decide⟩
theorem k15_2 : OkSeg Try.f15 (some 2) [] := ⟨by kernel_rfl, by kernel_rfl, by decide⟩
noncomputable def evC : Ev := (Ev.nil.add 47 sp47x).add 48 sp48
noncomputable def s15 (E : List (Int × Int)) (c nl : Bool) (l : List Int) (c2 nl2 : Bool) (sz : Int) (out : List DV) (t : Int) : St := ⟨[(1, .d (edgX E c nl)), (2, .d (lstX l c2 nl2)), (10, .d (iD sz)), (11, AV.grow 0 1 false), (35, .d (iD sz)), (36, .d (iD t))], [.dc out], []⟩
noncomputable def t15 (E : List (Int × Int)) (c nl : Bool) (l : List Int) (c2 nl2 : Bool) (sz : Int) (out : List DV) (t : Int) (row : List DV) (i : Int) : St := ⟨[(1, .d (edgX E c nl)), (2, .d (lstX l c2 nl2)), (10, .d (iD sz)), (11, AV.grow 0 1 false), (12, .d (iD t)), (13, AV.grow 1 2 false), (35, .d (iD sz)), (36, .d (iD t)), (39, .d (edgX E c nl)), (40, .d (iD E.length)), (41, .d (iD i))], [.dc out, .dc row], []⟩
noncomputable def x15 (E : List (Int × Int)) (c nl : Bool) (l : List Int) (c2 nl2 : Bool) (sz : Int) (out : List DV) (t : Int) (row : List DV) : St := ⟨[(1, .d (edgX E c nl)), (2, .d (lstX l c2 nl2)), (10, .d (iD sz)), (11, AV.grow 0 1 false), (13, .d (.sl row (lenOf 2 row.length) 2 false (true && Nat.beq row.length 0))), (35, .d (iD sz)), (36, .d (iD t))], [.dc out], []⟩
theorem r15_2 (E : List (Int × Int)) (c nl : Bool) (l : List Int) (c2 nl2 : Bool) (sz : Int) (out : List DV) (t : Int) (row : List DV) (i : Int) : startS aeC evC 15 0 Try.f15 (some 2) (t15 E c nl l c2 nl2 sz out t row i) (roundD aeC 15 0 2) =
  bif decide (i < (↑(List.length E) : Int)) then
    bif inRange i (List.length E) then
      getI (nth (edD E) (Int.toNat i * 2)) fun x0 =>
      getI (nth (edD E) (Int.toNat i * 2 + 1)) fun x1 =>
      bif inRange x0 (List.length l) then
        getI (nth (ints l) (Int.toNat x0 * 1)) fun x2 =>
        bif decide (sz = 0) then
          none
        else
          bif inRange x1 (List.length l) then
            getI (nth (ints l) (Int.toNat x1 * 1)) fun x3 =>
            bif decide (sz = 0) then
              none
            else
              bif Nat.ble (lenOf 2 (List.length row) + 1) 1048576 then
                some (Ex.norm, ⟨[(1, .d (DV.sl (edD E) (List.length E) 2 c nl)), (2, .d (DV.sl (ints l) (List.length l) 1 c2 nl2)), (10, .d (iD sz)), (11, AV.grow 0 1 false), (12, .d (iD t)), (13, AV.grow 1 2 false), (35, .d (iD sz)), (36, .d (iD t)), (39, .d (DV.sl (edD E) (List.length E) 2 c nl)), (40, .d (iD (↑(List.length E) : Int))), (41, .d (iD (IntKind.wrap IntKind.i64 (i + 1))))], [.dc out, .dc (row ++ [iD (if Int.tmod (IntKind.wrap IntKind.i64 (x3 + t)) sz < Int.tmod (IntKind.wrap IntKind.i64 (x2 + t)) sz then Int.tmod (IntKind.wrap IntKind.i64 (x3 + t)) sz else Int.tmod (IntKind.wrap IntKind.i64 (x2 + t)) sz), iD (if Int.tmod (IntKind.wrap IntKind.i64 (x3 + t)) sz > Int.tmod (IntKind.wrap IntKind.i64 (x2 + t)) sz then Int.tmod (IntKind.wrap IntKind.i64 (x3 + t)) sz else Int.tmod (IntKind.wrap IntKind.i64 (x2 + t)) sz)])], []⟩)
              else
                none
          else
            none
      else
        none
    else
      none
  else
    some (Ex.exit 2, ⟨[(1, .d (DV.sl (edD E) (List.length E) 2 c nl)), (2, .d (DV.sl (ints l) (List.length l) 1 c2 nl2)), (10, .d (iD sz)), (11, AV.grow 0 1 false), (13, .d (DV.sl row (lenOf 2 (List.length row)) 2 false (true && Nat.beq (List.length row) 0))), (35, .d (iD sz)), (36, .d (iD t))], [.dc out], []⟩) := by kernel_rfl

theorem r15_n (E : List (Int × Int)) (c nl : Bool) (l : List Int) (c2 nl2 : Bool) (sz : Int) (out : List DV) (t : Int) (row : List DV) : nextS aeC evC 15 0 Try.f15 (some 0) 2 (.exit 2) (x15 E c nl l c2 nl2 sz out t row) (roundD aeC 15 0 0) =
  bif Nat.ble (lenOf 1 (List.length out) + 1) 1048576 then
    some (Ex.norm, ⟨[(1, .d (DV.sl (edD E) (List.length E) 2 c nl)), (2, .d (DV.sl (ints l) (List.length l) 1 c2 nl2)), (10, .d (iD sz)), (11, AV.grow 0 1 false), (35, .d (iD sz)), (36, .d (iD (IntKind.wrap IntKind.i64 (t + 1))))], [.dc (out ++ [DV.sl row (lenOf 2 (List.length row)) 2 false (true && Nat.beq (List.length row) 0)])], []⟩)
  else
    none := by kernel_rfl

theorem r15h (n : Int) (E : List (Int × Int)) (c : Bool) (l : List Int) (c2 nl2 : Bool) : startS aeC evC 15 0 Try.f15 none ⟨envOf 0 ([iD n, edgX E c false, lstX l c2 nl2].map .d), [], []⟩ (heldD aeC 15 0) =
  bif isE (edD E) (List.length E) then
    bif decide (openS n (unE (edD E)) = 0) then
      bif decide (openS n (unE (edD E)) = 0) && (isE (edD E) (List.length E) && (isI (ints l) && Nat.beq (List.length (ints l)) (List.length l))) then
        bif !gracB n (unE (edD E)) (unI (ints l)) then
          none
        else
          some (0, ⟨[(1, .d (DV.sl (edD E) (List.length E) 2 c false)), (2, .d (DV.sl (ints l) (List.length l) 1 c2 nl2)), (10, .d (iD (IntKind.wrap IntKind.i64 (IntKind.wrap IntKind.i64 (2 * (↑(List.length E) : Int)) + 1)))), (11, AV.grow 0 1 false), (35, .d (iD (IntKind.wrap IntKind.i64 (IntKind.wrap IntKind.i64 (2 * (↑(List.length E) : Int)) + 1)))), (36, .d (iD 0))], [.dc []], []⟩)
      else
        none
    else
      bif !decide (openS n (unE (edD E)) = 0) then
        none
      else
        none
  else
    none := by kernel_rfl

theorem r15d (n : Int) (E : List (Int × Int)) (c : Bool) (l : List Int) (c2 nl2 : Bool) : startS aeC evC 15 0 Try.f15 none ⟨envOf 0 ([iD n, edgX E c false, lstX l c2 nl2].map .d), [], []⟩ (doneE aeC Try.f15 0 fun v h => freezeV h 4 v) =
  bif isE (edD E) (List.length E) then
    bif decide (openS n (unE (edD E)) = 0) then
      bif decide (openS n (unE (edD E)) = 0) && (isE (edD E) (List.length E) && (isI (ints l) && Nat.beq (List.length (ints l)) (List.length l))) then
        bif !gracB n (unE (edD E)) (unI (ints l)) then
          some (DV.tup [DV.sl [] 0 0 false true, iD 1])
        else
          none
      else
        none
    else
      bif !decide (openS n (unE (edD E)) = 0) then
        some (DV.tup [DV.sl [] 0 0 false true, iD (openS n (unE (edD E)))])
      else
        none
  else
    none := by kernel_rfl

theorem r15_0 (E : List (Int × Int)) (c nl : Bool) (l : List Int) (c2 nl2 : Bool) (sz : Int) (out : List DV) (t : Int) : startS aeC evC 15 0 Try.f15 (some 0) (s15 E c nl l c2 nl2 sz out t) (heldD aeC 15 0) =
  bif decide (t < sz) then
    some (2, ⟨[(1, .d (DV.sl (edD E) (List.length E) 2 c nl)), (2, .d (DV.sl (ints l) (List.length l) 1 c2 nl2)), (10, .d (iD sz)), (11, AV.grow 0 1 false), (12, .d (iD t)), (13, AV.grow 1 2 false), (35, .d (iD sz)), (36, .d (iD t)), (39, .d (DV.sl (edD E) (List.length E) 2 c nl)), (40, .d (iD (↑(List.length E) : Int))), (41, .d (iD 0))], [.dc out, .dc []], []⟩)
  else
    none := by kernel_rfl

theorem r15_0x (E : List (Int × Int)) (c nl : Bool) (l : List Int) (c2 nl2 : Bool) (sz : Int) (out : List DV) (t : Int) : startS aeC evC 15 0 Try.f15 (some 0) (s15 E c nl l c2 nl2 sz out t) (roundD aeC 15 0 0) =
  bif decide (t < sz) then
    none
  else
    some (Ex.exit 0, ⟨[(11, AV.grow 0 1 false)], [.dc out], []⟩) := by kernel_rfl

theorem r15_x (out : List DV) : nextS aeC evC 15 0 Try.f15 none 0 (.exit 0) ⟨[(11, AV.grow 0 1 false)], [.dc out], []⟩ (doneE aeC Try.f15 0 fun v h => freezeV h 4 v) =
  some (DV.tup [DV.sl out (lenOf 1 (List.length out)) 1 false (true && Nat.beq (List.length out) 0), iD 0]) := by kernel_rfl

/-- A row of pairs as it is handed on. -/
def rowDV (r : List (Int × Int)) : DV := .sl (edD r) r.length 2 false (Nat.beq r.length 0)
theorem rowDV_eq (r : List (Int × Int)) : DV.sl (edD r) (lenOf 2 (edD r).length) 2 false (true && Nat.beq (edD r).length 0) = rowDV r := by
  rw [lenOf_ed, Bool.true_and, len_prs]
  unfold rowDV
  congr 1
  cases r with
  | nil => rfl
  | cons e r => simp only [List.length_cons, Nat.succ_mul]; rfl
/-- An edge of a copy. -/
def cpE (l : List Int) (sz t : Int) (e : Int × Int) : Int × Int := (min (Int.tmod (labAt l e.1 + t) sz) (Int.tmod (labAt l e.2 + t) sz), max (Int.tmod (labAt l e.1 + t) sz) (Int.tmod (labAt l e.2 + t) sz))
/-- The copies from a shift on. -/
def cpFrom (E : List (Int × Int)) (l : List Int) (sz : Int) : Nat → Int → List (List (Int × Int))
  | 0, _ => []
  | k + 1, t => E.map (cpE l sz t) :: cpFrom E l sz k (t + 1)

theorem edD_app : ∀ (a b : List (Int × Int)), edD (a ++ b) = edD a ++ edD b
  | [], b => rfl
  | e :: r, b => by show iD e.1 :: iD e.2 :: edD (r ++ b) = _; rw [edD_app r b]; rfl

theorem l15_2 (E : List (Int × Int)) (c nl : Bool) (l : List Int) (c2 nl2 : Bool) (sz : Int) (out : List DV) (t : Int) (hE : EdOK l.length E) (hl : LabOK 10 l) (hlen : E.length ≤ 10) (hs : 1 ≤ sz ∧ sz ≤ 21) (ht : 0 ≤ t ∧ t < sz) (hln : l.length ≤ 100) : ∀ (r : List (Int × Int)) (i : Nat) (row : List (Int × Int)), row.length = i → i ≤ E.length → E.drop i = r →
      LoopAt aeC evC 15 0 Try.f15 2 (t15 E c nl l c2 nl2 sz out t (edD row) i) (.exit 2) (x15 E c nl l c2 nl2 sz out t (edD (row ++ r.map (cpE l sz t))))
  | [], i, row, hrow, hi, hr => by
    have h1 := drop_nil_o hr
    refine .out k15_2 (by simp) ((r15_2 ..).trans ?_)
    rw [cnd_neg (by omega), List.map_nil, List.append_nil]; rfl
  | d :: r, i, row, hrow, hi, hr => by
    obtain ⟨h1, h2, h3⟩ := drop_cons_o (d := (0, 0)) hr
    have hd := hE.get h1
    have ha := hl.at hd.1 (by omega)
    have hb := hl.at (show 0 ≤ (E.getD i (0, 0)).2 by omega) hd.2.2
    rw [h2] at hd ha hb
    have res := r15_2 E c nl l c2 nl2 sz out t (edD row) i
    rw [lenOf_ed] at res
    revert res
    simp (disch := omega) only [cnd_pos, cnd_neg, inR_pos, ble_pos, blt_pos, beq_pos, cond_and, cond_or, Bool.cond_not, cond_true, cond_false, Bool.and_true, Bool.true_and, getI_some, getB_some, nth_ints_o, nth_bools_o, wrap64_o, len_ints, len_bools, lenOf_1, Int.toNat_natCast, Nat.mul_one, Nat.zero_add, setNth_bools_o, setNth_ints_o, len_set_i, len_set_b, Option.bind_some, List.length_append, List.length_cons, List.length_nil, unI_ints, unB_bools, ints_app1, bools_app1, nth_pr1, nth_pr2, len_prs, abs_if, Nat.add_zero, cond_same, h2, show l.getD d.1.toNat 0 = labAt l d.1 from rfl, show l.getD d.2.toNat 0 = labAt l d.2 from rfl, min_if_o, max_if_o]
    intro res
    have := l15_2 E c nl l c2 nl2 sz out t hE hl hlen hs ht hln r (i + 1) (row ++ [cpE l sz t d]) (by simp [hrow]) h1 h3
    rw [edD_app, List.append_assoc, List.singleton_append] at this
    exact .next k15_2 res this

theorem l15_0 (E : List (Int × Int)) (c nl : Bool) (l : List Int) (c2 nl2 : Bool) (sz : Int) (hE : EdOK l.length E) (hl : LabOK 10 l) (hlen : E.length ≤ 10) (hs : 1 ≤ sz ∧ sz ≤ 21) (hln : l.length ≤ 100) : ∀ (k : Nat) (t : Int) (out : List DV), t + k = sz → 0 ≤ t → (out.length : Int) = t →
      LoopAt aeC evC 15 0 Try.f15 0 (s15 E c nl l c2 nl2 sz out t) (.exit 0) ⟨[(11, AV.grow 0 1 false)], [.dc (out ++ (cpFrom E l sz k t).map rowDV)], []⟩
  | 0, t, out, hk, h0, ho => by
    refine .out k15_0 (by simp) ((r15_0x ..).trans ?_)
    rw [cnd_neg (by omega)]
    simp [cpFrom]
  | k + 1, t, out, hk, h0, ho => by
    have hh := r15_0 E c nl l c2 nl2 sz out t
    rw [cnd_pos (by omega)] at hh
    have inner := l15_2 E c nl l c2 nl2 sz out t hE hl hlen hs ⟨h0, by omega⟩ hln E 0 [] rfl (by omega) rfl
    have hn := r15_n E c nl l c2 nl2 sz out t (edD ([] ++ E.map (cpE l sz t)))
    rw [ble_pos (by show out.length + 1 ≤ 1048576; omega), wrap64 (by omega) (by omega), rowDV_eq, List.nil_append] at hn
    rw [List.nil_append] at inner
    refine .nextF k15_0 ((startF_seg k15_0 hh inner).trans (nextF_done k15_0 roundD_plain hn)) ?_
    have ih := l15_0 E c nl l c2 nl2 sz hE hl hlen hs hln k (t + 1) (out ++ [rowDV (E.map (cpE l sz t))]) (by omega) (by omega) (by simp; omega)
    rw [List.append_assoc, List.singleton_append] at ih
    exact ih

/-- All copies. -/
def cpAll (E : List (Int × Int)) (l : List Int) : List (List (Int × Int)) := cpFrom E l (2 * E.length + 1) (2 * E.length + 1) 0
def rowsDV (R : List (List (Int × Int))) : DV := .sl (R.map rowDV) R.length 1 false false
theorem cpFrom_len (E : List (Int × Int)) (l : List Int) (sz : Int) : ∀ (k : Nat) (t : Int), (cpFrom E l sz k t).length = k
  | 0, _ => rfl
  | k + 1, t => by simp [cpFrom, cpFrom_len E l sz k]

theorem rows_eq (E : List (Int × Int)) (l : List Int) (h : 1 ≤ E.length) : (DV.sl ([] ++ (cpAll E l).map rowDV) (lenOf 1 ([] ++ (cpAll E l).map rowDV).length) 1 false (true && Nat.beq ([] ++ (cpAll E l).map rowDV).length 0)) = rowsDV (cpAll E l) := by
  rw [List.nil_append, Go.AE.lenOf_1, List.length_map]
  have : (cpAll E l).length = 2 * E.length + 1 := cpFrom_len ..
  have hb : Nat.beq (cpAll E l).length 0 = false := by
    cases h : Nat.beq (cpAll E l).length 0 with
    | false => rfl
    | true => have := Nat.eq_of_beq_eq_true h; omega
  rw [hb]; rfl

/-- What the program's copies are. -/
noncomputable def cpD (n : Int) (E : List (Int × Int)) (l : List Int) : DV := bif gracB n E l then .tup [rowsDV (cpAll E l), iD 0] else .tup [nilS1, iD 1]

theorem copies_ok (n : Int) (E : List (Int × Int)) (c : Bool) (l : List Int) (c2 nl2 : Bool) (hn : openS n E = 0) : PureOK Try.prog 15 [iD n, edgX E c false, lstX l c2 nl2] (cpD n E l) := by
  have hEv : EvOK Try.prog evC := EvOK.add (EvOK.add EvOK.nil sp47x_ok) sp48_ok
  obtain ⟨hg, h2, h7⟩ := open_graph hn
  have h1 : 1 ≤ E.length := hg.2.2.1
  have h10 : E.length ≤ 10 := hg.2.2.2.1
  refine ae_pure hEv (fn := Try.f15) k15 (by kernel_rfl) (by kernel_rfl) ?_
  have hd := r15d n E c l c2 nl2
  have hh := r15h n E c l c2 nl2
  have e3 : (decide (openS n E = 0) && (isE (edD E) E.length && (isI (ints l) && Nat.beq (ints l).length l.length))) = true := by rw [hn, isE_ed, isI_ints, len_ints, Nat.beq_refl]; rfl
  rw [unE_ed, e3, isE_ed, decide_eq_true hn, unI_ints] at hd hh
  unfold cpD
  cases hgr : gracB n E l with
  | false =>
    rw [hgr] at hd
    exact startF_done k15 done_plain hd
  | true =>
    rw [hgr] at hh
    simp only [cond_true, Bool.not_true, cond_false] at hh
    rw [wrap64 (by rw [wrap64 (by omega) (by omega)]; omega) (by rw [wrap64 (by omega) (by omega)]; omega), wrap64 (by omega) (by omega)] at hh
    have hll := grac_len hgr
    have hnew : newS E.length [] l = true := by
      simp only [gracB, Bool.and_eq_true] at hgr
      exact hgr.2.1
    have hE : EdOK l.length E := by
      have : l.length = n.toNat := by omega
      rw [this]; exact hg.2.2.2.2
    have loop := l15_0 E c false l c2 nl2 (2 * (E.length : Int) + 1) hE ((newS_lab hnew).mono (by omega)) h10 (by omega) (by omega) (2 * E.length + 1) 0 [] (by omega) (by omega) rfl
    have := startF_one k15 done_plain hh loop (r15_x ..)
    rw [this, cond_true, ← rows_eq E l h1]
    rfl

/-! ### 'rows' -/
end Go.Proofs.Ytkcdbndpcabelaa

/- Chapter 02: Covers (33), the loops over copies; maps from edges to numbers. -/
namespace Go.Proofs.Ytkcdbndpcabelaa
open Go Go.AE
set_option maxRecDepth 100000
/-! ### Maps from edges to numbers -/
def keyC (e : Int × Int) : DV := .agg [iD e.1, iD e.2]
def esC (S : List ((Int × Int) × Int)) : List (DV × DV) := S.map fun x => (keyC x.1, iD x.2)
theorem esC_len (S : List ((Int × Int) × Int)) : (esC S).length = S.length := by simp [esC]
theorem esC_nth (S : List ((Int × Int) × Int)) (i : Nat) : nth (esC S) i = (nth S i).map fun x => (keyC x.1, iD x.2) := by unfold esC; rw [nth_map]
theorem key90 (e f : Int × Int) : keyEq aeT 90 (keyC e) (keyC f) = some (decide (e = f)) := by
  obtain ⟨a, b⟩ := e
  obtain ⟨c, d⟩ := f
  have h : keyEq aeT 90 (.agg [iD a, iD b]) (.agg [iD c, iD d]) = some (decide (a = c) && (decide (b = d) && true)) := by kernel_rfl
  rw [show keyC (a, b) = .agg [iD a, iD b] from rfl, show keyC (c, d) = .agg [iD c, iD d] from rfl, h]
  congr 1
  rw [Bool.eq_iff_iff]
  simp
/-- Where an edge is. -/
def findC (e : Int × Int) : List ((Int × Int) × Int) → Option Nat
  | [] => none
  | x :: r => if x.1 = e then some 0 else (findC e r).map (· + 1)
theorem findM_C (e : Int × Int) : ∀ S, findM aeT 90 (keyC e) (esC S) = some (findC e S)
  | [] => rfl
  | x :: S => by
    show (keyEq aeT 90 (keyC e) (keyC x.1)).bind (fun b => cond b (some (some 0)) ((findM aeT 90 (keyC e) (esC S)).map fun o => o.map (· + 1))) = _
    rw [key90, Option.bind_some, findM_C e S, show findC e (x :: S) = (if x.1 = e then some 0 else (findC e S).map (· + 1)) from rfl]
    by_cases h : e = x.1
    · rw [decide_eq_true h, if_pos h.symm]; rfl
    · rw [decide_eq_false h, if_neg (Ne.symm h)]; rfl
theorem findC_at {e : Int × Int} : ∀ {S : List ((Int × Int) × Int)} {i : Nat}, findC e S = some i → ∃ c, nth S i = some (e, c)
  | [], i, h => by simp [findC] at h
  | x :: S, i, h => by
    unfold findC at h
    split at h
    · rename_i hx
      cases h
      exact ⟨x.2, by simp only [nth]; rw [← hx]⟩
    · simp only [Option.map_eq_some_iff] at h
      obtain ⟨j, h1, rfl⟩ := h
      exact findC_at (S := S) h1
theorem findC_none {e : Int × Int} : ∀ {S : List ((Int × Int) × Int)}, findC e S = none ↔ ∀ x ∈ S, x.1 ≠ e
  | [] => by simp [findC]
  | x :: S => by
    unfold findC
    split
    · rename_i h; simp [h]
    · rename_i h
      simp only [Option.map_eq_none_iff, findC_none (S := S), List.mem_cons]
      constructor
      · rintro h1 y (rfl | hy)
        · exact h
        · exact h1 y hy
      · intro h1 y hy; exact h1 y (.inr hy)
/-- One more of an edge. -/
def addC (e : Int × Int) (S : List ((Int × Int) × Int)) : List ((Int × Int) × Int) :=
  match findC e S with
  | some i => match nth S i with
    | some x => setNth S i (e, x.2 + 1)
    | none => S
  | none => S ++ [(e, 1)]
def s330 (sz : Int) (R : List DV) (n : Nat) (nl : Bool) (es : List (DV × DV)) (i : Int) : St := ⟨[(0, .d (iD sz)), (6, AV.mp 0), (25, .d (DV.sl R n 1 false nl)), (26, .d (iD (n : Int))), (27, .d (iD i))], [.mp es], []⟩
def s332 (sz : Int) (R : List DV) (n : Nat) (nl : Bool) (es : List (DV × DV)) (i : Int) (E : List DV) (m : Nat) (z : Bool) (k : Int) : St := ⟨[(0, .d (iD sz)), (6, AV.mp 0), (25, .d (DV.sl R n 1 false nl)), (26, .d (iD (n : Int))), (27, .d (iD i)), (34, .d (DV.sl E m 2 false z)), (35, .d (iD (m : Int))), (36, .d (iD k))], [.mp es], []⟩
def bad33 : St := ⟨[(4, .d (bD false)), (5, .d (iD 1))], [], []⟩
theorem t33_d (sz : Int) (R : List DV) (n : Nat) (nl : Bool) : startS aeC Ev.nil 33 0 Try.f33 none ⟨envOf 0 [.d (iD sz), .d (.sl R n 1 false nl)], [], []⟩ (doneE aeC Try.f33 0 fun v h => freezeP 33 h v) =
  bif decide (sz < 2) then some (DV.tup [bD false, iD 1]) else bif decide (21 < sz) then some (DV.tup [bD false, iD 1]) else bif decide (40 < (n : Int)) then some (DV.tup [bD false, iD 1]) else none := by kernel_rfl
theorem t33_0 (sz : Int) (R : List DV) (n : Nat) (nl : Bool) (es : List (DV × DV)) (i : Int) : startS aeC Ev.nil 33 0 Try.f33 (some 0) (s330 sz R n nl es i) (heldD aeC 33 0) =
  bif decide (i < (n : Int)) then (bif inRange i n then (getS (nth R (Int.toNat i * 1)) fun cs0 n0 sz0 c0 nl0 => bif nl0 || Nat.beq sz0 2 then (bif decide (20 < (n0 : Int)) then none else some (2, s332 sz R n nl es i cs0 n0 nl0 0)) else none) else none) else none := by kernel_rfl
theorem t33_0x (sz : Int) (R : List DV) (n : Nat) (nl : Bool) (es : List (DV × DV)) (i : Int) : startS aeC Ev.nil 33 0 Try.f33 (some 0) (s330 sz R n nl es i) (roundD aeC 33 0 0) =
  bif decide (i < (n : Int)) then (bif inRange i n then (getS (nth R (Int.toNat i * 1)) fun cs0 n0 sz0 c0 nl0 => bif nl0 || Nat.beq sz0 2 then (bif decide (20 < (n0 : Int)) then some (Ex.ret, bad33) else none) else none) else none)
  else some (Ex.exit 0, ⟨[(0, .d (iD sz)), (6, AV.mp 0)], [.mp es], []⟩) := by kernel_rfl
noncomputable def W33 {X : Type} (e : Int × Int) (es : List (DV × DV)) (K : List (DV × DV) → Option X) : Option X :=
  (findM aeT 90 (keyC e) es).bind fun o => match o with
    | none => getI (findV aeT 90 (keyC e) (iD 0) (es ++ [(keyC e, iD 0)])) fun x => (nth (es ++ [(keyC e, iD 0)]) (Int.toNat (es.length : Int))).bind fun y => K (setNth (es ++ [(keyC e, iD 0)]) (Int.toNat (es.length : Int)) (y.1, iD (IntKind.wrap IntKind.i64 (x + 1))))
    | some i => (nth es i).bind fun y => getI (some y.2) fun _ => getI (findV aeT 90 (keyC e) (iD 0) es) fun x => (nth es (Int.toNat (i : Int))).bind fun y => K (setNth es (Int.toNat (i : Int)) (y.1, iD (IntKind.wrap IntKind.i64 (x + 1))))
theorem t33_2 (sz : Int) (R : List DV) (n : Nat) (nl : Bool) (es : List (DV × DV)) (i : Int) (E : List DV) (m : Nat) (z : Bool) (k : Int) : startS aeC Ev.nil 33 0 Try.f33 (some 2) (s332 sz R n nl es i E m z k) (roundD aeC 33 0 2) =
  bif decide (k < (m : Int)) then (bif inRange k m then (getI (nth E (Int.toNat k * 2)) fun x0 => getI (nth E (Int.toNat k * 2 + 1)) fun x1 =>
      bif decide (x0 < 0) then some (Ex.ret, bad33) else bif decide (x1 ≤ x0) then some (Ex.ret, bad33) else bif decide (sz ≤ x1) then some (Ex.ret, bad33) else
        W33 (x0, x1) es fun es' => some (Ex.norm, s332 sz R n nl es' i E m z (IntKind.wrap IntKind.i64 (k + 1)))) else none)
  else some (Ex.exit 2, s330 sz R n nl es i) := by kernel_rfl
theorem t33_n (sz : Int) (R : List DV) (n : Nat) (nl : Bool) (es : List (DV × DV)) (i : Int) : nextS aeC Ev.nil 33 0 Try.f33 (some 0) 2 (.exit 2) (s330 sz R n nl es i) (roundD aeC 33 0 0) = some (Ex.norm, s330 sz R n nl es (IntKind.wrap IntKind.i64 (i + 1))) := by kernel_rfl
theorem t33_r  : nextS aeC Ev.nil 33 0 Try.f33 (some 0) 2 .ret bad33 (roundD aeC 33 0 0) = some (Ex.ret, bad33) := by kernel_rfl
theorem k33 : OkSeg Try.f33 none [0, 4] := ⟨by kernel_rfl, by kernel_rfl, by decide⟩
theorem k33_0 : OkSeg Try.f33 (some 0) [2] := ⟨by kernel_rfl, by kernel_rfl, by decide⟩
theorem k33_2 : OkSeg Try.f33 (some 2) [] := ⟨by kernel_rfl, by kernel_rfl, by decide⟩
end Go.Proofs.Ytkcdbndpcabelaa

/- Chapter 02: Covers (33): what the loops over copies come to. -/
namespace Go.Proofs.Ytkcdbndpcabelaa
open Go Go.AE
set_option maxRecDepth 100000
theorem findC_push {e : Int × Int} {c : Int} : ∀ {S : List ((Int × Int) × Int)}, findC e S = none → findC e (S ++ [(e, c)]) = some S.length
  | [], _ => by simp [findC]
  | x :: S, h => by
    have h1 := findC_none.1 h
    have h2 : findC e S = none := findC_none.2 fun y hy => h1 y (List.mem_cons_of_mem _ hy)
    rw [List.cons_append, show findC e (x :: (S ++ [(e, c)])) = (if x.1 = e then some 0 else (findC e (S ++ [(e, c)])).map (· + 1)) from rfl, if_neg (h1 x (List.mem_cons_self ..)), findC_push h2]
    rfl
theorem setNth_last {α : Type} (l : List α) (x y : α) : setNth (l ++ [x]) l.length y = l ++ [y] := by
  rw [setNth_eq, List.set_append_right _ _ (Nat.le_refl _)]; simp
theorem esC_set (S : List ((Int × Int) × Int)) (i : Nat) (e : Int × Int) (c : Int) : setNth (esC S) i (keyC e, iD c) = esC (setNth S i (e, c)) := by
  rw [setNth_eq, setNth_eq]; unfold esC; rw [List.map_set]
/-- Numbers that are not too great. -/
def cntB (B : Int) (S : List ((Int × Int) × Int)) : Prop := ∀ x ∈ S, 1 ≤ x.2 ∧ x.2 ≤ B
theorem addC_B {B : Int} {e : Int × Int} {S : List ((Int × Int) × Int)} (hB : 0 ≤ B) (h : cntB B S) : cntB (B + 1) (addC e S) := by
  unfold addC
  cases hf : findC e S with
  | none =>
    intro x hx
    simp only [List.mem_append, List.mem_singleton] at hx
    rcases hx with hx | rfl
    · have := h x hx; omega
    · simp only; omega
  | some i =>
    obtain ⟨c, hc⟩ := findC_at hf
    simp only [hc]
    intro x hx
    rw [setNth_eq] at hx
    have hm := h (e, c) (mem_of_nth hc)
    simp only at hm
    rcases List.mem_or_eq_of_mem_set hx with hx | rfl
    · have := h x hx; omega
    · simp only; omega
theorem W33_ok {X : Type} {B : Int} (hB : B ≤ 100000) {e : Int × Int} {S : List ((Int × Int) × Int)} (h : cntB B S) (K : List (DV × DV) → Option X) : W33 e (esC S) K = K (esC (addC e S)) := by
  unfold W33 addC
  rw [findM_C, Option.bind_some]
  cases hf : findC e S with
  | none =>
    dsimp only
    have h1 : esC S ++ [(keyC e, iD 0)] = esC (S ++ [(e, 0)]) := by simp [esC]
    have h2 : findV aeT 90 (keyC e) (iD 0) (esC (S ++ [(e, 0)])) = some (iD 0) := by
      unfold findV
      rw [findM_C, findC_push hf, Option.bind_some]
      dsimp only
      rw [esC_nth, nth_append_len]; rfl
    rw [h1, h2, getI_some, Int.toNat_natCast, esC_len, esC_nth, nth_append_len]
    show K (setNth (esC (S ++ [(e, 0)])) S.length (keyC e, iD (IntKind.wrap IntKind.i64 (0 + 1)))) = _
    rw [esC_set, setNth_last, wrap64_o (by decide) (by decide)]
    rfl
  | some i =>
    dsimp only
    obtain ⟨c, hc⟩ := findC_at hf
    have hm := h (e, c) (mem_of_nth hc)
    simp only at hm
    have h2 : findV aeT 90 (keyC e) (iD 0) (esC S) = some (iD c) := by
      unfold findV
      rw [findM_C, hf, Option.bind_some]
      dsimp only
      rw [esC_nth, hc]; rfl
    rw [esC_nth, hc, h2]
    simp only [Option.map_some, Option.bind_some, getI_some, Int.toNat_natCast]
    rw [esC_nth, hc]
    simp only [Option.map_some, Option.bind_some]
    rw [esC_set, wrap64_o (by omega) (by omega)]
/-- Whether a pair is one of nodes. -/
def okE (sz : Int) (e : Int × Int) : Bool := decide (0 ≤ e.1) && (decide (e.1 < e.2) && decide (e.2 < sz))
/-- The edges of one copy; of all. -/
def runC (sz : Int) : List (Int × Int) → List ((Int × Int) × Int) → Option (List ((Int × Int) × Int))
  | [], S => some S
  | e :: r, S => bif okE sz e then runC sz r (addC e S) else none
def runR (sz : Int) : List (List (Int × Int)) → List ((Int × Int) × Int) → Option (List ((Int × Int) × Int))
  | [], S => some S
  | E :: r, S => bif decide (20 < E.length) then none else (runC sz E S).bind (runR sz r)
theorem runC_B {sz : Int} : ∀ {r : List (Int × Int)} {S S' : List ((Int × Int) × Int)} {B : Int}, 0 ≤ B → cntB B S → runC sz r S = some S' → cntB (B + r.length) S'
  | [], S, S', B, _, h, e => by cases e; simpa using h
  | e :: r, S, S', B, hB, h, hr => by
    unfold runC at hr
    obtain ⟨_, hr⟩ := cond_none hr
    have := runC_B (B := B + 1) (by omega) (addC_B hB h) hr
    simp only [List.length_cons]
    have e : (B + ((r.length + 1 : Nat) : Int)) = B + 1 + r.length := by omega
    rw [e]; exact this
/-- Rows as data. -/
def rowZ (r : List (Int × Int)) (c z : Bool) : DV := .sl (edD r) r.length 2 c z
/-- Whether these are the rows of those. -/
def isRows : List DV → List (List (Int × Int)) → Prop
  | [], [] => True
  | d :: ds, r :: rs => (∃ c z, d = rowZ r c z) ∧ isRows ds rs
  | _, _ => False
theorem isRows_nth : ∀ {D : List DV} {R : List (List (Int × Int))} {i : Nat} {r : List (Int × Int)}, isRows D R → R[i]? = some r → ∃ c z, nth D i = some (rowZ r c z)
  | [], [], i, r, _, h => by simp at h
  | d :: D, x :: R, 0, r, h, e => by
    simp only [List.getElem?_cons_zero, Option.some.injEq] at e
    subst e
    obtain ⟨c, z, rfl⟩ := h.1
    exact ⟨c, z, rfl⟩
  | d :: D, x :: R, i + 1, r, h, e => by
    simp only [List.getElem?_cons_succ] at e
    exact isRows_nth (D := D) h.2 e
  | [], _ :: _, _, _, h, _ => h.elim
  | _ :: _, [], _, _, h, _ => h.elim
/-- What a loop comes to: the next state, or it is refused. -/
def outC (sz : Int) (D : List DV) (n : Nat) (nl : Bool) (i : Int) : Option (List ((Int × Int) × Int)) → Ex × St
  | some S => (.exit 2, s330 sz D n nl (esC S) i)
  | none => (.ret, bad33)
theorem loop332 (sz : Int) (D : List DV) (n : Nat) (nl : Bool) (i : Int) (E : List (Int × Int)) (hE : E.length ≤ 20) (z : Bool) : ∀ (r : List (Int × Int)) (k : Nat) (S : List ((Int × Int) × Int)) (B : Int), 0 ≤ B → B + r.length ≤ 100000 → cntB B S → E.drop k = r →
    LoopAt aeC Ev.nil 33 0 Try.f33 2 (s332 sz D n nl (esC S) i (edD E) E.length z k) (outC sz D n nl i (runC sz r S)).1 (outC sz D n nl i (runC sz r S)).2
  | [], k, S, B, _, _, _, hd => by
    have := drop_nil_o hd
    exact .out k33_2 (by simp [outC, runC]) ((t33_2 ..).trans (cnd_neg (by omega)))
  | e :: r, k, S, B, h0, hB, h, hd => by
    obtain ⟨h1, h2, h3⟩ := drop_cons_o (d := (0, 0)) hd
    simp only [List.length_cons] at hB
    have hr : startS aeC Ev.nil 33 0 Try.f33 (some 2) (s332 sz D n nl (esC S) i (edD E) E.length z k) (roundD aeC 33 0 2) = bif okE sz e then some (Ex.norm, s332 sz D n nl (esC (addC e S)) i (edD E) E.length z ((k + 1 : Nat) : Int)) else some (Ex.ret, bad33) := by
      refine (t33_2 ..).trans ((cnd_pos (by omega)).trans ((inR_pos (by omega) (by omega)).trans ?_))
      rw [Int.toNat_natCast, nth_pr1 h1, nth_pr2 h1, h2, getI_some, getI_some]
      have hw : IntKind.wrap .i64 ((k : Int) + 1) = ((k + 1 : Nat) : Int) := by rw [wrap64_o (by omega) (by omega)]; rfl
      unfold okE
      by_cases c1 : e.1 < 0
      · rw [decide_eq_true c1, decide_eq_false (show ¬ 0 ≤ e.1 by omega)]; rfl
      by_cases c2 : e.2 ≤ e.1
      · rw [decide_eq_false c1, decide_eq_true c2, decide_eq_true (show 0 ≤ e.1 by omega), decide_eq_false (show ¬ e.1 < e.2 by omega)]; rfl
      by_cases c3 : sz ≤ e.2
      · rw [decide_eq_false c1, decide_eq_false c2, decide_eq_true c3, decide_eq_true (show 0 ≤ e.1 by omega), decide_eq_true (show e.1 < e.2 by omega), decide_eq_false (show ¬ e.2 < sz by omega)]; rfl
      rw [decide_eq_false c1, decide_eq_false c2, decide_eq_false c3, decide_eq_true (show 0 ≤ e.1 by omega), decide_eq_true (show e.1 < e.2 by omega), decide_eq_true (show e.2 < sz by omega)]
      simp only [cond_false, Bool.and_self, cond_true]
      rw [show ((e.1, e.2) : Int × Int) = e from rfl, W33_ok (by omega) h, hw]
    unfold runC
    cases ho : okE sz e with
    | true =>
      rw [ho] at hr
      exact .next k33_2 hr (loop332 sz D n nl i E hE z r (k + 1) (addC e S) (B + 1) (by omega) (by omega) (addC_B h0 h) h3)
    | false =>
      rw [ho] at hr
      exact .out k33_2 (by simp [outC]) hr
def outR (sz : Int) : Option (List ((Int × Int) × Int)) → Ex × St
  | some S => (.exit 0, ⟨[(0, .d (iD sz)), (6, AV.mp 0)], [.mp (esC S)], []⟩)
  | none => (.ret, bad33)
theorem loop330 (sz : Int) (D : List DV) (R : List (List (Int × Int))) (hD : isRows D R) (nl : Bool) (hn : R.length ≤ 40) : ∀ (r : List (List (Int × Int))) (i : Nat) (S : List ((Int × Int) × Int)) (B : Int), 0 ≤ B → B + 20 * r.length ≤ 100000 → cntB B S → R.drop i = r →
    LoopAt aeC Ev.nil 33 0 Try.f33 0 (s330 sz D R.length nl (esC S) i) (outR sz (runR sz r S)).1 (outR sz (runR sz r S)).2
  | [], i, S, B, _, _, _, hd => by
    have := drop_nil_o hd
    exact .out k33_0 (by simp [outR, runR]) ((t33_0x ..).trans (cnd_neg (by omega)))
  | E :: r, i, S, B, h0, hB, h, hd => by
    obtain ⟨h1, h2, h3⟩ := drop_cons_o (d := []) hd
    simp only [List.length_cons] at hB
    obtain ⟨c, z, hx⟩ := isRows_nth (i := i) (r := E) hD (by rw [List.getD_eq_getElem?_getD] at h2; rw [List.getElem?_eq_getElem h1] at h2 ⊢; simpa using h2)
    have e1 : Int.toNat (i : Int) * 1 = i := by simp
    unfold runR
    by_cases hl : 20 < E.length
    · rw [decide_eq_true hl]
      refine .out k33_0 (by simp [outR]) ((t33_0x ..).trans ((cnd_pos (by omega)).trans ((inR_pos (by omega) (by omega)).trans ?_)))
      rw [e1, hx, rowZ, getS_some, decide_eq_true (show 20 < (E.length : Int) by omega)]
      simp only [Nat.beq_refl, Bool.or_true, cond_true]
      rfl
    · rw [decide_eq_false hl, cond_false]
      have hh : startS aeC Ev.nil 33 0 Try.f33 (some 0) (s330 sz D R.length nl (esC S) i) (heldD aeC 33 0) = some (2, s332 sz D R.length nl (esC S) i (edD E) E.length z (0 : Nat)) := by
        refine (t33_0 ..).trans ((cnd_pos (by omega)).trans ((inR_pos (by omega) (by omega)).trans ?_))
        rw [e1, hx, rowZ, getS_some, decide_eq_false (show ¬ 20 < (E.length : Int) by omega)]
        simp only [Nat.beq_refl, Bool.or_true, cond_true, cond_false]
        rfl
      have hL := loop332 sz D R.length nl i E (by omega) z E 0 S B h0 (by omega) h (List.drop_zero ..)
      have hw : IntKind.wrap .i64 ((i : Int) + 1) = ((i + 1 : Nat) : Int) := by rw [wrap64_o (by omega) (by omega)]; rfl
      cases hr : runC sz E S with
      | none =>
        rw [hr] at hL
        exact .outF k33_0 (by simp [outR]) ((startF_seg k33_0 hh hL).trans (nextF_done k33_0 roundD_plain t33_r))
      | some S' =>
        rw [hr] at hL
        refine .nextF k33_0 ((startF_seg k33_0 hh hL).trans (nextF_done k33_0 roundD_plain ((t33_n ..).trans ?_))) (loop330 sz D R hD nl hn r (i + 1) S' (B + E.length) (by omega) (by omega) (runC_B h0 h hr) h3)
        rw [hw]
end Go.Proofs.Ytkcdbndpcabelaa

/- Chapter 02: Covers (33): its contract. -/
namespace Go.Proofs.Ytkcdbndpcabelaa
open Go Go.AE
set_option maxRecDepth 100000
noncomputable def b33 : Code := match Try.f33.body with | some c => c | none => .skip
theorem b33_is : Try.f33.body = some b33 := by kernel_rfl
theorem fn33 : tget aeF 33 = some Try.f33 := by kernel_rfl
theorem nt33 : Try.f33.ntmps = 84 := by kernel_rfl
noncomputable abbrev res33 : List Nat := resTmps Try.f33.results.toList
noncomputable abbrev cE33 {X : Type} (E : Ev) (bid : Nat) (c : Code) (s : St) (D : Ex → St → Option X) : Option X := codeE aeC E 33 0 20 res33 (some 84) bid c s D
noncomputable abbrev cC33 {X : Type} (E : Ev) (bid : Nat) (cs : List Code) (F : St → Option X) (s : St) : Option X := chainE aeC E 33 0 20 res33 (some 84) bid cs F s
noncomputable abbrev td33 (bid : Nat) (s : St) : Option St := tidyP 0 (aeC.pol 33 bid) s
noncomputable def P33 : Code := back 3 b33
noncomputable def Q33 : Code := back 4 b33
noncomputable def M33 : Code := kid 0 (kid 0 (kid 1 (kid 0 Q33)))
def g33 (sz : Int) (es : List (DV × DV)) : St := ⟨[(0, .d (iD sz)), (6, AV.mp 0)], [.mp es], []⟩
def T33 (sz : Int) (es : List (DV × DV)) (seen : List Nat) : St := ⟨[(0, .d (iD sz)), (6, AV.mp 0), (69, AV.ref 1 0)], [.mp es, .mit 0 es.length seen], []⟩
def U33 (b : Bool) (v : List DV) (sz : Int) (es : List (DV × DV)) (n : Nat) (seen : List Nat) : St := ⟨[(71, .d (bD b)), (70, .d (DV.tup v)), (0, .d (iD sz)), (6, AV.mp 0), (69, AV.ref 1 0)], [.mp es, .mit 0 n seen], []⟩
def many33 : St := ⟨[(4, .d (bD false)), (5, .d (iD 0))], [], []⟩
theorem p33_0 (sz : Int) (R : List DV) (n : Nat) (nl : Bool) : cC33 Ev.nil 0 (spineC 3 b33) (cC33 Ev.nil 0 (spineC 1 (kid 0 P33)) (td33 0)) ⟨envOf 0 [.d (iD sz), .d (.sl R n 1 false nl)], [], []⟩ =
  bif decide (sz < 2) then none else bif decide (21 < sz) then none else bif decide (40 < (n : Int)) then none else some (s330 sz R n nl [] 0) := by kernel_rfl
theorem p33_1 (sz : Int) (es : List (DV × DV)) : cC33 Ev.nil 0 (spineC 1 (kid 0 Q33)) (td33 4) (g33 sz es) = some (T33 sz es []) := by kernel_rfl
theorem p33_2 (sz : Int) (es : List (DV × DV)) (seen : List Nat) : runE aeC Ev.nil (opsOf (kid 0 M33)) (opsOf (kid 0 M33)).tail (putE (some 70) (.d (.tup [.bool false])) (T33 sz es seen).env) (T33 sz es seen).heap (fun env h => some (⟨env, h, []⟩ : St)) = some (U33 false [bD false] sz es es.length seen) := by kernel_rfl
theorem p33_3 (sz : Int) (es : List (DV × DV)) (n : Nat) (seen : List Nat) (k x : DV) : runE aeC Ev.nil (opsOf (kid 0 M33)) (opsOf (kid 0 M33)).tail (putE (some 70) (.d (.tup [.bool true, k, x])) (T33 sz es []).env) [.mp es, .mit 0 n seen] (fun env h => some (⟨env, h, []⟩ : St)) = some (U33 true [bD true, k, x] sz es n seen) := by kernel_rfl
theorem p33_4 (sz : Int) (es : List (DV × DV)) (seen : List Nat) : cE33 Ev.nil 4 (kid 1 M33) (U33 false [bD false] sz es es.length seen) (fun ex s => some (ex, s)) = some (Ex.exit 4, g33 sz es) := by kernel_rfl
theorem p33_5 (sz : Int) (es : List (DV × DV)) (n : Nat) (seen : List Nat) (k x : DV) : cE33 Ev.nil 4 (kid 1 M33) (U33 true [bD true, k, x] sz es n seen) (roundD aeC 33 0 4) =
  entW seen es n fun _ x => getI (some x) fun c => bif decide (1 < c) then some (Ex.ret, many33) else some (Ex.norm, ⟨(T33 sz es seen).env, [.mp es, .mit 0 n seen], []⟩) := by kernel_rfl
theorem p33_6 (sz : Int) (es : List (DV × DV)) : cE33 Ev.nil 0 (kid 1 Q33) (g33 sz es) (doneE aeC Try.f33 0 fun v h => freezeP 33 h v) =
  some (DV.tup [bD (decide ((es.length : Int) = IntKind.wrap IntKind.i64 (Int.tdiv (IntKind.wrap IntKind.i64 (sz * IntKind.wrap IntKind.i64 (sz - 1))) 2))), iD 0]) := by kernel_rfl
theorem p33_7 : doneE aeC Try.f33 0 (fun v h => freezeP 33 h v) .ret many33 = some (.tup [bD false, iD 0]) := by kernel_rfl
theorem p33_8 : doneE aeC Try.f33 0 (fun v h => freezeP 33 h v) .ret bad33 = some (.tup [bD false, iD 1]) := by kernel_rfl
abbrev Sat33 (w : World) (σ : Sg) (c : Code) (s : St) (Post : Ex → St → Prop) : Prop := Sat Try.prog aeC 33 84 none 0 w σ [] c s Post
theorem ho33 : ∀ M, some 84 = some M → M = 84 ∧ (none : Option Nat) = none := fun M h => by cases h; exact ⟨rfl, rfl⟩
/-- How many pairs there are. -/
def pairsN (sz : Int) : Int := IntKind.wrap IntKind.i64 (Int.tdiv (IntKind.wrap IntKind.i64 (sz * IntKind.wrap IntKind.i64 (sz - 1))) 2)
/-- What is answered of a map. -/
def ans33 (sz : Int) : Option (List ((Int × Int) × Int)) → DV
  | none => .tup [bD false, iD 1]
  | some S => .tup [bD (S.all (fun x => decide (x.2 ≤ 1)) && decide ((S.length : Int) = pairsN sz)), iD 0]
section
variable {w : World} {σ : Sg}
theorem Sat33.code {E : Ev} (hV : EvOK Try.prog E) (hi : HInv w σ []) {c : Code} (bid : Nat) {s : St} {X : Type} (D : Ex → St → Option X) {x : X} (h : cE33 E bid c s D = some x) : Sat33 w σ c s fun ex s' => D ex s' = some x :=
  Sat.code' ae_T ae_Q ae_mixed hV ho33 hi D h
theorem Sat33.spine {E : Ev} (hV : EvOK Try.prog E) (hi : HInv w σ []) {c : Code} (bid m : Nat) {s : St} {Post : Ex → St → Prop} {X : Type} {x : X} (F : St → Option X) (ha : allSeq m c = true) (h : cC33 E bid (spineC m c) F s = some x) (hF : ∀ s', F s' = some x → Sat33 w σ (back m c) s' Post) : Sat33 w σ c s Post :=
  Sat.spine ae_T ae_Q ae_mixed hV ho33 hi F m c s ha h hF
/-- The range over the map. -/
theorem map33 (hi : HInv w σ []) (sz : Int) (S : List ((Int × Int) × Int)) {s : St} (hs : td33 4 s = some (T33 sz (esC S) [])) :
    Sat33 w σ (kid 1 (kid 0 Q33)) s fun ex s' => (ex = .ret ∧ s' = many33 ∧ S.all (fun x => decide (x.2 ≤ 1)) = false) ∨ (ex = .norm ∧ s' = g33 sz (esC S) ∧ S.all (fun x => decide (x.2 ≤ 1)) = true) := by
  refine Sat.block' (id := 4) (Q1 := fun ex s' => (ex = .ret ∧ s' = many33 ∧ S.all (fun x => decide (x.2 ≤ 1)) = false) ∨ (ex = .exit 4 ∧ s' = g33 sz (esC S) ∧ S.all (fun x => decide (x.2 ≤ 1)) = true)) (by kernel_rfl) ?_
    (fun s' h => by rcases h with h | h <;> cases h.1) (fun s' h => by
      rcases h with h | h
      · exact .inl h
      · cases h.1) (fun i s' h => by
      rcases h with h | h
      · cases h.1
      · obtain ⟨h1, h2⟩ := h
        cases h1
        exact .inr ⟨rfl, h2⟩)
  obtain ⟨o, rest, e1, e2, e3, e4, e5⟩ : ∃ (o : Oper) (rest : List Oper), opsOf (kid 0 M33) = o :: rest ∧ o.op = .next (.tmp 69) false ∧ o.guard = none ∧ o.dst = some 70 ∧ rest = (opsOf (kid 0 M33)).tail := ⟨(opsOf (kid 0 M33)).headD default, (opsOf (kid 0 M33)).tail, by kernel_rfl, by kernel_rfl, by kernel_rfl, by kernel_rfl, by kernel_rfl⟩
  refine Sat.mapLoop (es := esC S) (bid := 4) (x := .tmp 69) ae_T ae_Q EvOK.nil hi (by kernel_rfl) (by kernel_rfl) (by kernel_rfl) e1 e2 e3 (fun seen s => td33 4 s = some (T33 sz (esC S) seen) ∧ ∀ i ∈ seen, ∀ x, nth S i = some x → x.2 ≤ 1) ?_ [] s ⟨hs, by simp⟩
  rintro seen s ⟨h1, h2⟩
  refine ⟨_, 1, 0, h1, rfl, rfl, rfl, fun hall => ⟨U33 false [bD false] sz (esC S) (esC S).length seen, ?_, ?_⟩, fun i e hi' hns he => ⟨U33 true [bD true, e.1, e.2] sz (esC S) (esC S).length (seen ++ [i]), ?_, ?_⟩⟩
  · rw [e4, e5]; exact p33_2 ..
  · refine Sat.mono (Sat33.code EvOK.nil hi 4 (fun ex s => some (ex, s)) (p33_4 ..)) fun ex s' h => ?_
    simp only [Option.some.injEq, Prod.mk.injEq] at h
    obtain ⟨rfl, rfl⟩ := h
    refine ⟨by simp, .inr ⟨rfl, rfl, ?_⟩⟩
    rw [List.all_eq_true]
    intro x hx
    obtain ⟨j, hj, hx⟩ := List.getElem_of_mem hx
    have hn : nth S j = some x := by rw [nth_eq, List.getElem?_eq_getElem hj, hx]
    exact decide_eq_true (h2 j (hall j (by rw [esC_len]; exact hj)) x hn)
  · rw [e4, e5]; exact p33_3 sz (esC S) (esC S).length (seen ++ [i]) e.1 e.2
  · rw [esC_nth] at he
    simp only [Option.map_eq_some_iff] at he
    obtain ⟨x, hx, rfl⟩ := he
    have hr := p33_5 sz (esC S) (esC S).length (seen ++ [i]) (keyC x.1) (iD x.2)
    rw [entW_at (e := (keyC x.1, iD x.2)) (by rw [esC_nth, hx]; rfl), getI_some] at hr
    by_cases hc : 1 < x.2
    · rw [decide_eq_true hc] at hr
      refine Sat.mono (Sat33.code EvOK.nil hi 4 _ hr) fun ex s' h => ?_
      cases ex with
      | norm => simp [roundD] at h
      | exit i =>
        simp only [roundD] at h
        obtain ⟨_, h⟩ := cond_none h
        simp at h
      | ret =>
        simp only [roundD, Option.some.injEq, Prod.mk.injEq, true_and, cond_true] at h
        refine .inl ⟨rfl, h, ?_⟩
        rw [Bool.eq_false_iff]
        intro h3
        have := List.all_eq_true.1 h3 x (mem_of_nth hx)
        simp at this; omega
    · rw [decide_eq_false hc] at hr
      refine Sat.mono (Sat33.code EvOK.nil hi 4 _ hr) fun ex s' h => ?_
      cases ex with
      | norm =>
        simp only [roundD, Option.map_eq_some_iff, cond_false, Option.some.injEq, Prod.mk.injEq, true_and] at h
        obtain ⟨S', h3, rfl⟩ := h
        refine ⟨h3, fun j hj y hy => ?_⟩
        simp only [List.mem_append, List.mem_singleton] at hj
        rcases hj with hj | rfl
        · exact h2 j hj y hy
        · rw [hx] at hy; cases hy; omega
      | exit i =>
        simp only [roundD] at h
        obtain ⟨_, h⟩ := cond_none h
        simp at h
      | ret => simp [roundD] at h
end
/-- The contract of Covers. -/
theorem covers_ok (sz : Int) (D : List DV) (R : List (List (Int × Int))) (hD : isRows D R) (nl : Bool) : PureOK Try.prog 33 [iD sz, .sl D R.length 1 false nl] (bif decide (sz < 2) || (decide (21 < sz) || decide (40 < R.length)) then .tup [bD false, iD 1] else ans33 sz (runR sz R [])) := by
  by_cases c1 : sz < 2
  · rw [decide_eq_true c1]
    exact ae_pure EvOK.nil (fn := Try.f33) k33 (by kernel_rfl) (by kernel_rfl) (startF_done k33 done_plain ((t33_d ..).trans (cnd_pos c1)))
  by_cases c2 : 21 < sz
  · rw [decide_eq_false c1, decide_eq_true c2]
    exact ae_pure EvOK.nil (fn := Try.f33) k33 (by kernel_rfl) (by kernel_rfl) (startF_done k33 done_plain ((t33_d ..).trans ((cnd_neg c1).trans (cnd_pos c2))))
  by_cases c3 : 40 < R.length
  · rw [decide_eq_false c1, decide_eq_false c2, decide_eq_true c3]
    exact ae_pure EvOK.nil (fn := Try.f33) k33 (by kernel_rfl) (by kernel_rfl) (startF_done k33 done_plain ((t33_d ..).trans ((cnd_neg c1).trans ((cnd_neg c2).trans (cnd_pos (by omega))))))
  rw [decide_eq_false c1, decide_eq_false c2, decide_eq_false c3]
  simp only [Bool.or_false, cond_false]
  refine pure_of_sat (C := aeC) (fid := 33) ae_T (ae_fn fn33) b33_is (by kernel_rfl) fun w σ hi => ?_
  rw [nt33]
  refine Sat33.spine EvOK.nil hi 0 3 _ (by kernel_rfl) ((p33_0 ..).trans ((cnd_neg c1).trans ((cnd_neg c2).trans (cnd_neg (by omega))))) fun s1 h1 => ?_
  show Sat33 w σ P33 s1 _
  have hL := (loop330 sz D R hD nl (by omega) R 0 [] 0 (by decide) (by omega) (by simp [cntB]) (List.drop_zero ..)).loopR
  -- the loops over copies
  refine Sat.seq' (Q1 := fun ex s' => match runR sz R [] with
      | none => ex = .ret ∧ s' = bad33
      | some S => ex = .norm ∧ s' = g33 sz (esC S)) (by kernel_rfl) ?_ (fun s' h => ?_) (fun ex s' hne h => ?_)
  · refine Sat33.spine EvOK.nil hi 0 1 _ (by kernel_rfl) h1 fun s2 h2 => ?_
    have hl := hL s2 h2
    have hcode : kid 1 (kid 0 P33) = .block 0 (.loop (loopOf Try.f33 0)) := by kernel_rfl
    show Sat33 w σ (kid 1 (kid 0 P33)) s2 _
    rw [hcode]
    have hq := Sat.ofRuns (P := Try.prog) (n := 0) (ro := none) (N := 84) ae_T ae_Q ae_mixed EvOK.nil ho33 hi hl
    refine Sat.block hq ?_ ?_ ?_
    · rintro s' ⟨h3, h4⟩
      cases hr : runR sz R [] with
      | none => rw [hr] at h3; cases h3
      | some S => rw [hr] at h3; cases h3
    · rintro s' ⟨h3, h4⟩
      cases hr : runR sz R [] with
      | none => rw [hr] at h4; exact ⟨rfl, h4⟩
      | some S => rw [hr] at h3; cases h3
    · rintro i s' ⟨h3, h4⟩
      cases hr : runR sz R [] with
      | none => rw [hr] at h3; cases h3
      | some S =>
        rw [hr] at h3 h4
        cases h3
        exact ⟨rfl, h4⟩
  · cases hr : runR sz R [] with
    | none => rw [hr] at h; cases h.1
    | some S =>
      rw [hr] at h
      obtain ⟨-, rfl⟩ := h
      show Sat33 w σ Q33 _ _
      refine Sat.seq' (Q1 := fun ex s' => (ex = .ret ∧ s' = many33 ∧ S.all (fun x => decide (x.2 ≤ 1)) = false) ∨ (ex = .norm ∧ s' = g33 sz (esC S) ∧ S.all (fun x => decide (x.2 ≤ 1)) = true)) (by kernel_rfl) ?_ (fun s' h => ?_) (fun ex s' hne h => ?_)
      · exact Sat33.spine EvOK.nil hi 0 1 _ (by kernel_rfl) (p33_1 sz (esC S)) fun s2 h2 => map33 hi sz S h2
      · rcases h with h | ⟨-, rfl, h⟩
        · cases h.1
        · refine Sat.mono (Sat33.code EvOK.nil hi 0 _ (p33_6 sz (esC S))) fun ex s' h3 => ?_
          rw [h3, esC_len]
          unfold ans33 pairsN
          dsimp only
          rw [h]; rfl
      · rcases h with ⟨rfl, rfl, h⟩ | h
        · rw [p33_7]
          unfold ans33
          dsimp only
          rw [h]; rfl
        · exact absurd h.1 hne
  · cases hr : runR sz R [] with
    | none =>
      rw [hr] at h
      obtain ⟨rfl, rfl⟩ := h
      exact p33_8
    | some S => rw [hr] at h; exact absurd h.1 hne
end Go.Proofs.Ytkcdbndpcabelaa

/- Chapter 02: the document's Right (34) and Covers (35). -/
namespace Go.Proofs.Ytkcdbndpcabelaa
open Go Go.AE
set_option maxRecDepth 100000
def nd (X : Type) : Option X := none
/-- Whether all rows are right. -/
def okR (sz : Int) (R : List (List (Int × Int))) : Bool := R.all fun E => Nat.ble E.length 20 && E.all (okE sz)
/-! ### Covers -/
/-- How often a pair is met. -/
def cnt (e : Int × Int) : List (Int × Int) → Int
  | [] => 0
  | x :: r => (if x = e then 1 else 0) + cnt e r
theorem cnt_app (e : Int × Int) : ∀ a b, cnt e (a ++ b) = cnt e a + cnt e b
  | [], b => by simp [cnt]
  | x :: a, b => by simp only [List.cons_append, cnt]; rw [cnt_app e a b]; omega
theorem cnt_pos (e : Int × Int) : ∀ a, 0 ≤ cnt e a ∧ cnt e a ≤ a.length
  | [] => by simp [cnt]
  | x :: a => by have := cnt_pos e a; simp only [cnt, List.length_cons]; split <;> omega
/-- A table of how often pairs are met. -/
def tabC (s : Nat) (F : List (Int × Int)) (L : List Int) : Prop := L.length = s * s ∧ ∀ a b : Nat, a < s → b < s → L.getD (a * s + b) 0 = cnt ((a : Int), (b : Int)) F
section
variable {s : Nat} (hs : s ≤ 21) {D : List DV} {R : List (List (Int × Int))} (hD : isRows D R) (nl : Bool)
include hs hD
end
section
variable {s : Nat} (hs : s ≤ 21) {D : List DV} {R : List (List (Int × Int))} (hD : isRows D R) (nl : Bool) (hn : R.length ≤ 40)
include hs hD hn
end
section
variable {s : Nat} (hs2 : 2 ≤ s) (hs : s ≤ 21) {F : List (Int × Int)} {L : List Int} (ht : tabC s F L)
include hs2 hs ht
/-- Whether the pairs with a first node are met once, from a second one on. -/
def onceB (F : List (Int × Int)) (a : Int) : Nat → Int → Bool
  | 0, _ => true
  | n + 1, b => decide (cnt (a, b) F = 1) && onceB F a n (b + 1)
def allB (s : Nat) (F : List (Int × Int)) : Nat → Nat → Bool
  | 0, _ => true
  | n + 1, a => onceB F a (s - (a + 1)) ((a + 1 : Nat) : Int) && allB s F n (a + 1)
end
end Go.Proofs.Ytkcdbndpcabelaa

/- Chapter 02: what Covers tells is what the document tells, in plain Lean. -/
namespace Go.Proofs.Ytkcdbndpcabelaa
open Go Go.AE
/-! ### Lists without repeats -/
theorem nodup_sub {α : Type} [DecidableEq α] : ∀ {l m : List α}, l.Nodup → (∀ x ∈ l, x ∈ m) → l.length ≤ m.length
  | [], _, _, _ => Nat.zero_le _
  | x :: l, m, hn, hs => by
    rw [List.nodup_cons] at hn
    have hx := hs x (List.mem_cons_self ..)
    have h1 := nodup_sub (l := l) (m := m.erase x) hn.2 fun y hy => by
      refine (List.mem_erase_of_ne ?_).2 (hs y (List.mem_cons_of_mem _ hy))
      rintro rfl
      exact hn.1 hy
    rw [List.length_erase_of_mem hx] at h1
    have : 0 < m.length := List.length_pos_of_mem hx
    simp only [List.length_cons]; omega
theorem nodup_full {α : Type} [DecidableEq α] {l m : List α} (hn : l.Nodup) (hs : ∀ x ∈ l, x ∈ m) (hl : m.length ≤ l.length) : ∀ x ∈ m, x ∈ l := by
  intro x hx
  apply Classical.byContradiction
  intro hc
  have := nodup_sub (l := x :: l) (m := m) (by rw [List.nodup_cons]; exact ⟨hc, hn⟩) (by
    intro y hy
    rcases List.mem_cons.1 hy with rfl | hy
    · exact hx
    · exact hs y hy)
  simp only [List.length_cons] at this
  omega
/-! ### What the map knows -/
theorem cnt_zero {e : Int × Int} : ∀ {F : List (Int × Int)}, e ∉ F → cnt e F = 0
  | [], _ => rfl
  | x :: F, h => by
    simp only [List.mem_cons, not_or] at h
    simp only [cnt]
    rw [if_neg (Ne.symm h.1), cnt_zero h.2]; rfl
theorem cnt_mem {e : Int × Int} : ∀ {F : List (Int × Int)}, e ∈ F → 1 ≤ cnt e F
  | x :: F, h => by
    simp only [cnt]
    have := cnt_pos e F
    rcases List.mem_cons.1 h with rfl | h
    · rw [if_pos rfl]; omega
    · have := cnt_mem h; split <;> omega
def invC (S : List ((Int × Int) × Int)) (F : List (Int × Int)) : Prop := (S.map (·.1)).Nodup ∧ (∀ x ∈ S, x.2 = cnt x.1 F ∧ x.1 ∈ F) ∧ ∀ e ∈ F, ∃ x ∈ S, x.1 = e
theorem addC_inv {e : Int × Int} {S : List ((Int × Int) × Int)} {F : List (Int × Int)} (h : invC S F) : invC (addC e S) (F ++ [e]) := by
  obtain ⟨h1, h2, h3⟩ := h
  unfold addC
  cases hf : findC e S with
  | none =>
    have hno := findC_none.1 hf
    have heF : e ∉ F := fun q => by obtain ⟨x, hx, hx2⟩ := h3 e q; exact hno x hx hx2
    refine ⟨?_, ?_, ?_⟩
    · rw [List.map_append, List.nodup_append]
      refine ⟨h1, by simp, ?_⟩
      intro a ha b hb
      simp only [List.map_cons, List.map_nil, List.mem_singleton] at hb
      subst hb
      obtain ⟨x, hx, rfl⟩ := List.mem_map.1 ha
      exact hno x hx
    · intro x hx
      rcases List.mem_append.1 hx with hx | hx
      · have := h2 x hx
        rw [cnt_app]
        simp only [cnt]
        rw [if_neg (Ne.symm (hno x hx))]
        exact ⟨by omega, by simp [this.2]⟩
      · simp only [List.mem_singleton] at hx
        subst hx
        rw [cnt_app, cnt_zero heF]
        simp [cnt]
    · intro f hfm
      rcases List.mem_append.1 hfm with q | q
      · obtain ⟨x, hx, hx2⟩ := h3 f q
        exact ⟨x, by simp [hx], hx2⟩
      · simp only [List.mem_singleton] at q
        subst q
        exact ⟨(f, 1), by simp, rfl⟩
  | some i =>
    obtain ⟨c, hc⟩ := findC_at hf
    simp only [hc]
    rw [setNth_eq]
    have hlt := nth_some_lt hc
    have hci : S[i] = (e, c) := by rw [nth_eq, List.getElem?_eq_getElem hlt] at hc; exact Option.some.inj hc
    have hkeys : (S.set i (e, c + 1)).map (·.1) = S.map (·.1) := by
      rw [List.map_set]
      apply List.ext_getElem
      · simp
      · intro j j1 j2
        rw [List.getElem_set]
        split
        · rename_i q; subst q; simp [hci]
        · rfl
    refine ⟨by rw [hkeys]; exact h1, ?_, ?_⟩
    · intro x hx
      obtain ⟨j, hj, rfl⟩ := List.getElem_of_mem hx
      rw [List.getElem_set]
      split
      · have := h2 (e, c) (mem_of_nth hc)
        rw [cnt_app]
        simp only at this
        refine ⟨?_, by simp⟩
        show c + 1 = cnt e F + ((if e = e then 1 else 0) + 0)
        rw [if_pos rfl]
        omega
      · rename_i hne
        rw [List.length_set] at hj
        have hm := h2 S[j] (List.getElem_mem hj)
        have hk : S[j].1 ≠ e := by
          intro he
          have e1 : (S.map (·.1))[j]'(by simpa using hj) = (S.map (·.1))[i]'(by simpa using hlt) := by simp [he, hci]
          exact hne ((List.getElem_inj h1).1 e1).symm
        rw [cnt_app]
        simp only [cnt]
        rw [if_neg (Ne.symm hk)]
        exact ⟨by omega, by simp [hm.2]⟩
    · intro f hfm
      have hin : f ∈ S.map (·.1) := by
        rcases List.mem_append.1 hfm with q | q
        · obtain ⟨x, hx, rfl⟩ := h3 f q
          exact List.mem_map.2 ⟨x, hx, rfl⟩
        · simp only [List.mem_singleton] at q
          subst q
          exact List.mem_map.2 ⟨(f, c), mem_of_nth hc, rfl⟩
      rw [← hkeys] at hin
      obtain ⟨x, hx, hx2⟩ := List.mem_map.1 hin
      exact ⟨x, hx, hx2⟩
theorem runC_inv {sz : Int} : ∀ {r : List (Int × Int)} {S : List ((Int × Int) × Int)} {F : List (Int × Int)}, invC S F → r.all (okE sz) = true → ∃ S', runC sz r S = some S' ∧ invC S' (F ++ r)
  | [], S, F, h, _ => ⟨S, rfl, by simpa using h⟩
  | e :: r, S, F, h, ho => by
    rw [List.all_cons, Bool.and_eq_true] at ho
    obtain ⟨S', h1, h2⟩ := runC_inv (r := r) (addC_inv (e := e) h) ho.2
    refine ⟨S', ?_, by simpa using h2⟩
    unfold runC
    rw [ho.1]; exact h1
theorem runR_inv {sz : Int} : ∀ {r : List (List (Int × Int))} {S : List ((Int × Int) × Int)} {F : List (Int × Int)}, invC S F → okR sz r = true → ∃ S', runR sz r S = some S' ∧ invC S' (F ++ r.flatten)
  | [], S, F, h, _ => ⟨S, rfl, by simpa using h⟩
  | E :: r, S, F, h, ho => by
    unfold okR at ho
    rw [List.all_cons, Bool.and_eq_true, Bool.and_eq_true, Nat.ble_eq] at ho
    obtain ⟨⟨o1, o2⟩, o3⟩ := ho
    obtain ⟨S1, h1, h2⟩ := runC_inv h o2
    obtain ⟨S2, h3, h4⟩ := runR_inv (r := r) h2 o3
    refine ⟨S2, ?_, by simpa using h4⟩
    unfold runR
    rw [decide_eq_false (show ¬ 20 < E.length by omega), cond_false, h1]
    exact h3
theorem runR_ok {sz : Int} {r : List (List (Int × Int))} (h : okR sz r = true) : ∀ e ∈ r.flatten, okE sz e = true := by
  intro e he
  obtain ⟨E, hE, heE⟩ := List.mem_flatten.1 he
  have := List.all_eq_true.1 h E hE
  rw [Bool.and_eq_true] at this
  exact List.all_eq_true.1 this.2 e heE
/-! ### All pairs -/
def colP : Nat → Nat → List (Int × Int)
  | _, 0 => []
  | n, a + 1 => colP n a ++ [((a : Int), (n : Int))]
def pairsL : Nat → List (Int × Int)
  | 0 => []
  | n + 1 => pairsL n ++ colP n n
theorem colP_mem {e : Int × Int} {n : Nat} : ∀ {a : Nat}, e ∈ colP n a ↔ 0 ≤ e.1 ∧ e.1 < a ∧ e.2 = n
  | 0 => by simp [colP]; omega
  | a + 1 => by
    unfold colP
    rw [List.mem_append, colP_mem, List.mem_singleton]
    constructor
    · rintro (h | rfl)
      · omega
      · simp; omega
    · intro h
      by_cases q : e.1 = a
      · right; exact Prod.ext q h.2.2
      · left; omega
theorem pairsL_mem {e : Int × Int} : ∀ {s : Nat}, e ∈ pairsL s ↔ okE s e = true
  | 0 => by simp [pairsL, okE]; omega
  | n + 1 => by
    unfold pairsL
    rw [List.mem_append, pairsL_mem, colP_mem]
    simp only [okE, Bool.and_eq_true, decide_eq_true_eq]
    omega
theorem colP_nodup (n : Nat) : ∀ a : Nat, (colP n a).Nodup
  | 0 => by simp [colP]
  | a + 1 => by
    unfold colP
    rw [List.nodup_append]
    refine ⟨colP_nodup n a, by simp, ?_⟩
    intro x hx y hy
    simp only [List.mem_singleton] at hy
    subst hy
    rintro rfl
    have := colP_mem.1 hx
    simp at this
theorem pairsL_nodup : ∀ s : Nat, (pairsL s).Nodup
  | 0 => by simp [pairsL]
  | n + 1 => by
    unfold pairsL
    rw [List.nodup_append]
    refine ⟨pairsL_nodup n, colP_nodup n n, ?_⟩
    intro x hx y hy
    rintro rfl
    have h1 := pairsL_mem.1 hx
    have h2 := colP_mem.1 hy
    simp only [okE, Bool.and_eq_true, decide_eq_true_eq] at h1
    omega
theorem pairs_len : ∀ s < 22, pairsN ((s : Nat) : Int) = ((pairsL s).length : Int) := by decide +kernel
/-! ### Each pair once -/
theorem onceB_iff {F : List (Int × Int)} {a : Int} : ∀ {n : Nat} {b : Int}, onceB F a n b = true ↔ ∀ c : Int, b ≤ c → c < b + n → cnt (a, c) F = 1
  | 0, b => by simp [onceB]; omega
  | n + 1, b => by
    unfold onceB
    rw [Bool.and_eq_true, decide_eq_true_eq, onceB_iff]
    constructor
    · rintro ⟨h1, h2⟩ c c1 c2
      by_cases q : c = b
      · subst q; exact h1
      · exact h2 c (by omega) (by omega)
    · intro h
      exact ⟨h b (by omega) (by omega), fun c c1 c2 => h c (by omega) (by omega)⟩
theorem allB_iff {s : Nat} {F : List (Int × Int)} : ∀ {n a : Nat}, a + n = s → (allB s F n a = true ↔ ∀ b c : Int, (a : Int) ≤ b → b < c → c < s → cnt (b, c) F = 1)
  | 0, a, h => by simp only [allB, true_iff]; intro b c; omega
  | n + 1, a, h => by
    unfold allB
    rw [Bool.and_eq_true, onceB_iff, allB_iff (by omega)]
    constructor
    · rintro ⟨h1, h2⟩ b c c1 c2 c3
      by_cases q : b = a
      · subst q; exact h1 c (by omega) (by omega)
      · exact h2 b c (by omega) c2 c3
    · intro h3
      exact ⟨fun c c1 c2 => h3 a c (by omega) (by omega) (by omega), fun b c c1 c2 c3 => h3 b c (by omega) c2 c3⟩
/-- What Covers tells is what the document tells. -/
theorem cover_law {s : Nat} (hs : s ≤ 21) {R : List (List (Int × Int))} (h : okR s R = true) : ans33 s (runR s R []) = .tup [bD (allB s R.flatten s 0), iD 0] := by
  obtain ⟨S, h1, h2⟩ := runR_inv (sz := s) (r := R) (S := []) (F := []) ⟨by simp, by simp, by simp⟩ h
  rw [List.nil_append] at h2
  obtain ⟨k1, k2, k3⟩ := h2
  have hok := runR_ok h
  rw [h1]
  unfold ans33
  dsimp only
  suffices hb : (S.all (fun x => decide (x.2 ≤ 1)) && decide ((S.length : Int) = pairsN s)) = allB s R.flatten s 0 by rw [hb]
  rw [pairs_len s (by omega), Bool.eq_iff_iff, allB_iff (by omega), Bool.and_eq_true, List.all_eq_true, decide_eq_true_eq]
  have hsub : ∀ e ∈ S.map (·.1), e ∈ pairsL s := fun e he => by
    obtain ⟨x, hx, rfl⟩ := List.mem_map.1 he
    exact pairsL_mem.2 (hok _ (k2 x hx).2)
  constructor
  · rintro ⟨a1, a2⟩ b c c1 c2 c3
    have he : ((b, c) : Int × Int) ∈ pairsL s := pairsL_mem.2 (by simp only [okE, Bool.and_eq_true, decide_eq_true_eq]; omega)
    have hm := nodup_full k1 hsub (by simp; omega) _ he
    obtain ⟨x, hx, hx2⟩ := List.mem_map.1 hm
    have q1 := k2 x hx
    have q2 := of_decide_eq_true (a1 x hx)
    have q3 := cnt_mem q1.2
    rw [hx2] at q1 q3
    omega
  · intro a
    have hall : ∀ e, okE s e = true → cnt e R.flatten = 1 := fun e he => by
      simp only [okE, Bool.and_eq_true, decide_eq_true_eq] at he
      have := a e.1 e.2 (by omega) (by omega) (by omega)
      simpa using this
    refine ⟨fun x hx => decide_eq_true ?_, ?_⟩
    · have q1 := k2 x hx
      rw [q1.1, hall _ (hok _ q1.2)]
      exact Int.le_refl 1
    · have l1 := nodup_sub k1 hsub
      have l2 := nodup_sub (pairsL_nodup s) (m := S.map (·.1)) fun e he => by
        have hc := hall e (pairsL_mem.1 he)
        have hm : e ∈ R.flatten := Classical.byContradiction fun q => by rw [cnt_zero q] at hc; omega
        obtain ⟨x, hx, hx2⟩ := k3 e hm
        exact List.mem_map.2 ⟨x, hx, hx2⟩
      simp only [List.length_map] at l1 l2
      omega
end Go.Proofs.Ytkcdbndpcabelaa

/- Chapter 02: law 7 (Covers) on data. -/
namespace Go.Proofs.Ytkcdbndpcabelaa
open Go Go.AE
set_option maxRecDepth 100000
/-! ### Calls that are told by tables -/
def evT (ok : Nat → List DV → Bool) (shape : Nat → List DV → DV) : Ev := { Ev.nil with pure := fun f ds => .node (ok f ds) (.leaf (shape f ds)) .fail }
open Classical in
noncomputable def okS (shape : Nat → List DV → DV) : Nat → List DV → Bool := fun f ds => isP (PureOK Try.prog f ds (shape f ds))
theorem evT_ok (shape : Nat → List DV → DV) : EvOK Try.prog (evT (okS shape) shape) := by
  refine ⟨fun f ds d e => ?_, (by intro f xs h v h' e; simp [evT, Ev.nil, Tr.val] at e), (by intro f xs h v h' e; simp [evT, Ev.nil, Tr.val] at e), (by intro l xs h v h' e; simp [evT, Ev.nil, Tr.val] at e)⟩
  simp only [evT, Tr.val] at e
  obtain ⟨h1, h2⟩ := cond_none e
  cases h2
  exact isP_iff.1 h1
theorem okS_is {shape : Nat → List DV → DV} {f : Nat} {ds : List DV} (h : PureOK Try.prog f ds (shape f ds)) : okS shape f ds = true := isP_iff.2 h
theorem cond_is' {R : Type} {b : Bool} {x y : R} (h : b = true) : (bif b then x else y) = x := by rw [h]; rfl
/-! ### Edges copied -/
/-! ### The law -/
structure T7 where
  B : List DV → List DV
  M : List DV → Nat
  Z : List DV → Bool
  c : List DV → Bool
  e : List DV → Int
  r : List DV → Bool
  v : List DV → Bool
theorem k7 : OkSeg Try.f7 none [0, 2] := ⟨by kernel_rfl, by kernel_rfl, by decide⟩
/-! ### Rows out of data -/
section
variable {sz : Int} {D : List DV} {R : List (List (Int × Int))} (h : isRows D R)
include h
end
end Go.Proofs.Ytkcdbndpcabelaa

/- Chapter 02: the law on copies, on data. -/
namespace Go.Proofs.Ytkcdbndpcabelaa
open Go Go.AE

theorem k3 : OkSeg Try.f3 none [0] := ⟨by kernel_rfl, by kernel_rfl, by decide⟩
theorem k3_0 : OkSeg Try.f3 (some 0) [] := ⟨by kernel_rfl, by kernel_rfl, by decide⟩
/-- Tables of what is told of lists. -/
structure Tabs where
  G : Int → List DV → List DV → Bool
  RD : List DV → List DV → List DV
  RL : List DV → List DV → Nat
noncomputable def sp15 (T : Tabs) : List DV → Tr DV
  | [.int .i64 n, .sl es m 2 _ false, .sl cs k 1 _ _] => .node (isP (openS n (unE es) = 0 ∧ isE es m = true ∧ isI cs = true ∧ cs.length = k)) (.node (T.G n es cs)
      (.leaf (.tup [.sl (T.RD es cs) (T.RL es cs) 1 false false, iD 0])) (.leaf (.tup [nilS1, iD 1]))) .fail
  | _ => .fail
noncomputable def okG18 (es : List DV) (m : Nat) (cs : List DV) (k : Nat) : Bool := isP (isE es m = true ∧ isI cs = true ∧ cs.length = k ∧ EdOK k (unE es) ∧ LabOK 10 (unI cs) ∧ 1 ≤ m ∧ m ≤ 10 ∧ k ≤ 100)
noncomputable def sp18 (T : Tabs) : List DV → Tr DV
  | [.sl es m 2 _ _, .sl cs k 1 _ _] => .node (okG18 es m cs k) (.leaf (.sl (T.RD es cs) (T.RL es cs) 1 false false)) .fail
  | _ => .fail
noncomputable def okG17 (a : List DV) (n : Nat) (b : List DV) (m : Nat) : Bool := isP (∃ R : List (List (Int × Int)), a = R.map rowDV ∧ n = R.length ∧ b = a ∧ m = n ∧ R.length ≤ 1000 ∧ ∀ r ∈ R, r.length ≤ 1000)
noncomputable def sp17 : List DV → Tr DV
  | [.sl a n 1 _ false, .sl b m 1 _ false] => .node (okG17 a n b m) (.leaf (bD true)) .fail
  | _ => .fail
noncomputable def sp16t (T : Tabs) : List DV → Tr DV
  | [.int .i64 n, .sl es m 2 _ _, .sl cs k 1 _ _] => .node (okG16 n es m cs k) (.leaf (bD (T.G n es cs))) .fail
  | _ => .fail
/-- The first labels, as a table: whether there are any, the list and its length. -/
structure TabF where
  is : Int → List DV → Bool → Bool
  cs : Int → List DV → Bool → List DV
  len : Int → List DV → Bool → Nat
noncomputable def sp19t (T : TabF) : List DV → Tr DV
  | [.int .i64 n, .sl es m 2 _ _, .bool part] => .node (isP (openS n (unE es) = 0 ∧ isE es m = true)) (.node (T.is n es part) (.leaf (.sl (T.cs n es part) (T.len n es part) 1 false false)) (.leaf (.sl [] 0 1 false true))) .fail
  | _ => .fail
noncomputable def evR3 (n : Int) (E : List (Int × Int)) (c nl : Bool) (m : Int) (F : List (Int × Int)) (T : Tabs) (U : TabF) : Ev := (((((((Ev.nil.add 13 (sp13 n E c nl m F)).add 14 sp14).add 15 (sp15 T)).add 16 (sp16t T)).add 17 sp17).add 18 (sp18 T)).add 19 (sp19t U)).add 20 sp20
noncomputable def s3 (m : Int) (F : List (Int × Int)) (cs : List DV) (k sz : Nat) (c2 nl2 : Bool) (r : Int) : St := ⟨[(7, .d (iD m)), (8, .d (edgX F false false)), (9, .d (.sl cs k sz c2 nl2)), (10, .d (iD r))], [], []⟩

theorem r3 (n : Int) (E : List (Int × Int)) (c nl : Bool) (m : Int) (F : List (Int × Int)) (T : Tabs) (U : TabF) (l : List Int) (c2 nl2 : Bool) : startS aeC (evR3 n E c nl m F T U) 3 0 Try.f3 none ⟨envOf 0 ([iD n, edgX E c nl, lstX l c2 nl2].map .d), [], []⟩ (heldD aeC 3 0) =
  bif isAt (n, edD E, List.length E, c, nl, 10) (n, edD E, List.length E, c, nl, tenI) then
    bif isI (ints l) && (Nat.beq (List.length (ints l)) (List.length l) && true) then
      bif true && Nat.beq (List.length (ints (List.take 10 (unI (ints l))))) 0 || true then
        some (0, ⟨[(7, .d (iD m)), (8, .d (DV.sl (edD F) (List.length F) 2 false false)), (9, .d (DV.sl (ints (List.take 10 (unI (ints l)))) (lenOf 1 (List.length (ints (List.take 10 (unI (ints l)))))) 1 false (true && Nat.beq (List.length (ints (List.take 10 (unI (ints l))))) 0))), (10, .d (iD 0))], [], []⟩)
      else
        none
    else
      none
  else
    none := by kernel_rfl

theorem r3_0 (n : Int) (E : List (Int × Int)) (c nl : Bool) (m : Int) (F : List (Int × Int)) (T : Tabs) (U : TabF) (x : List DV) (k : Nat) (c2 nl2 : Bool) (r : Int) : startS aeC (evR3 n E c nl m F T U) 3 0 Try.f3 (some 0) (s3 m F x k 1 c2 nl2 r) (roundD aeC 3 0 0) =
  bif decide (r < 2) then
    bif isP (openS m (unE (edD F)) = 0 ∧ isE (edD F) (List.length F) = true ∧ isI x = true ∧ List.length x = k) then
      bif Tabs.G T m (edD F) x then
        bif okG16 m (edD F) (List.length F) x k then
          bif !Tabs.G T m (edD F) x then
            some (Ex.ret, ⟨[(6, .d (bD false))], [], []⟩)
          else
            bif okG18 (edD F) (List.length F) x k then
              bif okG17 (Tabs.RD T (edD F) x) (Tabs.RL T (edD F) x) (Tabs.RD T (edD F) x) (Tabs.RL T (edD F) x) then
                bif isP (openS m (unE (edD F)) = 0 ∧ isE (edD F) (List.length F) = true) then
                  bif TabF.is U m (edD F) false then
                    some (Ex.norm, ⟨[(7, .d (iD m)), (8, .d (DV.sl (edD F) (List.length F) 2 false false)), (9, .d (DV.sl (TabF.cs U m (edD F) false) (TabF.len U m (edD F) false) 1 false false)), (10, .d (iD (IntKind.wrap IntKind.i64 (r + 1))))], [], []⟩)
                  else
                    some (Ex.norm, ⟨[(7, .d (iD m)), (8, .d (DV.sl (edD F) (List.length F) 2 false false)), (9, .d (DV.sl [] 0 1 false true)), (10, .d (iD (IntKind.wrap IntKind.i64 (r + 1))))], [], []⟩)
                else
                  none
              else
                none
            else
              none
        else
          none
      else
        bif okG16 m (edD F) (List.length F) x k then
          bif !Tabs.G T m (edD F) x then
            bif isP (openS m (unE (edD F)) = 0 ∧ isE (edD F) (List.length F) = true) then
              bif TabF.is U m (edD F) false then
                some (Ex.norm, ⟨[(7, .d (iD m)), (8, .d (DV.sl (edD F) (List.length F) 2 false false)), (9, .d (DV.sl (TabF.cs U m (edD F) false) (TabF.len U m (edD F) false) 1 false false)), (10, .d (iD (IntKind.wrap IntKind.i64 (r + 1))))], [], []⟩)
              else
                some (Ex.norm, ⟨[(7, .d (iD m)), (8, .d (DV.sl (edD F) (List.length F) 2 false false)), (9, .d (DV.sl [] 0 1 false true)), (10, .d (iD (IntKind.wrap IntKind.i64 (r + 1))))], [], []⟩)
            else
              none
          else
            some (Ex.ret, ⟨[(6, .d (bD false))], [], []⟩)
        else
          none
    else
      none
  else
    some (Ex.exit 0, ⟨[], [], []⟩) := by kernel_rfl

/-- The tables. -/
noncomputable def tabs : Tabs := ⟨fun n es cs => gracB n (unE es) (unI cs), fun es cs => (cpAll (unE es) (unI cs)).map rowDV, fun es cs => (cpAll (unE es) (unI cs)).length⟩
noncomputable def tabF : TabF := ⟨fun n es p => (srS n (unE es) p true n.toNat []).1.isSome, fun n es p => ints ((srS n (unE es) p true n.toNat []).1.getD []), fun n es p => ((srS n (unE es) p true n.toNat []).1.getD []).length⟩

theorem cpFrom_mem {E : List (Int × Int)} {l : List Int} {sz : Int} : ∀ (k : Nat) (t : Int), ∀ r ∈ cpFrom E l sz k t, r.length = E.length
  | 0, t, r, h => by cases h
  | k + 1, t, r, h => by
    rcases List.mem_cons.1 h with rfl | h
    · simp
    · exact cpFrom_mem k (t + 1) r h

theorem l3 (n : Int) (E : List (Int × Int)) (c nl : Bool) (m : Int) (F : List (Int × Int)) (hF : openS m F = 0) : ∀ (k : Nat) (x : List Int) (c2 nl2 : Bool), k ≤ 2 → x.length ≤ 100 →
    LoopAt aeC (evR3 n E c nl m F tabs tabF) 3 0 Try.f3 0 (s3 m F (ints x) x.length 1 c2 nl2 (2 - (k : Int))) (.exit 0) ⟨[], [], []⟩
  | 0, x, c2, nl2, hk, hx => .out k3_0 (by simp) ((r3_0 ..).trans (by rw [cnd_neg (by omega)]))
  | k + 1, x, c2, nl2, hk, hx => by
    obtain ⟨hg, h2, h7⟩ := open_graph hF
    have res := r3_0 n E c nl m F tabs tabF (ints x) x.length c2 nl2 (2 - ((k + 1 : Nat) : Int))
    have g1 : isP (openS m (unE (edD F)) = 0 ∧ isE (edD F) F.length = true ∧ isI (ints x) = true ∧ (ints x).length = x.length) = true := isP_iff.2 ⟨by rw [unE_ed]; exact hF, isE_ed F, isI_ints x, len_ints x⟩
    have g2 : okG16 m (edD F) F.length (ints x) x.length = true := isP_iff.2 ⟨isE_ed F, isI_ints x, len_ints x, by omega, by omega, by rw [unE_ed]; exact hg.2.2.2.2, by have := hg.2.2.2.1; simp only at this; omega⟩
    have g3 : isP (openS m (unE (edD F)) = 0 ∧ isE (edD F) F.length = true) = true := isP_iff.2 ⟨by rw [unE_ed]; exact hF, isE_ed F⟩
    rw [cnd_pos (by omega), g1, g2, g3, wrap64 (by omega) (by omega), show 2 - ((k + 1 : Nat) : Int) + 1 = 2 - (k : Int) by omega] at res
    have next : startS aeC (evR3 n E c nl m F tabs tabF) 3 0 Try.f3 (some 0) (s3 m F (ints x) x.length 1 c2 nl2 (2 - ((k + 1 : Nat) : Int))) (roundD aeC 3 0 0) =
        (bif tabF.is m (edD F) false then some (.norm, ⟨[(7, .d (iD m)), (8, .d (DV.sl (edD F) F.length 2 false false)), (9, .d (DV.sl (tabF.cs m (edD F) false) (tabF.len m (edD F) false) 1 false false)), (10, .d (iD (2 - (k : Int))))], [], []⟩)
          else some (.norm, ⟨[(7, .d (iD m)), (8, .d (DV.sl (edD F) F.length 2 false false)), (9, .d (DV.sl [] 0 1 false true)), (10, .d (iD (2 - (k : Int))))], [], []⟩)) →
        LoopAt aeC (evR3 n E c nl m F tabs tabF) 3 0 Try.f3 0 (s3 m F (ints x) x.length 1 c2 nl2 (2 - ((k + 1 : Nat) : Int))) (.exit 0) ⟨[], [], []⟩ := by
      intro hres
      cases hs : (srS m F false true m.toNat []).1 with
      | none =>
        have : tabF.is m (edD F) false = false := by simp only [tabF, unE_ed, hs]; rfl
        rw [this] at hres
        exact .next k3_0 hres (l3 n E c nl m F hF k [] false true (by omega) (by simp))
      | some o =>
        have e1 : tabF.is m (edD F) false = true := by simp only [tabF, unE_ed, hs]; rfl
        have e2 : tabF.cs m (edD F) false = ints o := by simp only [tabF, unE_ed, hs]; rfl
        have e3 : tabF.len m (edD F) false = o.length := by simp only [tabF, unE_ed, hs]; rfl
        rw [e1, e2, e3] at hres
        have := grac_len (srS_some hs)
        exact .next k3_0 hres (l3 n E c nl m F hF k o false false (by omega) (by omega))
    cases hgr : gracB m F x with
    | false =>
      have e : tabs.G m (edD F) (ints x) = false := by simp only [tabs, unE_ed, unI_ints, hgr]
      rw [e] at res
      exact next res
    | true =>
      have e : tabs.G m (edD F) (ints x) = true := by simp only [tabs, unE_ed, unI_ints, hgr]
      have hll := grac_len hgr
      have hnew : newS F.length [] x = true := by
        simp only [gracB, Bool.and_eq_true] at hgr
        exact hgr.2.1
      have h10 : F.length ≤ 10 := hg.2.2.2.1
      have h1 : 1 ≤ F.length := hg.2.2.1
      have g4 : okG18 (edD F) F.length (ints x) x.length = true := isP_iff.2 ⟨isE_ed F, isI_ints x, len_ints x, by rw [unE_ed, show x.length = m.toNat by omega]; exact hg.2.2.2.2, by rw [unI_ints]; exact (newS_lab hnew).mono h10, h1, h10, by omega⟩
      have g5 : okG17 (tabs.RD (edD F) (ints x)) (tabs.RL (edD F) (ints x)) (tabs.RD (edD F) (ints x)) (tabs.RL (edD F) (ints x)) = true := by
        refine isP_iff.2 ⟨cpAll F x, ?_, ?_, rfl, rfl, ?_, ?_⟩
        · simp only [tabs, unE_ed, unI_ints]
        · simp only [tabs, unE_ed, unI_ints]
        · have : (cpAll F x).length = 2 * F.length + 1 := cpFrom_len ..
          omega
        · intro r hr
          have := cpFrom_mem _ _ r hr
          omega
      rw [e, g4, g5] at res
      exact next res

end Go.Proofs.Ytkcdbndpcabelaa

/- Chapter 02: what is told of labels: graceful, parting, turned. -/
namespace Go.Proofs.Ytkcdbndpcabelaa
open Go Go.AE

theorem k36 : OkSeg Try.f36 none [] := ⟨by kernel_rfl, by kernel_rfl, by decide⟩
theorem k37 : OkSeg Try.f37 none [] := ⟨by kernel_rfl, by kernel_rfl, by decide⟩
theorem k38 : OkSeg Try.f38 none [0] := ⟨by kernel_rfl, by kernel_rfl, by decide⟩
theorem k38_0 : OkSeg Try.f38 (some 0) [] := ⟨by kernel_rfl, by kernel_rfl, by decide⟩
/-- Tables of what is told of graphs and labels. -/
structure TabP where
  op : Int → List DV → Int
  G : Int → List DV → List DV → Bool
  P : List DV → List DV → Int
noncomputable def sp47t (T : TabP) : List DV → Tr DV
  | [.int .i64 n, .sl es m 2 c nl] => .node (isE es m) (.node (decide (T.op n es = 0)) (.leaf (.tup [.ptr [iD n, .sl es m 2 c nl] 0, iD 0])) (.leaf (.tup [.nilp, iD (T.op n es)]))) .fail
  | _ => .fail
noncomputable def sp48t (T : TabP) : List DV → Tr DV
  | [.ptr [.int .i64 n, .sl es m 2 _ nl] 0, .sl cs k 1 _ _] => .node (isP (T.op n es = 0 ∧ isE es m = true ∧ isI cs = true ∧ cs.length = k ∧ nl = false)) (.leaf (bD (T.G n es cs))) .fail
  | _ => .fail
noncomputable def sp54t (T : TabP) : List DV → Tr DV
  | [.ptr [.int .i64 n, .sl es m 2 _ nl] 0, .sl cs k 1 _ nl2] => .node (isP (T.op n es = 0 ∧ T.G n es cs = true ∧ isE es m = true ∧ isI cs = true ∧ cs.length = k ∧ nl = false ∧ nl2 = false)) (.leaf (iD (T.P es cs))) .fail
  | _ => .fail
noncomputable def evP (T : TabP) : Ev := ((Ev.nil.add 47 (sp47t T)).add 48 (sp48t T)).add 54 (sp54t T)
noncomputable def s38 (E : List (Int × Int)) (c nl : Bool) (l : List Int) (c2 nl2 : Bool) (out : List DV) (i : Int) : St := ⟨[(1, .d (edgX E c nl)), (10, AV.grow 0 1 false), (26, .d (lstX l c2 nl2)), (27, .d (iD l.length)), (28, .d (iD i))], [.dc out], []⟩
theorem r36 (T : TabP) (n : Int) (E : List (Int × Int)) (c nl : Bool) (l : List Int) (c2 nl2 : Bool) : startS aeC (evP T) 36 0 Try.f36 none ⟨envOf 0 ([iD n, edgX E c nl, lstX l c2 nl2].map .d), [], []⟩ (doneE aeC Try.f36 0 fun v h => freezeV h 4 v) =
  bif isE (edD E) (List.length E) then
    bif decide (TabP.op T n (edD E) = 0) then
      bif isP (TabP.op T n (edD E) = 0 ∧ isE (edD E) (List.length E) = true ∧ isI (ints l) = true ∧ List.length (ints l) = List.length l ∧ nl = false) then
        some (DV.tup [bD (TabP.G T n (edD E) (ints l)), iD 0])
      else
        none
    else
      bif !decide (TabP.op T n (edD E) = 0) then
        some (DV.tup [bD false, iD (TabP.op T n (edD E))])
      else
        none
  else
    none := by kernel_rfl

theorem r37 (T : TabP) (n : Int) (E : List (Int × Int)) (c nl : Bool) (l : List Int) (c2 nl2 : Bool) : startS aeC (evP T) 37 0 Try.f37 none ⟨envOf 0 ([iD n, edgX E c nl, lstX l c2 nl2].map .d), [], []⟩ (doneE aeC Try.f37 0 fun v h => freezeV h 4 v) =
  bif isE (edD E) (List.length E) then
    bif decide (TabP.op T n (edD E) = 0) then
      bif isP (TabP.op T n (edD E) = 0 ∧ isE (edD E) (List.length E) = true ∧ isI (ints l) = true ∧ List.length (ints l) = List.length l ∧ nl = false) then
        bif !TabP.G T n (edD E) (ints l) then
          some (DV.tup [iD 0, bD false, iD 0])
        else
          bif isP (TabP.op T n (edD E) = 0 ∧ TabP.G T n (edD E) (ints l) = true ∧ isE (edD E) (List.length E) = true ∧ isI (ints l) = true ∧ List.length (ints l) = List.length l ∧ nl = false ∧ nl2 = false) then
            bif decide (TabP.P T (edD E) (ints l) < 0) then
              some (DV.tup [iD 0, bD false, iD 0])
            else
              bif isP (TabP.op T n (edD E) = 0 ∧ TabP.G T n (edD E) (ints l) = true ∧ isE (edD E) (List.length E) = true ∧ isI (ints l) = true ∧ List.length (ints l) = List.length l ∧ nl = false ∧ nl2 = false) then
                some (DV.tup [iD (TabP.P T (edD E) (ints l)), bD true, iD 0])
              else
                none
          else
            none
      else
        none
    else
      bif !decide (TabP.op T n (edD E) = 0) then
        some (DV.tup [iD 0, bD false, iD (TabP.op T n (edD E))])
      else
        none
  else
    none := by kernel_rfl

theorem r38d (T : TabP) (n : Int) (E : List (Int × Int)) (c nl : Bool) (l : List Int) (c2 nl2 : Bool) : startS aeC (evP T) 38 0 Try.f38 none ⟨envOf 0 ([iD n, edgX E c nl, lstX l c2 nl2].map .d), [], []⟩ (doneE aeC Try.f38 0 fun v h => freezeV h 4 v) =
  bif isE (edD E) (List.length E) then
    bif decide (TabP.op T n (edD E) = 0) then
      bif isP (TabP.op T n (edD E) = 0 ∧ isE (edD E) (List.length E) = true ∧ isI (ints l) = true ∧ List.length (ints l) = List.length l ∧ nl = false) then
        bif !TabP.G T n (edD E) (ints l) then
          some (DV.tup [DV.sl [] 0 0 false true, iD 1])
        else
          none
      else
        none
    else
      bif !decide (TabP.op T n (edD E) = 0) then
        some (DV.tup [DV.sl [] 0 0 false true, iD (TabP.op T n (edD E))])
      else
        none
  else
    none := by kernel_rfl

theorem r38h (T : TabP) (n : Int) (E : List (Int × Int)) (c nl : Bool) (l : List Int) (c2 nl2 : Bool) : startS aeC (evP T) 38 0 Try.f38 none ⟨envOf 0 ([iD n, edgX E c nl, lstX l c2 nl2].map .d), [], []⟩ (heldD aeC 38 0) =
  bif isE (edD E) (List.length E) then
    bif decide (TabP.op T n (edD E) = 0) then
      bif isP (TabP.op T n (edD E) = 0 ∧ isE (edD E) (List.length E) = true ∧ isI (ints l) = true ∧ List.length (ints l) = List.length l ∧ nl = false) then
        bif !TabP.G T n (edD E) (ints l) then
          none
        else
          some (0, ⟨[(1, .d (DV.sl (edD E) (List.length E) 2 c nl)), (10, AV.grow 0 1 false), (26, .d (DV.sl (ints l) (List.length l) 1 c2 nl2)), (27, .d (iD (↑(List.length l) : Int))), (28, .d (iD 0))], [.dc []], []⟩)
      else
        none
    else
      bif !decide (TabP.op T n (edD E) = 0) then
        none
      else
        none
  else
    none := by kernel_rfl

theorem r38_0 (T : TabP) (E : List (Int × Int)) (c nl : Bool) (l : List Int) (c2 nl2 : Bool) (out : List DV) (i : Int) : startS aeC (evP T) 38 0 Try.f38 (some 0) (s38 E c nl l c2 nl2 out i) (roundD aeC 38 0 0) =
  bif decide (i < (↑(List.length l) : Int)) then
    bif inRange i (List.length l) then
      getI (nth (ints l) (Int.toNat i * 1)) fun x0 =>
      bif Nat.ble (lenOf 1 (List.length out) + 1) 1048576 then
        some (Ex.norm, ⟨[(1, .d (DV.sl (edD E) (List.length E) 2 c nl)), (10, AV.grow 0 1 false), (26, .d (DV.sl (ints l) (List.length l) 1 c2 nl2)), (27, .d (iD (↑(List.length l) : Int))), (28, .d (iD (IntKind.wrap IntKind.i64 (i + 1))))], [.dc (out ++ [iD (IntKind.wrap IntKind.i64 ((↑(List.length E) : Int) - x0))])], []⟩)
      else
        none
    else
      none
  else
    some (Ex.exit 0, ⟨[(10, AV.grow 0 1 false)], [.dc out], []⟩) := by kernel_rfl

theorem r38_x (T : TabP) (out : List DV) : nextS aeC (evP T) 38 0 Try.f38 none 0 (.exit 0) ⟨[(10, AV.grow 0 1 false)], [.dc out], []⟩ (doneE aeC Try.f38 0 fun v h => freezeV h 4 v) =
  some (DV.tup [DV.sl out (lenOf 1 (List.length out)) 1 false (true && Nat.beq (List.length out) 0), iD 0]) := by kernel_rfl

noncomputable def tabP : TabP := ⟨fun n es => openS n (unE es), fun n es cs => gracB n (unE es) (unI cs), fun es cs => partS (unI cs) (unE es)⟩

theorem sp47t_ok : ∀ ds d, (sp47t tabP ds).val = some d → PureOK Try.prog 47 ds d := by
  intro ds d h
  unfold sp47t at h
  split at h
  · exact sp47x_ok _ _ h
  · cases h

theorem sp48t_ok : ∀ ds d, (sp48t tabP ds).val = some d → PureOK Try.prog 48 ds d := by
  intro ds d h
  unfold sp48t at h
  split at h
  · rename_i n es m c nl cs k c2 nl2
    simp only [Tr.val] at h
    obtain ⟨hg, h2⟩ := cond_none h
    obtain ⟨q1, q2, q3, q4, rfl⟩ := isP_iff.1 hg
    refine sp48_ok _ _ ?_
    unfold sp48
    simp only [Tr.val]
    rw [decide_eq_true (show openS n (unE es) = 0 from q1), q2, q3, q4, Nat.beq_refl]
    exact h2
  · cases h

theorem sp54t_ok : ∀ ds d, (sp54t tabP ds).val = some d → PureOK Try.prog 54 ds d := by
  intro ds d h
  unfold sp54t at h
  split at h
  · rename_i n es m c nl cs k c2 nl2
    simp only [Tr.val] at h
    obtain ⟨hg, h2⟩ := cond_none h
    obtain ⟨q1, q0, q2, q3, q4, rfl, rfl⟩ := isP_iff.1 hg
    cases h2
    obtain ⟨e1, e2⟩ := ed_unE q2
    obtain ⟨l, rfl⟩ := isI_iff.1 q3
    rw [len_ints] at q4
    subst q4
    obtain ⟨g1, g2, g3⟩ := open_graph q1
    have hl := grac_len q0
    rw [unI_ints] at hl
    have := parts_ok ⟨n.toNat, unE es⟩ g1 c c2 l (by show l.length = n.toNat; omega)
    unfold Gr.cs Gr.es Gr.m at this
    simp only at this
    rw [← e1, ← e2, show ((n.toNat : Nat) : Int) = n by omega] at this
    show PureOK Try.prog 54 _ (iD (partS (unI (ints l)) (unE es)))
    rw [unI_ints]
    exact this
  · cases h

theorem evP_ok : EvOK Try.prog (evP tabP) := EvOK.add (EvOK.add (EvOK.add EvOK.nil sp47t_ok) sp48t_ok) sp54t_ok

/-- Labels from the other end. -/
def turnL (E : List (Int × Int)) (l : List Int) : List Int := l.map fun x => (E.length : Int) - x

theorem l38_0 (E : List (Int × Int)) (c nl : Bool) (l : List Int) (c2 nl2 : Bool) (hE : E.length ≤ 10) (hl : l.length ≤ 100) (hlab : LabOK 10 l) : ∀ (r : List Int) (i : Nat) (out : List Int), out.length = i → i ≤ l.length → l.drop i = r →
    LoopAt aeC (evP tabP) 38 0 Try.f38 0 (s38 E c nl l c2 nl2 (ints out) i) (.exit 0) ⟨[(10, AV.grow 0 1 false)], [.dc (ints (out ++ turnL E r))], []⟩
  | [], i, out, ho, hi, hr => by
    have h1 := drop_nil_o hr
    refine .out k38_0 (by simp) ((r38_0 ..).trans ?_)
    rw [cnd_neg (by omega)]
    simp [turnL]
  | x :: r, i, out, ho, hi, hr => by
    obtain ⟨h1, h2, h3⟩ := drop_cons_o (d := 0) hr
    have hx := hlab.get h1
    have res := r38_0 tabP E c nl l c2 nl2 (ints out) i
    rw [h2] at hx
    revert res
    simp (disch := omega) only [cnd_pos, cnd_neg, inR_pos, ble_pos, blt_pos, beq_pos, cond_and, cond_or, Bool.cond_not, cond_true, cond_false, Bool.and_true, Bool.true_and, getI_some, getB_some, nth_ints_o, nth_bools_o, wrap64_o, len_ints, len_bools, lenOf_1, Int.toNat_natCast, Nat.mul_one, Nat.zero_add, setNth_bools_o, setNth_ints_o, len_set_i, len_set_b, Option.bind_some, List.length_append, List.length_cons, List.length_nil, unI_ints, unB_bools, ints_app1, bools_app1, nth_pr1, nth_pr2, len_prs, abs_if, Nat.add_zero, cond_same, h2]
    intro res
    have := l38_0 E c nl l c2 nl2 hE hl hlab r (i + 1) (out ++ [(E.length : Int) - x]) (by simp [ho]) h1 h3
    rw [List.append_assoc, List.singleton_append] at this
    exact .next k38_0 res this

theorem turn_fix {l : List Int} {n : Nat} (h : l.length = n) (h1 : 1 ≤ n) : (DV.sl (ints l) (lenOf 1 (ints l).length) 1 false (true && Nat.beq (ints l).length 0)) = .sl (ints l) n 1 false false := by
  rw [Go.AE.lenOf_1, len_ints, h]
  have hb : Nat.beq n 0 = false := by
    cases q : Nat.beq n 0 with
    | false => rfl
    | true => have := Nat.eq_of_beq_eq_true q; omega
  rw [hb]; rfl

/-- What is told of labels of a graph that is right. -/
theorem tells36 (n : Int) (E : List (Int × Int)) (c : Bool) (l : List Int) (c2 nl2 : Bool) (hn : openS n E = 0) : PureOK Try.prog 36 [iD n, edgX E c false, lstX l c2 nl2] (.tup [bD (gracB n E l), iD 0]) := by
  refine ae_pure evP_ok (fn := Try.f36) k36 (by kernel_rfl) (by kernel_rfl) (startF_done k36 done_plain ?_)
  rw [r36]
  have g : isP (tabP.op n (edD E) = 0 ∧ isE (edD E) E.length = true ∧ isI (ints l) = true ∧ (ints l).length = l.length ∧ false = false) = true := isP_iff.2 ⟨by show openS n (unE (edD E)) = 0; rw [unE_ed]; exact hn, isE_ed E, isI_ints l, len_ints l, rfl⟩
  have h0 : tabP.op n (edD E) = 0 := by show openS n (unE (edD E)) = 0; rw [unE_ed]; exact hn
  rw [isE_ed] at g
  rw [isE_ed, cond_true, cnd_pos h0, g, cond_true]
  show some (DV.tup [bD (gracB n (unE (edD E)) (unI (ints l))), iD 0]) = _
  rw [unE_ed, unI_ints]

theorem gradh {n : Int} {E : List (Int × Int)} {l : List Int} (hn : openS n E = 0) (hg : gracB n E l = true) : (l.length : Int) = n ∧ LabOK E.length l ∧ EdOK l.length E ∧ 2 ≤ n ∧ n ≤ 7 ∧ 1 ≤ E.length ∧ E.length ≤ 10 := by
  obtain ⟨g1, g2, g3⟩ := open_graph hn
  have hl := grac_len hg
  have hnew : newS E.length [] l = true := by
    simp only [gracB, Bool.and_eq_true] at hg
    exact hg.2.1
  refine ⟨hl, newS_lab hnew, ?_, g2, g3, g1.2.2.1, g1.2.2.2.1⟩
  rw [show l.length = n.toNat by omega]
  exact g1.2.2.2.2

theorem partL_some (E : List (Int × Int)) (l : List Int) : ∀ (j : Nat) (k : Int), j ≤ E.length → partL E l j = some k → (E.length : Int) - j ≤ k ∧ k < E.length ∧ E.all (splitE l k) = true ∧ ∀ k', (E.length : Int) - j ≤ k' → k' < k → ¬ E.all (splitE l k') = true
  | 0, k, hj, h => by cases h
  | j + 1, k, hj, h => by
    simp only [partL] at h
    split at h
    · rename_i hc
      cases h
      exact ⟨Int.le_refl _, by omega, hc, fun k' h1 h2 => by omega⟩
    · rename_i hc
      obtain ⟨h1, h2, h3, h4⟩ := partL_some E l j k (by omega) h
      refine ⟨by omega, h2, h3, fun k' q1 q2 => ?_⟩
      rcases Int.lt_or_eq_of_le q1 with q | q
      · exact h4 k' (by omega) q2
      · rw [← q]; exact hc

/-- The least number is the program's. -/
theorem parts_val {E : List (Int × Int)} {l : List Int} (hE : EdOK l.length E) (hl : LabOK E.length l) (h1 : 1 ≤ E.length) (h10 : E.length ≤ 10) {k : Int} (h : partL E l E.length = some k) : partS l E = k := by
  have hp : 0 ≤ partS l E := (parts_same E l hE hl h1 h10).2 (by rw [h]; rfl)
  obtain ⟨a1, a2, a3, a4⟩ := partL_some E l E.length k (Nat.le_refl _) h
  have b := (split_all l E k (by omega) (by omega)).1 a3
  unfold partS at hp ⊢
  split at hp
  · omega
  · rename_i hc
    rw [if_neg hc]
    rcases Int.lt_or_eq_of_le b.1 with q | q
    · exact absurd ((split_all l E (partF l E (-1) 25).1 hp (by omega)).2 ⟨Int.le_refl _, by omega⟩) (a4 _ (by omega) q)
    · exact q

noncomputable def pD37 (n : Int) (E : List (Int × Int)) (l : List Int) : DV := bif gracB n E l then bif (partL E l E.length).isSome then .tup [iD ((partL E l E.length).getD 0), bD true, iD 0] else .tup [iD 0, bD false, iD 0] else .tup [iD 0, bD false, iD 0]

theorem tells37 (n : Int) (E : List (Int × Int)) (c : Bool) (l : List Int) (c2 nl2 : Bool) (hn : openS n E = 0) (hnl : nl2 = true → l = []) : PureOK Try.prog 37 [iD n, edgX E c false, lstX l c2 nl2] (pD37 n E l) := by
  refine ae_pure evP_ok (fn := Try.f37) k37 (by kernel_rfl) (by kernel_rfl) (startF_done k37 done_plain ?_)
  rw [r37]
  have h0 : tabP.op n (edD E) = 0 := by show openS n (unE (edD E)) = 0; rw [unE_ed]; exact hn
  have g : isP (tabP.op n (edD E) = 0 ∧ isE (edD E) E.length = true ∧ isI (ints l) = true ∧ (ints l).length = l.length ∧ false = false) = true := isP_iff.2 ⟨h0, isE_ed E, isI_ints l, len_ints l, rfl⟩
  have hG : tabP.G n (edD E) (ints l) = gracB n E l := by show gracB n (unE (edD E)) (unI (ints l)) = _; rw [unE_ed, unI_ints]
  have hP : tabP.P (edD E) (ints l) = partS l E := by show partS (unI (ints l)) (unE (edD E)) = _; rw [unE_ed, unI_ints]
  unfold pD37
  rw [g, hG, hP, isE_ed, cond_true, cnd_pos h0, cond_true]
  cases hg : gracB n E l with
  | false => rfl
  | true =>
    obtain ⟨a1, a2, a3, a4, a5, a6, a7⟩ := gradh hn hg
    have hnl2 : nl2 = false := by
      cases nl2 with
      | false => rfl
      | true => rw [hnl rfl] at a1; simp at a1; omega
    have g2 : isP (tabP.op n (edD E) = 0 ∧ true = true ∧ true = true ∧ isI (ints l) = true ∧ (ints l).length = l.length ∧ false = false ∧ nl2 = false) = true := isP_iff.2 ⟨h0, rfl, rfl, isI_ints l, len_ints l, rfl, hnl2⟩
    rw [g2]
    simp only [cond_true, Bool.not_true, cond_false]
    have hs := parts_same E l a3 a2 a6 a7
    cases hp : partL E l E.length with
    | none =>
      have : ¬ 0 ≤ partS l E := fun q => by have := hs.1 q; rw [hp] at this; cases this
      rw [cnd_pos (by omega)]; rfl
    | some k =>
      have h3 := parts_val a3 a2 a6 a7 hp
      have : 0 ≤ partS l E := hs.2 (by rw [hp]; rfl)
      rw [cnd_neg (by omega), h3]; rfl

noncomputable def pD38 (n : Int) (E : List (Int × Int)) (l : List Int) : DV := bif gracB n E l then .tup [.sl (ints (turnL E l)) l.length 1 false false, iD 0] else .tup [nilS1, iD 1]

theorem tells38 (n : Int) (E : List (Int × Int)) (c : Bool) (l : List Int) (c2 nl2 : Bool) (hn : openS n E = 0) : PureOK Try.prog 38 [iD n, edgX E c false, lstX l c2 nl2] (pD38 n E l) := by
  refine ae_pure evP_ok (fn := Try.f38) k38 (by kernel_rfl) (by kernel_rfl) ?_
  have hd := r38d tabP n E c false l c2 nl2
  have hh := r38h tabP n E c false l c2 nl2
  have h0 : tabP.op n (edD E) = 0 := by show openS n (unE (edD E)) = 0; rw [unE_ed]; exact hn
  have g : isP (tabP.op n (edD E) = 0 ∧ isE (edD E) E.length = true ∧ isI (ints l) = true ∧ (ints l).length = l.length ∧ false = false) = true := isP_iff.2 ⟨h0, isE_ed E, isI_ints l, len_ints l, rfl⟩
  have hG : tabP.G n (edD E) (ints l) = gracB n E l := by show gracB n (unE (edD E)) (unI (ints l)) = _; rw [unE_ed, unI_ints]
  rw [g, hG, isE_ed, cond_true, cnd_pos h0, cond_true] at hd hh
  unfold pD38
  cases hg : gracB n E l with
  | false => rw [hg] at hd; exact startF_done k38 done_plain hd
  | true =>
    rw [hg] at hh
    obtain ⟨a1, a2, a3, a4, a5, a6, a7⟩ := gradh hn hg
    have loop := l38_0 E c false l c2 nl2 a7 (by omega) (a2.mono a7) l 0 [] rfl (by omega) rfl
    have := startF_one k38 done_plain hh loop (r38_x ..)
    rw [this, List.nil_append, turn_fix (n := l.length) (by simp [turnL]) (by omega)]
    rfl
end Go.Proofs.Ytkcdbndpcabelaa

/- Chapter 02: the law on what is told of labels, on data. -/
namespace Go.Proofs.Ytkcdbndpcabelaa
open Go Go.AE

structure TabT where
  G : Int → List DV → List DV → Bool
  pI : List DV → List DV → Bool
  pC : List DV → List DV → Int
  tu : List DV → List DV → List DV
end Go.Proofs.Ytkcdbndpcabelaa

/- Chapter 02: what is said of parities, without the program. -/
namespace Go.Proofs.Ytkcdbndpcabelaa
open Go Go.AE

/-! ### What is found -/
def Found (n : Int) (E : List (Int × Int)) (part : Bool) : Nat → List Int → Prop
  | 0, l => gracB n E l = true ∧ ((partL E l E.length).isSome = true ∨ part = false)
  | f + 1, l => ∃ k : Nat, k < E.length + 1 ∧ fitsB E l ((E.length : Int) - k) = true ∧ Found n E part f (l ++ [(E.length : Int) - k])

theorem Found.mono {n : Int} {E : List (Int × Int)} : ∀ {f : Nat} {l : List Int}, Found n E true f l → Found n E false f l
  | 0, l, h => ⟨h.1, .inr rfl⟩
  | f + 1, l, ⟨k, h1, h2, h3⟩ => ⟨k, h1, h2, Found.mono h3⟩

/-! ### Numbers from 1 to m, each once -/
/-! ### Degrees -/
theorem labAt_ne {l : List Int} (hn : l.Nodup) {a b : Int} (h0 : 0 ≤ a) (hab : a < b) (hb : b < l.length) : labAt l a ≠ labAt l b := by
  unfold labAt
  have ha' : a.toNat < l.length := by omega
  have hb' : b.toNat < l.length := by omega
  rw [show l.getD a.toNat 0 = l[a.toNat] by simp [ha'], show l.getD b.toNat 0 = l[b.toNat] by simp [hb']]
  exact List.pairwise_iff_getElem.1 hn a.toNat b.toNat ha' hb' (by omega)

/-! ### Two sides -/
/-! ### Complete graphs -/
end Go.Proofs.Ytkcdbndpcabelaa

/- Chapter 02: Rosa's law in plain Lean: the copies of graceful labels cover all pairs once; labels from the other end. -/
namespace Go.Proofs.Ytkcdbndpcabelaa
open Go Go.AE
/-! ### Copies -/
theorem tmod_shift {x t sz : Int} (h1 : 0 ≤ x + t) (h2 : x + t < 2 * sz) : Int.tmod (x + t) sz = if x + t < sz then x + t else x + t - sz := by
  rw [Int.tmod_eq_emod_of_nonneg h1]
  split
  · exact Int.emod_eq_of_lt h1 (by omega)
  · rename_i h
    have : (x + t) % sz = (x + t - sz) % sz := (Int.sub_emod_right ..).symm
    rw [this]
    exact Int.emod_eq_of_lt (by omega) (by omega)
theorem cnt_once {e : Int × Int} : ∀ {F : List (Int × Int)}, F.Nodup → e ∈ F → cnt e F = 1
  | x :: F, hn, h => by
    rw [List.nodup_cons] at hn
    simp only [cnt]
    rcases List.mem_cons.1 h with rfl | h
    · rw [if_pos rfl, cnt_zero hn.1]; rfl
    · rw [if_neg (by rintro rfl; exact hn.1 h), cnt_once hn.2 h]; rfl
theorem pairs_odd : ∀ m < 11, (pairsL (2 * m + 1)).length = (2 * m + 1) * m := by decide +kernel
section
variable {E : List (Int × Int)} {l : List Int} (hE : EdOK l.length E) (hl : LabOK E.length l) (hn : l.Nodup) (hd : (E.map (dlt l)).Nodup)
include hE hl hn
/-- Labels at the ends of an edge. -/
theorem ends {e : Int × Int} (he : e ∈ E) : 0 ≤ labAt l e.1 ∧ labAt l e.1 ≤ E.length ∧ 0 ≤ labAt l e.2 ∧ labAt l e.2 ≤ E.length ∧ labAt l e.1 ≠ labAt l e.2 := by
  have h := hE e he
  have a1 := hl.get (i := e.1.toNat) (by omega)
  have a2 := hl.get (i := e.2.toNat) (by omega)
  exact ⟨a1.1, a1.2, a2.1, a2.2, labAt_ne hn h.1 h.2.1 h.2.2⟩
theorem cp_ok {e : Int × Int} (he : e ∈ E) {t : Int} (ht0 : 0 ≤ t) (ht : t < 2 * E.length + 1) : okE (2 * E.length + 1) (cpE l (2 * E.length + 1) t e) = true := by
  obtain ⟨b1, b2, b3, b4, b5⟩ := ends hE hl hn he
  unfold cpE
  rw [tmod_shift (by omega) (by omega), tmod_shift (by omega) (by omega)]
  simp only [okE, Bool.and_eq_true, decide_eq_true_eq]
  omega
include hd
theorem cp_inj {e e' : Int × Int} (he : e ∈ E) (he' : e' ∈ E) {t t' : Int} (ht0 : 0 ≤ t) (ht : t < 2 * E.length + 1) (ht0' : 0 ≤ t') (ht' : t' < 2 * E.length + 1) (h : cpE l (2 * E.length + 1) t e = cpE l (2 * E.length + 1) t' e') : e = e' ∧ t = t' := by
  obtain ⟨b1, b2, b3, b4, b5⟩ := ends hE hl hn he
  obtain ⟨c1, c2, c3, c4, c5⟩ := ends hE hl hn he'
  unfold cpE at h
  rw [tmod_shift (by omega) (by omega), tmod_shift (by omega) (by omega), tmod_shift (by omega) (by omega), tmod_shift (by omega) (by omega)] at h
  simp only [Prod.mk.injEq] at h
  obtain ⟨h1, h2⟩ := h
  have hdl : dlt l e = dlt l e' := by
    unfold dlt dist
    omega
  have hee : e = e' := by
    obtain ⟨i, hi, rfl⟩ := List.getElem_of_mem he
    obtain ⟨j, hj, rfl⟩ := List.getElem_of_mem he'
    have e1 : (E.map (dlt l))[i]'(by simpa using hi) = (E.map (dlt l))[j]'(by simpa using hj) := by simpa using hdl
    have := (List.getElem_inj hd).1 e1
    subst this; rfl
  subst hee
  exact ⟨rfl, by omega⟩
theorem cp_nodup : ∀ (k : Nat) (t : Int), 0 ≤ t → t + k ≤ 2 * E.length + 1 → (cpFrom E l (2 * E.length + 1) k t).flatten.Nodup ∧ (∀ x ∈ (cpFrom E l (2 * E.length + 1) k t).flatten, ∃ e ∈ E, ∃ t', t ≤ t' ∧ t' < t + k ∧ x = cpE l (2 * E.length + 1) t' e) ∧ (cpFrom E l (2 * E.length + 1) k t).flatten.length = k * E.length
  | 0, t, _, _ => by simp [cpFrom]
  | k + 1, t, h0, hk => by
    obtain ⟨i1, i2, i3⟩ := cp_nodup k (t + 1) (by omega) (by omega)
    have hEn : E.Nodup := by
      rw [List.nodup_iff_pairwise_ne, List.pairwise_map] at hd
      rw [List.nodup_iff_pairwise_ne]
      exact hd.imp fun h q => h (by rw [q])
    refine ⟨?_, ?_, ?_⟩
    · show (E.map (cpE l _ t) ++ (cpFrom E l _ k (t + 1)).flatten).Nodup
      rw [List.nodup_append]
      refine ⟨?_, i1, ?_⟩
      · rw [List.nodup_iff_pairwise_ne, List.pairwise_map]
        rw [List.nodup_iff_pairwise_ne] at hEn
        refine List.Pairwise.imp_of_mem ?_ hEn
        intro a b ha hb hab h
        exact hab (cp_inj hE hl hn hd ha hb h0 (by omega) h0 (by omega) h).1
      · intro a ha b hb
        obtain ⟨e, he, rfl⟩ := List.mem_map.1 ha
        obtain ⟨e', he', t', t1, t2, rfl⟩ := i2 b hb
        intro h
        have := (cp_inj hE hl hn hd he he' h0 (by omega) (by omega) (by omega) h).2
        omega
    · intro x hx
      have hx : x ∈ E.map (cpE l (2 * E.length + 1) t) ++ (cpFrom E l (2 * E.length + 1) k (t + 1)).flatten := hx
      rcases List.mem_append.1 hx with hx | hx
      · obtain ⟨e, he, rfl⟩ := List.mem_map.1 hx
        exact ⟨e, he, t, by omega, by omega, rfl⟩
      · obtain ⟨e, he, t', t1, t2, rfl⟩ := i2 x hx
        exact ⟨e, he, t', by omega, by omega, rfl⟩
    · show (E.map (cpE l _ t) ++ (cpFrom E l _ k (t + 1)).flatten).length = _
      rw [List.length_append, i3, List.length_map, Nat.add_mul, Nat.one_mul, Nat.add_comm]
/-- The copies cover all pairs. -/
theorem rosa (h10 : E.length ≤ 10) : okR (2 * E.length + 1) (cpAll E l) = true ∧ allB (2 * E.length + 1) (cpAll E l).flatten (2 * E.length + 1) 0 = true := by
  obtain ⟨k1, k2, k3⟩ := cp_nodup hE hl hn hd (2 * E.length + 1) 0 (Int.le_refl _) (by omega)
  have hall : cpAll E l = cpFrom E l (2 * E.length + 1) (2 * E.length + 1) 0 := rfl
  rw [← hall] at k1 k2 k3
  have hmem : ∀ x ∈ (cpAll E l).flatten, okE (2 * E.length + 1) x = true := by
    intro x hx
    obtain ⟨e, he, t', t1, t2, rfl⟩ := k2 x hx
    exact cp_ok hE hl hn he t1 (by omega)
  refine ⟨?_, ?_⟩
  · unfold okR
    rw [List.all_eq_true]
    intro r hr
    have hlen : r.length = E.length := by
      have : ∀ (k : Nat) (t : Int), ∀ r ∈ cpFrom E l (2 * E.length + 1) k t, r.length = E.length := by
        intro k
        induction k with
        | zero => intro t r hr; simp [cpFrom] at hr
        | succ k ih =>
          intro t r hr
          unfold cpFrom at hr
          rcases List.mem_cons.1 hr with rfl | hr
          · simp
          · exact ih (t + 1) r hr
      exact this _ _ r hr
    rw [Bool.and_eq_true, Nat.ble_eq, List.all_eq_true]
    exact ⟨by omega, fun x hx => hmem x (List.mem_flatten.2 ⟨r, hr, hx⟩)⟩
  · rw [allB_iff (by omega)]
    intro b c c1 c2 c3
    have he : ((b, c) : Int × Int) ∈ pairsL (2 * E.length + 1) := pairsL_mem.2 (by simp only [okE, Bool.and_eq_true, decide_eq_true_eq]; omega)
    refine cnt_once k1 (nodup_full k1 (fun x hx => pairsL_mem.2 (by have := hmem x hx; simpa using this)) ?_ _ he)
    rw [k3, pairs_odd _ (by omega)]
    exact Nat.le_refl _
end
/-! ### Labels from the other end -/
theorem turn_turn (E : List (Int × Int)) (l : List Int) : turnL E (turnL E l) = l := by
  unfold turnL
  rw [List.map_map]
  conv => rhs; rw [← List.map_id l]
  refine List.map_congr_left fun x _ => ?_
  simp only [Function.comp, id]
  omega
theorem turn_len (E : List (Int × Int)) (l : List Int) : (turnL E l).length = l.length := by simp [turnL]
theorem turn_at {E : List (Int × Int)} {l : List Int} {a : Int} (h0 : 0 ≤ a) (h : a < l.length) : labAt (turnL E l) a = E.length - labAt l a := by
  unfold labAt turnL
  have : a.toNat < l.length := by omega
  simp [this]
theorem turn_dlt {E : List (Int × Int)} {l : List Int} (hE : EdOK l.length E) : E.map (dlt (turnL E l)) = E.map (dlt l) := by
  refine List.map_congr_left fun e he => ?_
  have h := hE e he
  unfold dlt
  rw [turn_at (by omega) h.2.2, turn_at h.1 (by omega)]
  unfold dist
  omega
theorem turn_grac {n : Int} {E : List (Int × Int)} {l : List Int} (hn : openS n E = 0) (hg : gracB n E l = true) : gracB n E (turnL E l) = true := by
  obtain ⟨a1, a2, a3, _⟩ := gradh hn hg
  simp only [gracB, Bool.and_eq_true, decide_eq_true_eq] at hg ⊢
  obtain ⟨g1, g2, g3⟩ := hg
  refine ⟨by rw [turn_len]; exact g1, ?_, by rw [turn_dlt a3]; exact g3⟩
  rw [newS_iff] at g2 ⊢
  refine ⟨?_, ?_, by simp⟩
  · intro x hx
    obtain ⟨y, hy, rfl⟩ := List.mem_map.1 hx
    have := g2.1 y hy
    omega
  · unfold turnL
    have h := g2.2.1
    rw [List.nodup_iff_pairwise_ne] at h ⊢
    rw [List.pairwise_map]
    exact h.imp fun h q => h (by omega)
theorem turn_part {n : Int} {E : List (Int × Int)} {l : List Int} (hn : openS n E = 0) (hg : gracB n E l = true) : (partL E l E.length).isSome = true → (partL E (turnL E l) E.length).isSome = true := by
  obtain ⟨a1, a2, a3, _⟩ := gradh hn hg
  intro hp
  obtain ⟨k, k1, k2, hk⟩ := (partL_iff E l E.length (Nat.le_refl _)).1 hp
  refine (partL_iff E _ E.length (Nat.le_refl _)).2 ⟨E.length - 1 - k, by omega, by omega, List.all_eq_true.2 fun e he => ?_⟩
  have h := a3 e he
  have hs := List.all_eq_true.1 hk e he
  unfold splitE at hs ⊢
  rw [turn_at h.1 (by omega), turn_at (by omega) h.2.2]
  have e1 : decide ((E.length : Int) - labAt l e.1 ≤ E.length - 1 - k) = !decide (labAt l e.1 ≤ k) := by
    rw [Bool.eq_iff_iff]; simp; omega
  have e2 : decide ((E.length : Int) - labAt l e.2 ≤ E.length - 1 - k) = !decide (labAt l e.2 ≤ k) := by
    rw [Bool.eq_iff_iff]; simp; omega
  rw [e1, e2]
  revert hs
  cases decide (labAt l e.1 ≤ k) <;> cases decide (labAt l e.2 ≤ k) <;> simp
theorem turn_parts {n : Int} {E : List (Int × Int)} {l : List Int} (hn : openS n E = 0) (hg : gracB n E l = true) : (partL E (turnL E l) E.length).isSome = (partL E l E.length).isSome := by
  rw [Bool.eq_iff_iff]
  constructor
  · intro h
    have := turn_part hn (turn_grac hn hg) h
    rwa [turn_turn] at this
  · exact turn_part hn hg
/-- What graceful labels are. -/
theorem grac_of {n : Int} {E : List (Int × Int)} {l : List Int} (hn : openS n E = 0) (hg : gracB n E l = true) : EdOK l.length E ∧ LabOK E.length l ∧ l.Nodup ∧ (E.map (dlt l)).Nodup := by
  obtain ⟨a1, a2, a3, _⟩ := gradh hn hg
  simp only [gracB, Bool.and_eq_true] at hg
  obtain ⟨_, hnew, hchk⟩ := hg
  refine ⟨a3, a2, ((newS_iff l []).1 hnew).2.1, ((chkD_iff _ _ ?_).1 hchk).1⟩
  intro d hd
  obtain ⟨e, hm, rfl⟩ := List.mem_map.1 hd
  have h := a3 e hm
  have := dlt_le a2 h.1 h.2.1 h.2.2
  simp only [List.length_replicate]
  omega
end Go.Proofs.Ytkcdbndpcabelaa

/- Chapter 02: law 10 (Rosa) on data. -/
namespace Go.Proofs.Ytkcdbndpcabelaa
open Go Go.AE
set_option maxRecDepth 100000
def lst10 (ds : List DV) : List Int := match nth ds 2 with
  | some (.sl cs _ _ _ _) => unI cs
  | _ => []
def lsD (l : List Int) : DV := .sl (ints l) l.length 1 false false
def edF (F : List (Int × Int)) : DV := .sl (edD F) F.length 2 false false
/-- What the functions answer, if there are labels; if there are none. -/
noncomputable def i10 (m : Int) (F : List (Int × Int)) (o : Option (List Int)) (f : Nat) (ds : List DV) : DV :=
  bif Nat.beq f 13 then .tup [iD m, edF F] else bif Nat.beq f 28 then (match o with
    | some l => .tup [lsD l, bD true, iD 0]
    | none => .tup [nilS1, bD false, iD 0]) else bif Nat.beq f 15 then (match o with
    | some l => .tup [.sl ((cpAll F l).map rowDV) (cpAll F l).length 1 false false, iD 0]
    | none => .tup [nilS1, iD 1]) else bif Nat.beq f 33 then .tup [bD true, iD 0] else
  bif Nat.beq f 38 then .tup [.sl (ints (turnL F (lst10 ds))) (lst10 ds).length 1 false false, iD 0] else bif Nat.beq f 36 then .tup [bD true, iD 0] else bif Nat.beq f 37 then .tup [iD ((partL F (lst10 ds) F.length).getD 0), bD (partL F (lst10 ds) F.length).isSome, iD 0] else bD true
def R10 (ok : Nat → List DV → Bool) (a b c d e : DV) (sz : Int) (m : Int) (F : DV) (x y : Bool) (l n : DV) : Option DV :=
  bif ok 13 [n, l, iD 10] then (bif ok 28 [iD m, F] then (bif ok 15 [iD m, F, a] then (bif ok 33 [iD sz, b] then (bif ok 38 [iD m, F, a] then (bif ok 36 [iD m, F, c] then (bif ok 38 [iD m, F, c] then (bif ok 37 [iD m, F, a] then (bif ok 37 [iD m, F, c] then (bif ok 23 [d, a] then
    (bif decide (x = y) then (bif ok 20 [] then some (bD true) else none) else some (bD false)) else none) else none) else none) else none) else none) else none) else none) else none) else none) else none
theorem t10n (ok : Nat → List DV → Bool) (m : Int) (F : List (Int × Int)) (n : Int) (l : DV) : startS aeC (evT ok (i10 m F none)) 10 0 Try.f10 none ⟨envOf 0 [.d (iD n), .d l], [], []⟩ (doneE aeC Try.f10 0 fun v h => freezeP 10 h v) =
  bif ok 13 [iD n, l, iD 10] then (bif ok 28 [iD m, edF F] then (bif ok 20 [] then some (bD true) else none) else none) else none := by kernel_rfl
theorem t10y (ok : Nat → List DV → Bool) (m : Int) (F : List (Int × Int)) (k : List Int) (n : Int) (l : DV) : startS aeC (evT ok (i10 m F (some k))) 10 0 Try.f10 none ⟨envOf 0 [.d (iD n), .d l], [], []⟩ (doneE aeC Try.f10 0 fun v h => freezeP 10 h v) =
  R10 ok (lsD k) (.sl ((cpAll F k).map rowDV) (cpAll F k).length 1 false false) (.sl (ints (turnL F (unI (ints k)))) (unI (ints k)).length 1 false false) (.sl (ints (turnL F (unI (ints (turnL F (unI (ints k))))))) (unI (ints (turnL F (unI (ints k))))).length 1 false false) .nilp
    (IntKind.wrap IntKind.i64 (IntKind.wrap IntKind.i64 (2 * (F.length : Int)) + 1)) m (edF F) (partL F (unI (ints k)) F.length).isSome (partL F (unI (ints (turnL F (unI (ints k))))) F.length).isSome l (iD n) := by kernel_rfl
theorem k10 : OkSeg Try.f10 none [] := ⟨by kernel_rfl, by kernel_rfl, by decide⟩
theorem isRows_map : ∀ R : List (List (Int × Int)), isRows (R.map rowDV) R
  | [] => trivial
  | r :: R => ⟨⟨false, Nat.beq r.length 0, rfl⟩, isRows_map R⟩
/-- Law 10 on data. -/
theorem rosa_pure (n : Int) (E : List (Int × Int)) (c nl : Bool) (hE : E.length < 9223372036854775808) : PureOK Try.prog 10 [iD n, edgX E c nl] (bD true) := by
  obtain ⟨m, F, hF, ht⟩ := tame_ok n E c nl hE
  obtain ⟨q1, q2, q3⟩ := open_graph hF
  have g20 : ∀ o, okS (i10 m F o) 20 [] = true := fun o => okS_is awake_ok
  have g13 : ∀ o, okS (i10 m F o) 13 [iD n, edgX E c nl, iD 10] = true := fun o => okS_is ht
  have c28 : PureOK Try.prog 28 [iD m, edF F] (bif (srS m F false true m.toNat []).1.isSome then .tup [.sl (ints ((srS m F false true m.toNat []).1.getD [])) ((srS m F false true m.toNat []).1.getD []).length 1 false false, bD true, iD 0] else .tup [nilS1, bD false, iD 0]) := by
    refine spL_ok .label _ _ ?_
    show (Tr.node (decide (openS m (unE (edD F)) = 0) && isE (edD F) F.length) _ _).val = _
    simp only [Tr.val]
    rw [unE_ed, isE_ed, hF]
    show (bif (srS m F false true m.toNat []).1.isSome then _ else _) = _
    cases (srS m F false true m.toNat []).1.isSome <;> rfl
  cases ho : (srS m F false true m.toNat []).1 with
  | none =>
    rw [ho] at c28
    have g28 : okS (i10 m F none) 28 [iD m, edF F] = true := okS_is c28
    exact ae_pure (evT_ok (i10 m F none)) (fn := Try.f10) k10 (by kernel_rfl) (by kernel_rfl) (startF_done k10 done_plain ((t10n ..).trans ((cond_is' (g13 _)).trans ((cond_is' g28).trans (cond_is' (g20 _))))))
  | some k =>
    rw [ho] at c28
    have hg : gracB m F k = true := srS_some (f := m.toNat) (l := []) (part := false) (first := true) ho
    obtain ⟨o1, o2, o3, o4⟩ := grac_of hF hg
    obtain ⟨_, _, _, _, _, p1, p10⟩ := gradh hF hg
    have hg2 := turn_grac hF hg
    have g28 : okS (i10 m F (some k)) 28 [iD m, edF F] = true := okS_is c28
    have g15 : okS (i10 m F (some k)) 15 [iD m, edF F, lsD k] = true := okS_is (by
      have := copies_ok m F false k false false hF
      unfold cpD at this
      rw [hg] at this
      exact this)
    have hsz : IntKind.wrap IntKind.i64 (IntKind.wrap IntKind.i64 (2 * (F.length : Int)) + 1) = ((2 * F.length + 1 : Nat) : Int) := by
      rw [wrap64_o (n := 2 * (F.length : Int)) (by omega) (by omega), wrap64_o (by omega) (by omega)]; omega
    obtain ⟨r1, r2⟩ := rosa o1 o2 o3 o4 p10
    have r1 : okR ((2 * F.length + 1 : Nat) : Int) (cpAll F k) = true := by
      have e : ((2 * F.length + 1 : Nat) : Int) = 2 * F.length + 1 := by omega
      rw [e]; exact r1
    have g33 : okS (i10 m F (some k)) 33 [iD ((2 * F.length + 1 : Nat) : Int), .sl ((cpAll F k).map rowDV) (cpAll F k).length 1 false false] = true := okS_is (by
      have h := covers_ok ((2 * F.length + 1 : Nat) : Int) _ (cpAll F k) (isRows_map _) false
      have hlen : (cpAll F k).length = 2 * F.length + 1 := by unfold cpAll; rw [cpFrom_len]
      have hb : (decide ((((2 * F.length + 1 : Nat)) : Int) < 2) || (decide (21 < (((2 * F.length + 1 : Nat)) : Int)) || decide (40 < (cpAll F k).length))) = false := by
        rw [hlen]; simp; omega
      rw [hb] at h
      simp only [cond_false] at h
      rw [cover_law (by omega) r1, r2] at h
      exact h)
    have tk : turnL F (unI (ints k)) = turnL F k := by rw [unI_ints]
    have g38 : ∀ x : List Int, gracB m F x = true → okS (i10 m F (some k)) 38 [iD m, edF F, lsD x] = true := fun x hx => okS_is (by
      show PureOK Try.prog 38 _ (.tup [.sl (ints (turnL F (unI (ints x)))) (unI (ints x)).length 1 false false, iD 0])
      rw [unI_ints]
      have h := tells38 m F false x false false hF
      unfold pD38 at h
      rw [hx] at h
      exact h)
    have g37 : ∀ x : List Int, gracB m F x = true → okS (i10 m F (some k)) 37 [iD m, edF F, lsD x] = true := fun x hx => okS_is (by
      show PureOK Try.prog 37 _ (.tup [iD ((partL F (unI (ints x)) F.length).getD 0), bD (partL F (unI (ints x)) F.length).isSome, iD 0])
      rw [unI_ints]
      have h := tells37 m F false x false false hF (by simp)
      unfold pD37 at h
      rw [hx] at h
      cases hp : partL F x F.length with
      | none => rw [hp] at h; exact h
      | some p => rw [hp] at h; exact h)
    have g36 : okS (i10 m F (some k)) 36 [iD m, edF F, lsD (turnL F k)] = true := okS_is (by
      have h := tells36 m F false (turnL F k) false false hF
      rw [hg2] at h
      exact h)
    have g23 : okS (i10 m F (some k)) 23 [lsD k, lsD k] = true := okS_is (by
      have hk : k.length ≤ 7 := by have := grac_len hg; have := gradh hF hg; omega
      have h := ints_ok2 k k false false false false (by unfold Small; omega)
      rw [decide_eq_true rfl] at h
      exact h)
    have e2 : DV.sl (ints (turnL F (unI (ints k)))) (unI (ints k)).length 1 false false = lsD (turnL F k) := by rw [unI_ints]; unfold lsD; rw [turn_len]
    have e3 : DV.sl (ints (turnL F (unI (ints (turnL F (unI (ints k))))))) (unI (ints (turnL F (unI (ints k))))).length 1 false false = lsD k := by
      rw [unI_ints, unI_ints, turn_turn, turn_len]; rfl
    refine ae_pure (evT_ok (i10 m F (some k))) (fn := Try.f10) k10 (by kernel_rfl) (by kernel_rfl) (startF_done k10 done_plain ((t10y ..).trans ?_))
    rw [e2, e3, hsz, unI_ints, unI_ints]
    unfold R10
    rw [g13, g28, g15, g33, g38 k hg, g36, g38 _ hg2, g37 k hg, g37 _ hg2, g23, turn_parts hF hg, g20]
    simp
end Go.Proofs.Ytkcdbndpcabelaa
