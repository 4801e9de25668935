/- Part 5 of what the law stands on: the abstract machine over the model, and what the functions answer. No condition. -/
import Derived.Test.YtjfopbpkophoeaaK4
set_option linter.unusedSimpArgs false
set_option linter.unusedVariables false

/- Chapter 06: matrices as 25 numbers; unit, product, power. -/
namespace Go.Proofs.Ytjfopbpkophoeaa
open Go Go.AE
set_option maxRecDepth 100000
def mx25 (k : Nat) (f : Nat → Int) : List DV := [iD k, iD (f 0), iD (f 1), iD (f 2), iD (f 3), iD (f 4), iD (f 5), iD (f 6), iD (f 7), iD (f 8), iD (f 9), iD (f 10), iD (f 11), iD (f 12), iD (f 13), iD (f 14), iD (f 15), iD (f 16), iD (f 17), iD (f 18), iD (f 19), iD (f 20), iD (f 21), iD (f 22), iD (f 23), iD (f 24)]
def unitF (k i : Nat) : Int := bif Nat.blt (i / 5) k && Nat.beq (i / 5) (i % 5) then 1 else 0
def sumW (f g : Nat → Int) (r c : Nat) : Nat → Int
  | 0 => 0
  | n + 1 => IntKind.wrap .i64 (sumW f g r c n + IntKind.wrap .i64 (f (5 * r + n) * g (5 * n + c)))
def mulF (k : Nat) (f g : Nat → Int) (i : Nat) : Int := bif Nat.blt (i / 5) k && Nat.blt (i % 5) k then sumW f g (i / 5) (i % 5) k else 0
def dec (d : DV) (i : Nat) : Int := match d with
  | .agg l => (match nth l (i + 1) with | some (.int _ n) => n | _ => 0)
  | _ => 0
theorem c66_1 : PureOK Try.prog 66 [iD 1] (.agg (mx25 1 (unitF 1))) := walkA (by kernel_rfl : tget aeF 66 = some Try.f66) (by kernel_rfl)
theorem c66_2 : PureOK Try.prog 66 [iD 2] (.agg (mx25 2 (unitF 2))) := walkA (by kernel_rfl : tget aeF 66 = some Try.f66) (by kernel_rfl)
theorem c66_3 : PureOK Try.prog 66 [iD 3] (.agg (mx25 3 (unitF 3))) := walkA (by kernel_rfl : tget aeF 66 = some Try.f66) (by kernel_rfl)
theorem c66_4 : PureOK Try.prog 66 [iD 4] (.agg (mx25 4 (unitF 4))) := walkA (by kernel_rfl : tget aeF 66 = some Try.f66) (by kernel_rfl)
theorem c66_5 : PureOK Try.prog 66 [iD 5] (.agg (mx25 5 (unitF 5))) := walkA (by kernel_rfl : tget aeF 66 = some Try.f66) (by kernel_rfl)
theorem c85_1 (f g : Nat → Int) : PureOK Try.prog 85 [.agg (mx25 1 f), .agg (mx25 1 g)] (.agg (mx25 1 (mulF 1 f g))) := walkA (by kernel_rfl : tget aeF 85 = some Try.f85) (by kernel_rfl)
theorem c85_2 (f g : Nat → Int) : PureOK Try.prog 85 [.agg (mx25 2 f), .agg (mx25 2 g)] (.agg (mx25 2 (mulF 2 f g))) := walkA (by kernel_rfl : tget aeF 85 = some Try.f85) (by kernel_rfl)
theorem c85_3 (f g : Nat → Int) : PureOK Try.prog 85 [.agg (mx25 3 f), .agg (mx25 3 g)] (.agg (mx25 3 (mulF 3 f g))) := walkA (by kernel_rfl : tget aeF 85 = some Try.f85) (by kernel_rfl)
theorem c85_4 (f g : Nat → Int) : PureOK Try.prog 85 [.agg (mx25 4 f), .agg (mx25 4 g)] (.agg (mx25 4 (mulF 4 f g))) := walkA (by kernel_rfl : tget aeF 85 = some Try.f85) (by kernel_rfl)
theorem c85_5 (f g : Nat → Int) : PureOK Try.prog 85 [.agg (mx25 5 f), .agg (mx25 5 g)] (.agg (mx25 5 (mulF 5 f g))) := walkA (by kernel_rfl : tget aeF 85 = some Try.f85) (by kernel_rfl)
theorem five {k : Nat} (h1 : 1 ≤ k) (h5 : k ≤ 5) : k = 1 ∨ k = 2 ∨ k = 3 ∨ k = 4 ∨ k = 5 := by omega
theorem c85 {k : Nat} (h1 : 1 ≤ k) (h5 : k ≤ 5) (f g : Nat → Int) : PureOK Try.prog 85 [.agg (mx25 k f), .agg (mx25 k g)] (.agg (mx25 k (mulF k f g))) := by
  rcases five h1 h5 with rfl | rfl | rfl | rfl | rfl
  · exact c85_1 f g
  · exact c85_2 f g
  · exact c85_3 f g
  · exact c85_4 f g
  · exact c85_5 f g
/-- A matrix's numbers. -/
def fM (M : List (List Int)) (i : Nat) : Int := (M.getD (i / 5) []).getD (i % 5) 0
theorem mtx_mx {k : Nat} {M : List (List Int)} (hM : matB k M) (h1 : 1 ≤ k) (h5 : k ≤ 5) : mtx M = .agg (mx25 k (fM M)) := by
  rcases mat_forms hM h1 h5 with ⟨rfl, x00, rfl⟩ | ⟨rfl, x00, x01, x10, x11, rfl⟩ | ⟨rfl, x00, x01, x02, x10, x11, x12, x20, x21, x22, rfl⟩ | ⟨rfl, x00, x01, x02, x03, x10, x11, x12, x13, x20, x21, x22, x23, x30, x31, x32, x33, rfl⟩ | ⟨rfl, x00, x01, x02, x03, x04, x10, x11, x12, x13, x14, x20, x21, x22, x23, x24, x30, x31, x32, x33, x34, x40, x41, x42, x43, x44, rfl⟩
  · kernel_rfl
  · kernel_rfl
  · kernel_rfl
  · kernel_rfl
  · kernel_rfl
end Go.Proofs.Ytjfopbpkophoeaa

/- Chapter 06: trips in plain Lean: where a power is not 0; the first trip. -/
namespace Go.Proofs.Ytjfopbpkophoeaa
open Go Go.AE
/-- Whether there is a trip of a length from a state to j. -/
def reach (k : Nat) (f : Nat → Int) (j : Nat) : Nat → Nat → Bool
  | 0, i => Nat.beq i j
  | n + 1, i => (List.range k).any fun x => decide (0 < f (5 * i + x)) && reach k f j n x
def lst (p : Nat → Bool) : Nat → Nat
  | 0 => 0
  | n + 1 => bif Nat.blt (lst p n) n then lst p n else bif p n then n else n + 1
def stepB (k : Nat) (f : Nat → Int) (j n i x : Nat) : Bool := decide (0 < f (5 * i + x)) && reach k f j n x
/-- The next state of the first trip. -/
def nxt (k : Nat) (f : Nat → Int) (j n i : Nat) : Nat := lst (stepB k f j n i) k
/-- The first trip, behind its first state. -/
def trip (k : Nat) (f : Nat → Int) (j : Nat) : Nat → Nat → List Nat
  | 0, _ => []
  | n + 1, i => nxt k f j n i :: trip k f j n (nxt k f j n i)
theorem reach_succ {k : Nat} {f : Nat → Int} {j n i : Nat} : reach k f j (n + 1) i = true ↔ ∃ x, x < k ∧ 0 < f (5 * i + x) ∧ reach k f j n x = true := by
  simp only [reach, List.any_eq_true, List.mem_range, Bool.and_eq_true, decide_eq_true_eq]
/-! ### Powers -/
theorem sumW_ok {f g : Nat → Int} {r c : Nat} {B : Int} (hB0 : 0 ≤ B) (hB : B ≤ 100000000000000000) (hf : ∀ x < 5, 0 ≤ f (5 * r + x) ∧ f (5 * r + x) ≤ 9) : ∀ N : Nat, N ≤ 5 → (∀ x < N, 0 ≤ g (5 * x + c) ∧ g (5 * x + c) ≤ B) →
    0 ≤ sumW f g r c N ∧ sumW f g r c N ≤ 9 * B * N ∧ (sumW f g r c N ≠ 0 ↔ ∃ x, x < N ∧ 0 < f (5 * r + x) ∧ g (5 * x + c) ≠ 0)
  | 0, _, _ => ⟨Int.le_refl _, by simp [sumW], by simp [sumW]⟩
  | N + 1, hN, hg => by
    obtain ⟨i1, i2, i3⟩ := sumW_ok hB0 hB hf N (by omega) (fun x hx => hg x (by omega))
    obtain ⟨f1, f2⟩ := hf N (by omega)
    obtain ⟨g1, g2⟩ := hg N (by omega)
    have p1 : 0 ≤ f (5 * r + N) * g (5 * N + c) := Int.mul_nonneg f1 g1
    have p2 : f (5 * r + N) * g (5 * N + c) ≤ 9 * B := Int.mul_le_mul f2 g2 g1 (by omega)
    have p3 : f (5 * r + N) * g (5 * N + c) ≠ 0 ↔ 0 < f (5 * r + N) ∧ g (5 * N + c) ≠ 0 := by
      rw [Int.mul_ne_zero_iff]
      constructor
      · rintro ⟨a, b⟩; exact ⟨by omega, b⟩
      · rintro ⟨a, b⟩; exact ⟨by omega, b⟩
    have i4 : 9 * B * N ≤ 9 * B * 4 := Int.mul_le_mul_of_nonneg_left (by omega) (by omega)
    have i5 : 9 * B * ((N + 1 : Nat) : Int) = 9 * B * N + 9 * B := by
      rw [show ((N + 1 : Nat) : Int) = (N : Int) + 1 from rfl, Int.mul_add, Int.mul_one]
    generalize hq : f (5 * r + N) * g (5 * N + c) = q at p1 p2 p3
    have e : sumW f g r c (N + 1) = sumW f g r c N + q := by
      show IntKind.wrap .i64 (sumW f g r c N + IntKind.wrap .i64 (f (5 * r + N) * g (5 * N + c))) = _
      rw [hq, wrap64_o (n := q) (by omega) (by omega), wrap64_o (by omega) (by omega)]
    rw [e, i5]
    refine ⟨by omega, by omega, ?_⟩
    constructor
    · intro h
      by_cases hz : sumW f g r c N = 0
      · have : q ≠ 0 := by omega
        exact ⟨N, by omega, p3.1 this⟩
      · obtain ⟨x, hx, h1⟩ := i3.1 hz
        exact ⟨x, by omega, h1⟩
    · rintro ⟨x, hx, h1⟩
      by_cases hxN : x < N
      · have := i3.2 ⟨x, hxN, h1⟩; omega
      · have : x = N := by omega
        subst this
        have := p3.2 h1; omega
theorem idx5 {i j : Nat} (hj : j < 5) : (5 * i + j) / 5 = i ∧ (5 * i + j) % 5 = j := by omega
theorem fM_b {k : Nat} {M : List (List Int)} (hM : matB k M) (i : Nat) : 0 ≤ fM M i ∧ fM M i ≤ 9 := by
  unfold fM
  rw [List.getD_eq_getElem?_getD (l := M)]
  rcases Nat.lt_or_ge (i / 5) M.length with q | q
  · rw [List.getElem?_eq_getElem q, Option.getD_some]
    have h := hM.2 _ (List.getElem_mem q)
    rw [List.getD_eq_getElem?_getD]
    rcases Nat.lt_or_ge (i % 5) (M[i / 5]).length with p | p
    · rw [List.getElem?_eq_getElem p, Option.getD_some]
      exact smallB_at h.2 _ (List.getElem_mem p)
    · rw [List.getElem?_eq_none p]; simp
  · rw [List.getElem?_eq_none q]; simp
end Go.Proofs.Ytjfopbpkophoeaa

/- Chapter 06: the records of ranges over patterns: in Mixes (31), Beat (30), hangs (73). -/
namespace Go.Proofs.Ytjfopbpkophoeaa
open Go Go.AE
set_option maxRecDepth 100000
/-- The range over a function in code. -/
def rfOf : Code → Option (Array Tmp × Code × Code)
  | .seq a b => match rfOf a with
    | some x => some x
    | none => rfOf b
  | .cond _ a b => match rfOf a with
    | some x => some x
    | none => rfOf b
  | .block _ b => rfOf b
  | .loop b => rfOf b
  | .scope b => rfOf b
  | .rangeFunc _ ps asg bo => some (ps, asg, bo)
  | _ => none
noncomputable def recB (fid : Nat) (fn : Func) (env : List (Nat × AV)) (l : Nat) (st : LoopState) (pe : Option Code) : Blk := match rfOf (bodyOf fn) with
  | some (ps, asg, bo) => .loop st pe fid fn.ntmps env ps.toList asg bo l
  | none => .dead
def env31 (a : DV) (k : Nat) (f : Nat → Int) : List (Nat × AV) := [(29, .d (.fn 87 [] [.ptr (mx25 k f) 0])), (28, .d (.agg (mx25 k f))), (9, .ref 3 0), (8, .ref 2 0), (7, .ref 1 0), (27, .d (iD (IntKind.wrap .i64 (IntKind.wrap .i64 (IntKind.wrap .i64 ((k : Int) - 1) * IntKind.wrap .i64 ((k : Int) - 1)) + 1)))), (26, .d (iD (IntKind.wrap .i64 (IntKind.wrap .i64 ((k : Int) - 1) * IntKind.wrap .i64 ((k : Int) - 1))))), (25, .d (iD (IntKind.wrap .i64 ((k : Int) - 1)))), (24, .d (iD k)), (23, .ref 0 0), (22, .d (iD (IntKind.wrap .i64 ((k : Int) - 1)))), (21, .d (iD k)), (20, .ref 0 0), (18, .d (bD false)), (17, .d (iD 0)), (6, .d (iD 0)), (5, .ref 0 0), (16, .d (iD 0)), (15, .d (.agg (mx25 k f))), (12, .d (.tup [.agg (mx25 k f), iD 0])), (14, .d (.tup [.agg (mx25 k f), iD 0])), (13, .d a), (4, .d (iD 0)), (3, .d (bD false)), (2, .d (iD 0)), (0, .d a)]
def i31 (k : Nat) (f : Nat → Int) (g : Nat) (_ : List DV) : DV := bif Nat.beq g 61 then .tup [.agg (mx25 k f), iD 0] else .fn 87 [] [.ptr (mx25 k f) 0]
noncomputable def ev31 (ok : Nat → List DV → Bool) (k : Nat) (f : Nat → Int) (F : List (Nat × RuleF)) : Ev := { evT ok (i31 k f) with fn := fun f xs h => .node (calmF f) .fail (toldF F f xs h) }
def most31 (k : Nat) : Int := IntKind.wrap .i64 (IntKind.wrap .i64 (IntKind.wrap .i64 ((k : Int) - 1) * IntKind.wrap .i64 ((k : Int) - 1)) + 1)
noncomputable def H31 (a : DV) (k : Nat) (f : Nat → Int) (o : Int) (b : Bool) (st : LoopState) (pe : Option Code) : List Blk := [.dc (mx25 k f), .dc [iD (most31 k)], .dc [iD o], .dc [bD b], .defr, recB 31 Try.f31 (env31 a k f) 4 st pe]
end Go.Proofs.Ytjfopbpkophoeaa

/- Chapter 06: the rounds over patterns. Written by wip/tools/genX2.py. -/
namespace Go.Proofs.Ytjfopbpkophoeaa
open Go Go.AE
set_option maxRecDepth 100000
def eqM (k : Nat) (g c : Nat → Int) : Bool := decide ((k : Int) = (k : Int)) && (decide (g 0 = c 0) && (decide (g 1 = c 1) && (decide (g 2 = c 2) && (decide (g 3 = c 3) && (decide (g 4 = c 4) && (decide (g 5 = c 5) && (decide (g 6 = c 6) && (decide (g 7 = c 7) && (decide (g 8 = c 8) && (decide (g 9 = c 9) && (decide (g 10 = c 10) && (decide (g 11 = c 11) && (decide (g 12 = c 12) && (decide (g 13 = c 13) && (decide (g 14 = c 14) && (decide (g 15 = c 15) && (decide (g 16 = c 16) && (decide (g 17 = c 17) && (decide (g 18 = c 18) && (decide (g 19 = c 19) && (decide (g 20 = c 20) && (decide (g 21 = c 21) && (decide (g 22 = c 22) && (decide (g 23 = c 23) && (decide (g 24 = c 24) && true)))))))))))))))))))))))))
noncomputable def evQ (ok : Nat → List DV → Bool) (k : Nat) (P : Nat → List DV → Nat → Int) : Ev := evT ok fun f ds => bif Nat.beq f 60 then iD (P f ds 0) else .agg (mx25 k (P f ds))
/-! ### hangs -/
def orI (x y : Int) : Int := IntKind.wrap .i64 (((BitVec.ofInt 64 x ||| BitVec.ofInt 64 y).toNat : Nat) : Int)
def orF (k : Nat) (al g : Nat → Int) (i : Nat) : Int := bif Nat.blt (i / 5) k && Nat.blt (i % 5) k then orI (al i) (g i) else al i
def env73 (k : Nat) (f : Nat → Int) : List (Nat × AV) := [(12, .d (.fn 87 [] [.ptr (mx25 k f) 0])), (11, .d (.agg (mx25 k f))), (3, .ref 1 0), (10, .d (.agg (mx25 k fun _ => 0))), (9, .d (iD k)), (8, .ref 0 0), (2, .d (bD false)), (1, .ref 0 0), (0, .d (.agg (mx25 k f)))]
noncomputable def H73 (k : Nat) (f al : Nat → Int) (st : LoopState) (pe : Option Code) : List Blk := [.dc (mx25 k f), .dc (mx25 k al), .defr, recB 73 Try.f73 (env73 k f) 2 st pe]
noncomputable def ev73 (ok : Nat → List DV → Bool) (k : Nat) (f : Nat → Int) (P : Nat → List DV → Nat → Int) (F : List (Nat × RuleF)) : Ev := { evT ok (fun g ds => bif Nat.beq g 74 then .fn 87 [] [.ptr (mx25 k f) 0] else .agg (mx25 k (P g ds))) with fn := fun f xs h => .node (calmF f) .fail (toldF F f xs h) }

end Go.Proofs.Ytjfopbpkophoeaa

/- Chapter 06: patterns' loop (87) in the memory of those who range over it. -/
namespace Go.Proofs.Ytjfopbpkophoeaa
open Go Go.AE
set_option maxRecDepth 100000
/-- A round, with what comes behind it. -/
def roundK {R : Type} (C : Ctx) (E : Ev) (k l : Nat) (args : List AV) (h : List Blk) (K : AV × List Blk → Option R) : Option R :=
  match nth h l with
  | some (.loop .ready _ fid nt env ps asg bo _) =>
    cond (Nat.beq args.length ps.length && (okCode C fid nt asg && (okCode C fid nt bo && ps.all fun t => Nat.blt t nt)))
      (codeE C E fid h.length k [] none 0 asg ⟨putAll ps args env, h, []⟩ fun ex s1 => match ex with
        | .norm => match nth s1.heap l with
          | some (.loop .ready pe f n e p a b d) => codeE C E fid h.length k [] none 0 bo ⟨s1.env, setNth s1.heap l (.loop .busy pe f n e p a b d), s1.marks⟩ fun ex s2 => (endE h.length l ex s2).bind K
          | _ => none
        | _ => none) none
  | _ => none
theorem roundK_eq {R : Type} (C : Ctx) (E : Ev) (k l : Nat) (args : List AV) (h : List Blk) (K : AV × List Blk → Option R) : roundK C E k l args h K = (roundE C E k l args h).bind K := by
  unfold roundK roundE
  cases nth h l with
  | none => rfl
  | some x => cases x with
    | loop st pe fid nt env ps asg bo d => cases st with
      | ready =>
        dsimp only
        cases (Nat.beq args.length ps.length && (okCode C fid nt asg && (okCode C fid nt bo && ps.all fun t => Nat.blt t nt))) with
        | false => rfl
        | true =>
          simp only [cond_true]
          rcases fac_codeE (C := C) (E := E) (fid := fid) (base := h.length) (k := k) (res := []) (out := none) asg 0 ⟨putAll ps args env, h, []⟩ with ⟨e1, s1, h1⟩ | h1
          · replace h1 : ∀ (R : Type) (K : Ex → St → Option R), codeE C E fid h.length k [] none 0 asg ⟨putAll ps args env, h, []⟩ K = K e1 s1 := h1
            rw [h1, h1]
            cases e1 with
            | norm =>
              dsimp only
              cases nth s1.heap l with
              | none => rfl
              | some y => cases y with
                | loop st pe f n e p a b d => cases st with
                  | ready =>
                    dsimp only
                    rcases fac_codeE (C := C) (E := E) (fid := fid) (base := h.length) (k := k) (res := []) (out := none) bo 0 ⟨s1.env, setNth s1.heap l (.loop .busy pe f n e p a b d), s1.marks⟩ with ⟨e2, s2, h2⟩ | h2
                    · replace h2 : ∀ (R : Type) (K : Ex → St → Option R), codeE C E fid h.length k [] none 0 bo ⟨s1.env, setNth s1.heap l (.loop .busy pe f n e p a b d), s1.marks⟩ K = K e2 s2 := h2
                      rw [h2, h2]
                    · replace h2 : ∀ (R : Type) (K : Ex → St → Option R), codeE C E fid h.length k [] none 0 bo ⟨s1.env, setNth s1.heap l (.loop .busy pe f n e p a b d), s1.marks⟩ K = none := h2
                      rw [h2, h2]; rfl
                  | _ => rfl
                | _ => rfl
            | _ => rfl
          · replace h1 : ∀ (R : Type) (K : Ex → St → Option R), codeE C E fid h.length k [] none 0 asg ⟨putAll ps args env, h, []⟩ K = none := h1
            rw [h1, h1]; rfl
      | _ => rfl
    | _ => rfl
theorem fac_roundK (C : Ctx) (E : Ev) (k l : Nat) (args : List AV) (h : List Blk) : Fac (fun R (K : AV × List Blk → Option R) => roundK C E k l args h K) := by
  cases e : roundE C E k l args h with
  | none => exact .inr fun R K => (roundK_eq ..).trans (by rw [e]; rfl)
  | some p => exact .inl ⟨p, fun R K => (roundK_eq ..).trans (by rw [e]; rfl)⟩
noncomputable def Ev.rounds (E : Ev) (C : Ctx) (k : Nat) : Ev := { E with round := fun l xs h => .cps (fun _ K => roundK C E k l xs h K) (fac_roundK C E k l xs h) }
theorem Ev.rounds_ok {E : Ev} (hE : EvOK Try.prog E) (k : Nat) : EvOK Try.prog (Ev.rounds E aeC k) :=
  ⟨hE.pure, hE.fn, hE.calm, fun l xs h v h' e => roundE_sound ae_T ae_Q ae_mixed hE (k := k) (by
    have e' : roundK aeC E k l xs h some = some (v, h') := e
    rw [roundK_eq] at e'
    cases q : roundE aeC E k l xs h with
    | none => rw [q] at e'; cases e'
    | some p => rw [q] at e'; exact e')⟩
noncomputable def evR (ok : Nat → List DV → Bool) (k : Nat) (P : Nat → List DV → Nat → Int) : Ev := Ev.rounds (evQ ok k P) aeC 20
def s87 (k : Nat) (f : Nat → Int) (y b : Nat) (n : Int) (g : Nat → Int) (H : List Blk) : St := ⟨[(0, .yld y), (1, .d (.ptr (mx25 k f) 0)), (3, .ref b 0), (4, .d (iD n))], H ++ [.dc (mx25 k g)], []⟩
def nx87 (ok : Nat → List DV → Bool) (k : Nat) (P : Nat → List DV → Nat → Int) (f g : Nat → Int) (y b : Nat) (n : Int) (H : List Blk) : Option (Ex × St) :=
  bif ok 85 [.agg (mx25 k g), .agg (mx25 k f)] then (bif ok 88 [.agg (mx25 k (P 85 [.agg (mx25 k g), .agg (mx25 k f)]))] then some (.norm, s87 k f y b (IntKind.wrap .i64 (n + 1)) (P 88 [.agg (mx25 k (P 85 [.agg (mx25 k g), .agg (mx25 k f)]))]) H) else none) else none
theorem h87_31 (ok : Nat → List DV → Bool) (a : DV) (k : Nat) (P : Nat → List DV → Nat → Int) (f : Nat → Int) (o : Int) (b : Bool) : startS aeC (evR ok k P) 87 6 Try.f87 none ⟨envOf 0 [.yld 5, .d (.ptr (mx25 k f) 0)], H31 a k f o b .ready none, []⟩ (heldD aeC 87 6) = bif ok 66 [iD k] then some (0, s87 k f 5 6 0 (P 66 [iD k]) (H31 a k f o b .ready none)) else none := by kernel_rfl
theorem t87_31 (ok : Nat → List DV → Bool) (a : DV) (k : Nat) (P : Nat → List DV → Nat → Int) (f g : Nat → Int) (n o : Int) (b : Bool) : startS aeC (evR ok k P) 87 6 Try.f87 (some 0) (s87 k f 5 6 n g (H31 a k f o b .ready none)) (roundD aeC 87 6 0) =
  bif decide (IntKind.wrap .i64 (most31 k + 1) < n) then some (.exit 0, ⟨[], H31 a k f o b .done (some (.exit 0)), []⟩) else
  bif ok 75 [iD k] then (bif !eqM k g (P 75 [iD k]) then nx87 ok k P f g 5 6 n (H31 a k f o false .ready none) else
    bif !b then nx87 ok k P f g 5 6 n (H31 a k f n true .ready none) else nx87 ok k P f g 5 6 n (H31 a k f o b .ready none)) else none := by kernel_rfl
theorem e87_31 (ok : Nat → List DV → Bool) (a : DV) (k : Nat) (P : Nat → List DV → Nat → Int) (f : Nat → Int) (o : Int) (b : Bool) : nextS aeC (evR ok k P) 87 6 Try.f87 none 0 (.exit 0) ⟨[], H31 a k f o b .done (some (.exit 0)), []⟩ (doneE aeC Try.f87 6 fun v h => some (v, h)) = some (.d (.tup []), H31 a k f o b .done (some (.exit 0))) := by kernel_rfl
theorem k87 : OkSeg Try.f87 none [0] := ⟨by kernel_rfl, by kernel_rfl, by decide⟩
theorem k87_0 : OkSeg Try.f87 (some 0) [] := ⟨by kernel_rfl, by kernel_rfl, by decide⟩
theorem t31 (ok : Nat → List DV → Bool) (a : DV) (k : Nat) (f : Nat → Int) (o : Int) (b : Bool) (q : List AV → List Blk → Bool) : startS aeC (ev31 ok k f [(87, fun xs h => .node (q xs h) (.leaf (.d (.tup []), H31 a k f o b .done (some (.exit 0)))) .fail)]) 31 0 Try.f31 none ⟨envOf 0 [.d a], [], []⟩ (doneE aeC Try.f31 0 fun v h => freezeV h 4 v) = bif ok 61 [a] then (bif ok 74 [.agg (mx25 k f)] then (bif q [.yld 5, .d (.ptr (mx25 k f) 0)] (H31 a k f 0 false .ready none) then (bif !b then some (.tup [iD 0, bD false, iD 0]) else some (.tup [iD o, bD true, iD 0])) else none) else none) else none := by kernel_rfl
theorem k31 : OkSeg Try.f31 none [] := ⟨by kernel_rfl, by kernel_rfl, by decide⟩
end Go.Proofs.Ytjfopbpkophoeaa

/- Chapter 06: sets of states that are reached (76). -/
namespace Go.Proofs.Ytjfopbpkophoeaa
open Go Go.AE
set_option maxRecDepth 100000
def accJ (f : Nat → Int) (N i nx : Nat) : Nat → Nat
  | 0 => nx
  | j + 1 => bif N.testBit i && decide (0 < f (5 * i + j)) then accJ f N i nx j ||| 2 ^ j else accJ f N i nx j
def accI (k : Nat) (f : Nat → Int) (N : Nat) : Nat → Nat
  | 0 => 0
  | i + 1 => accJ f N i (accI k f N i) k
/-- The set of states that are reached, as a number. -/
def setN (k : Nat) (f : Nat → Int) (fr : Nat) : Nat → Nat
  | 0 => 2 ^ fr
  | n + 1 => accI k f (setN k f fr n) k
theorem accJ_lt {f : Nat → Int} {N i nx : Nat} (hnx : nx < 32) : ∀ J : Nat, J ≤ 5 → accJ f N i nx J < 32
  | 0, _ => hnx
  | J + 1, h => by
    have ih := accJ_lt (f := f) (N := N) (i := i) hnx J (by omega)
    unfold accJ
    cases N.testBit i && decide (0 < f (5 * i + J)) with
    | false => exact ih
    | true =>
      have h2 : 2 ^ J < 2 ^ 5 := Nat.pow_lt_pow_right (by decide) (by omega)
      exact Nat.or_lt_two_pow (n := 5) ih h2
theorem accI_lt {k : Nat} (h5 : k ≤ 5) (f : Nat → Int) (N : Nat) : ∀ I : Nat, accI k f N I < 32
  | 0 => by show 0 < 32; decide
  | I + 1 => accJ_lt (accI_lt h5 f N I) k h5
theorem setN_lt {k : Nat} (h5 : k ≤ 5) (f : Nat → Int) {fr : Nat} (hf : fr < k) : ∀ n : Nat, setN k f fr n < 32
  | 0 => Nat.pow_lt_pow_right (a := 2) (m := fr) (n := 5) (by decide) (by omega)
  | n + 1 => accI_lt h5 f _ k
theorem accJ_bit {f : Nat → Int} {N i nx : Nat} (x : Nat) : ∀ J : Nat, (accJ f N i nx J).testBit x = true ↔ nx.testBit x = true ∨ (x < J ∧ N.testBit i = true ∧ 0 < f (5 * i + x))
  | 0 => by simp [accJ]
  | J + 1 => by
    have ih := accJ_bit (f := f) (N := N) (i := i) (nx := nx) x J
    unfold accJ
    cases hb : N.testBit i && decide (0 < f (5 * i + J)) with
    | false =>
      simp only [cond_false]
      rw [ih]
      simp only [Bool.and_eq_false_iff, decide_eq_false_iff_not] at hb
      constructor
      · rintro (h | ⟨h1, h2⟩)
        · exact .inl h
        · exact .inr ⟨by omega, h2⟩
      · rintro (h | ⟨h1, h2, h3⟩)
        · exact .inl h
        · refine .inr ⟨?_, h2, h3⟩
          rcases Nat.lt_or_ge x J with q | q
          · exact q
          · have : x = J := by omega
            subst this
            rcases hb with hb | hb
            · rw [h2] at hb; cases hb
            · exact absurd h3 hb
    | true =>
      simp only [cond_true]
      rw [Nat.testBit_or, Bool.or_eq_true, ih, Nat.testBit_two_pow]
      simp only [Bool.and_eq_true, decide_eq_true_eq] at hb
      simp only [decide_eq_true_eq]
      constructor
      · rintro ((h | ⟨h1, h2⟩) | h)
        · exact .inl h
        · exact .inr ⟨by omega, h2⟩
        · subst h; exact .inr ⟨by omega, hb⟩
      · rintro (h | ⟨h1, h2⟩)
        · exact .inl (.inl h)
        · rcases Nat.lt_or_ge x J with q | q
          · exact .inl (.inr ⟨q, h2⟩)
          · exact .inr (by omega)
theorem accI_bit {k : Nat} {f : Nat → Int} {N : Nat} (x : Nat) : ∀ I : Nat, (accI k f N I).testBit x = true ↔ ∃ i, i < I ∧ x < k ∧ N.testBit i = true ∧ 0 < f (5 * i + x)
  | 0 => by simp [accI]
  | I + 1 => by
    have ih := accI_bit (k := k) (f := f) (N := N) x I
    show (accJ f N I (accI k f N I) k).testBit x = true ↔ _
    rw [accJ_bit, ih]
    constructor
    · rintro (⟨i, h1, h2⟩ | h)
      · exact ⟨i, by omega, h2⟩
      · exact ⟨I, by omega, h⟩
    · rintro ⟨i, h1, h2⟩
      rcases Nat.lt_or_ge i I with q | q
      · exact .inl ⟨i, q, h2⟩
      · have : i = I := by omega
        subst this; exact .inr h2
theorem reach_snoc {k : Nat} {f : Nat → Int} {j : Nat} (hj : j < k) : ∀ (n i : Nat), i < k → (reach k f j (n + 1) i = true ↔ ∃ y, y < k ∧ reach k f y n i = true ∧ 0 < f (5 * y + j))
  | 0, i, hi => by
    rw [reach_succ]
    constructor
    · rintro ⟨x, h1, h2, h3⟩
      have : x = j := Nat.eq_of_beq_eq_true h3
      subst this
      exact ⟨i, hi, Nat.beq_refl i, h2⟩
    · rintro ⟨y, h1, h2, h3⟩
      have : i = y := Nat.eq_of_beq_eq_true h2
      subst this
      exact ⟨j, hj, h3, Nat.beq_refl j⟩
  | n + 1, i, hi => by
    rw [reach_succ]
    constructor
    · rintro ⟨x, h1, h2, h3⟩
      obtain ⟨y, h4, h5, h6⟩ := (reach_snoc hj n x h1).1 h3
      exact ⟨y, h4, reach_succ.2 ⟨x, h1, h2, h5⟩, h6⟩
    · rintro ⟨y, h4, h5, h6⟩
      obtain ⟨x, h1, h2, h3⟩ := reach_succ.1 h5
      exact ⟨x, h1, h2, (reach_snoc hj n x h1).2 ⟨y, h4, h3, h6⟩⟩
/-- Both ways of asking are the same. -/
theorem setN_reach {k : Nat} {f : Nat → Int} : ∀ (n i j : Nat), i < k → j < k → (setN k f i n).testBit j = reach k f j n i
  | 0, i, j, hi, hj => by
    show (2 ^ i).testBit j = Nat.beq i j
    rw [Nat.testBit_two_pow]
    cases h : Nat.beq i j with
    | true => exact decide_eq_true (Nat.eq_of_beq_eq_true h)
    | false =>
      refine decide_eq_false ?_
      rintro rfl
      rw [Nat.beq_refl] at h; cases h
  | n + 1, i, j, hi, hj => by
    rw [Bool.eq_iff_iff]
    show (accI k f (setN k f i n) k).testBit j = true ↔ _
    rw [accI_bit, reach_snoc hj n i hi]
    constructor
    · rintro ⟨y, h1, h2, h3, h4⟩
      rw [setN_reach n i y hi h1] at h3
      exact ⟨y, h1, h3, h4⟩
    · rintro ⟨y, h1, h3, h4⟩
      rw [← setN_reach n i y hi h1] at h3
      exact ⟨y, h1, hj, h3, h4⟩
/-! ### The walk of reached (76) -/
def orT (nx : Int) (j : Nat) : Int := IntKind.wrap .i64 (((BitVec.ofInt 64 nx ||| BitVec.ofInt 64 (IntKind.wrap .i64 (1 * 2 ^ min (Int.toNat (j : Int)) 64))).toNat : Nat) : Int)
def bitT (s : Int) (i : Nat) : Int := Int.tmod (Int.fdiv s (2 ^ min (Int.toNat (i : Int)) 64)) 2
theorem orT_ok : ∀ N < 32, ∀ j < 5, orT (N : Nat) j = ((N ||| 2 ^ j : Nat) : Int) := by decide +kernel
theorem bitT_ok : ∀ N < 32, ∀ i < 5, decide (bitT (N : Nat) i = 1) = N.testBit i := by decide +kernel
theorem pow1_ok : ∀ i < 5, IntKind.wrap IntKind.i64 (1 * 2 ^ min (Int.toNat ((i : Nat) : Int)) 64) = ((2 ^ i : Nat) : Int) := by decide +kernel
def z76 (A : List DV) (n : Nat) (m set st : Int) : St := ⟨[(0, .d (DV.sl A n 1 false false)), (2, .d (iD m)), (7, .d (iD set)), (8, .d (iD st))], [], []⟩
def z762 (A : List DV) (n : Nat) (m set st nx i : Int) : St := ⟨[(0, .d (DV.sl A n 1 false false)), (2, .d (iD m)), (7, .d (iD set)), (8, .d (iD st)), (9, .d (iD nx)), (10, .d (iD i))], [], []⟩
def z762x (A : List DV) (n : Nat) (m st nx : Int) : St := ⟨[(0, .d (DV.sl A n 1 false false)), (2, .d (iD m)), (8, .d (iD st)), (9, .d (iD nx))], [], []⟩
def z764 (A : List DV) (n : Nat) (m set st nx i j : Int) : St := ⟨[(0, .d (DV.sl A n 1 false false)), (2, .d (iD m)), (7, .d (iD set)), (8, .d (iD st)), (9, .d (iD nx)), (10, .d (iD i)), (11, .d (iD j))], [], []⟩
theorem t76_h (A : List DV) (n : Nat) (fr m : Int) : startS aeC Ev.nil 76 0 Try.f76 none ⟨envOf 0 [.d (.sl A n 1 false false), .d (iD fr), .d (iD m)], [], []⟩ (heldD aeC 76 0) =
  bif decide (fr < 0) then none else some (0, z76 A n m (IntKind.wrap IntKind.i64 (1 * 2 ^ min (Int.toNat fr) 64)) 0) := by kernel_rfl
theorem t76_0 (A : List DV) (n : Nat) (m set st : Int) : startS aeC Ev.nil 76 0 Try.f76 (some 0) (z76 A n m set st) (heldD aeC 76 0) = bif decide (st < m) then some (2, z762 A n m set st 0 0) else none := by kernel_rfl
theorem t76_0x (A : List DV) (n : Nat) (m set st : Int) : startS aeC Ev.nil 76 0 Try.f76 (some 0) (z76 A n m set st) (roundD aeC 76 0 0) = bif decide (st < m) then none else some (Ex.exit 0, ⟨[(7, .d (iD set))], [], []⟩) := by kernel_rfl
theorem t76_2 (A : List DV) (n : Nat) (m set st nx i : Int) : startS aeC Ev.nil 76 0 Try.f76 (some 2) (z762 A n m set st nx i) (heldD aeC 76 0) = bif decide (i < (n : Int)) then some (4, z764 A n m set st nx i 0) else none := by kernel_rfl
theorem t76_2x (A : List DV) (n : Nat) (m set st nx i : Int) : startS aeC Ev.nil 76 0 Try.f76 (some 2) (z762 A n m set st nx i) (roundD aeC 76 0 2) = bif decide (i < (n : Int)) then none else some (Ex.exit 2, z762x A n m st nx) := by kernel_rfl
theorem t76_4 (A : List DV) (n : Nat) (m set st nx : Int) (i j : Nat) : startS aeC Ev.nil 76 0 Try.f76 (some 4) (z764 A n m set st nx i j) (roundD aeC 76 0 4) =
  bif decide ((j : Int) < (n : Int)) then (bif decide (bitT set i = 1) then (bif inRange (i : Int) n then (getS (nth A (Int.toNat (i : Int) * 1)) fun cs0 n0 sz0 c0 nl0 => bif nl0 || Nat.beq sz0 1 then (bif inRange (j : Int) n0 then (getI (nth cs0 (Int.toNat (j : Int) * 1)) fun x1 =>
      bif decide (0 < x1) then some (Ex.norm, z764 A n m set st (orT nx j) i (IntKind.wrap IntKind.i64 ((j : Int) + 1))) else some (Ex.norm, z764 A n m set st nx i (IntKind.wrap IntKind.i64 ((j : Int) + 1)))) else none) else none) else none)
    else some (Ex.norm, z764 A n m set st nx i (IntKind.wrap IntKind.i64 ((j : Int) + 1))))
  else some (Ex.exit 4, z762 A n m set st nx i) := by kernel_rfl
theorem t76_4n (A : List DV) (n : Nat) (m set st nx i : Int) : nextS aeC Ev.nil 76 0 Try.f76 (some 2) 4 (.exit 4) (z762 A n m set st nx i) (roundD aeC 76 0 2) = some (.norm, z762 A n m set st nx (IntKind.wrap .i64 (i + 1))) := by kernel_rfl
theorem t76_2n (A : List DV) (n : Nat) (m st nx : Int) : nextS aeC Ev.nil 76 0 Try.f76 (some 0) 2 (.exit 2) (z762x A n m st nx) (roundD aeC 76 0 0) = some (.norm, z76 A n m nx (IntKind.wrap .i64 (st + 1))) := by kernel_rfl
theorem t76_e (s : Int) : nextS aeC Ev.nil 76 0 Try.f76 none 0 (.exit 0) ⟨[(7, .d (iD s))], [], []⟩ (doneE aeC Try.f76 0 fun v h => freezeV h 4 v) = some (iD s) := by kernel_rfl
theorem k76 : OkSeg Try.f76 none [0] := ⟨by kernel_rfl, by kernel_rfl, by decide⟩
theorem k76_0 : OkSeg Try.f76 (some 0) [2] := ⟨by kernel_rfl, by kernel_rfl, by decide⟩
theorem k76_2 : OkSeg Try.f76 (some 2) [4] := ⟨by kernel_rfl, by kernel_rfl, by decide⟩
theorem k76_4 : OkSeg Try.f76 (some 4) [] := ⟨by kernel_rfl, by kernel_rfl, by decide⟩
theorem fM_at (M : List (List Int)) (i : Nat) {j : Nat} (hj : j < 5) : fM M (5 * i + j) = (M.getD i []).getD j 0 := by
  unfold fM
  rw [(idx5 hj).1, (idx5 hj).2]
theorem row_len {k : Nat} {M : List (List Int)} (hM : matB k M) {i : Nat} (hi : i < k) : (M.getD i []).length = k := by
  rw [List.getD_eq_getElem?_getD, List.getElem?_eq_getElem (by rw [hM.1]; exact hi), Option.getD_some]
  exact (hM.2 _ (List.getElem_mem _)).1
theorem wr1 {n : Nat} (h : n ≤ 1000) : IntKind.wrap .i64 ((n : Int) + 1) = ((n + 1 : Nat) : Int) := by rw [wrap64_o (by omega) (by omega)]; rfl
section
variable {k : Nat} {M : List (List Int)}
theorem loop764 (hM : matB k M) (h5 : k ≤ 5) {m st : Int} {N i nx : Nat} (hN : N < 32) (hnx : nx < 32) (hi : i < k) : ∀ (t j : Nat), j + t = k →
    LoopAt aeC Ev.nil 76 0 Try.f76 4 (z764 (M.map rowD) M.length m N st (accJ (fM M) N i nx j : Nat) i j) (.exit 4) (z762 (M.map rowD) M.length m N st (accJ (fM M) N i nx k : Nat) i)
  | 0, j, hj => by
    have : j = k := by omega
    subst this
    exact .out k76_4 (by simp) ((t76_4 ..).trans (cnd_neg (by have := hM.1; omega)))
  | t + 1, j, hj => by
    have ih := loop764 hM h5 (m := m) (st := st) hN hnx hi t (j + 1) (by omega)
    have hl := hM.1
    have ha := (t76_4 (M.map rowD) M.length m N st (accJ (fM M) N i nx j : Nat) i j).trans (cnd_pos (by omega))
    rw [bitT_ok N hN i (by omega), wr1 (by omega)] at ha
    have e1 : Int.toNat (i : Int) * 1 = i := by simp
    have e2 : Int.toNat (j : Int) * 1 = j := by simp
    rw [e1, nth_mat (by omega)] at ha
    have hi2 : inRange (i : Int) M.length = true := by simp [inRange]; omega
    have hrl := row_len hM hi
    unfold rowD at ha
    simp only [getS_some, Nat.beq_refl, Bool.or_true, cond_true, hi2] at ha
    have hj2 : inRange (j : Int) (M.getD i []).length = true := by rw [hrl]; simp [inRange]; omega
    rw [hj2, e2, nth_ints_o (l := M.getD i []) (i := j) (by omega), ← fM_at M i (show j < 5 by omega)] at ha
    simp only [getI_some, cond_true] at ha
    rw [orT_ok _ (accJ_lt hnx j (by omega)) j (by omega)] at ha
    refine .next k76_4 (ha.trans ?_) ih
    show _ = some (Ex.norm, z764 (M.map rowD) M.length m N st ((bif N.testBit i && decide (0 < fM M (5 * i + j)) then accJ (fM M) N i nx j ||| 2 ^ j else accJ (fM M) N i nx j : Nat) : Int) i ((j + 1 : Nat) : Int))
    cases N.testBit i <;> cases decide (0 < fM M (5 * i + j)) <;> rfl
theorem loop762 (hM : matB k M) (h5 : k ≤ 5) {m st : Int} {N : Nat} (hN : N < 32) : ∀ (t i : Nat), i + t = k →
    LoopAt aeC Ev.nil 76 0 Try.f76 2 (z762 (M.map rowD) M.length m N st (accI k (fM M) N i : Nat) i) (.exit 2) (z762x (M.map rowD) M.length m st (accI k (fM M) N k : Nat))
  | 0, i, hi => by
    have : i = k := by omega
    subst this
    exact .out k76_2 (by simp) ((t76_2x ..).trans (cnd_neg (by have := hM.1; omega)))
  | t + 1, i, hi => by
    have ih := loop762 hM h5 (m := m) (st := st) hN t (i + 1) (by omega)
    have hl := hM.1
    have hn := t76_4n (M.map rowD) M.length m N st (accJ (fM M) N i (accI k (fM M) N i) k : Nat) i
    rw [wr1 (by omega)] at hn
    exact .nextF k76_2 ((startF_seg k76_2 ((t76_2 ..).trans (cnd_pos (by omega))) (loop764 hM h5 hN (accI_lt h5 _ _ i) (by omega) k 0 (by omega))).trans (nextF_done k76_2 roundD_plain hn)) ih
theorem loop760 (hM : matB k M) (h5 : k ≤ 5) {fr : Nat} (hf : fr < k) {m : Nat} (hm : m ≤ 1000) : ∀ (t s : Nat), s + t = m →
    LoopAt aeC Ev.nil 76 0 Try.f76 0 (z76 (M.map rowD) M.length m (setN k (fM M) fr s : Nat) s) (.exit 0) ⟨[(7, .d (iD (setN k (fM M) fr m : Nat)))], [], []⟩
  | 0, s, hs => by
    have : s = m := by omega
    subst this
    exact .out k76_0 (by simp) ((t76_0x ..).trans (cnd_neg (by omega)))
  | t + 1, s, hs => by
    have ih := loop760 hM h5 hf hm t (s + 1) (by omega)
    have hn := t76_2n (M.map rowD) M.length m s (accI k (fM M) (setN k (fM M) fr s) k : Nat)
    rw [wr1 (by omega)] at hn
    exact .nextF k76_0 ((startF_seg k76_0 ((t76_0 ..).trans (cnd_pos (by omega))) (loop762 hM h5 (setN_lt h5 _ hf s) k 0 (by omega))).trans (nextF_done k76_0 roundD_plain hn)) ih
theorem c76 (hM : matB k M) (h5 : k ≤ 5) {fr : Nat} (hf : fr < k) {m : Nat} (hm : m ≤ 1000) : PureOK Try.prog 76 [matD M, iD (fr : Int), iD (m : Int)] (iD (setN k (fM M) fr m : Nat)) := by
  have hh := (t76_h (M.map rowD) M.length fr m).trans (cnd_neg (by omega))
  rw [pow1_ok fr (by omega)] at hh
  exact ae_pure EvOK.nil (fn := Try.f76) k76 (by kernel_rfl) (by kernel_rfl) ((startF_seg k76 hh (loop760 hM h5 hf hm m 0 (by omega))).trans (nextF_done k76 done_plain (t76_e ..)))
end
end Go.Proofs.Ytjfopbpkophoeaa

/- Chapter 06: patterns of powers; Mixes (31). -/
namespace Go.Proofs.Ytjfopbpkophoeaa
open Go Go.AE
set_option maxRecDepth 100000
def inK (k i : Nat) : Bool := Nat.blt (i / 5) k && Nat.blt (i % 5) k
def patF (k : Nat) (g : Nat → Int) (i : Nat) : Int := bif inK k i then (if 1 < g i then 1 else g i) else g i
def fullF (k i : Nat) : Int := bif inK k i then 1 else 0
theorem c88_1 (g : Nat → Int) : PureOK Try.prog 88 [.agg (mx25 1 g)] (.agg (mx25 1 (patF 1 g))) := walkA (by kernel_rfl : tget aeF 88 = some Try.f88) (by kernel_rfl)
theorem c88_2 (g : Nat → Int) : PureOK Try.prog 88 [.agg (mx25 2 g)] (.agg (mx25 2 (patF 2 g))) := walkA (by kernel_rfl : tget aeF 88 = some Try.f88) (by kernel_rfl)
theorem c88_3 (g : Nat → Int) : PureOK Try.prog 88 [.agg (mx25 3 g)] (.agg (mx25 3 (patF 3 g))) := walkA (by kernel_rfl : tget aeF 88 = some Try.f88) (by kernel_rfl)
theorem c88_4 (g : Nat → Int) : PureOK Try.prog 88 [.agg (mx25 4 g)] (.agg (mx25 4 (patF 4 g))) := walkA (by kernel_rfl : tget aeF 88 = some Try.f88) (by kernel_rfl)
theorem c88_5 (g : Nat → Int) : PureOK Try.prog 88 [.agg (mx25 5 g)] (.agg (mx25 5 (patF 5 g))) := walkA (by kernel_rfl : tget aeF 88 = some Try.f88) (by kernel_rfl)
theorem c75_1 : PureOK Try.prog 75 [iD 1] (.agg (mx25 1 (fullF 1))) := walkA (by kernel_rfl : tget aeF 75 = some Try.f75) (by kernel_rfl)
theorem c75_2 : PureOK Try.prog 75 [iD 2] (.agg (mx25 2 (fullF 2))) := walkA (by kernel_rfl : tget aeF 75 = some Try.f75) (by kernel_rfl)
theorem c75_3 : PureOK Try.prog 75 [iD 3] (.agg (mx25 3 (fullF 3))) := walkA (by kernel_rfl : tget aeF 75 = some Try.f75) (by kernel_rfl)
theorem c75_4 : PureOK Try.prog 75 [iD 4] (.agg (mx25 4 (fullF 4))) := walkA (by kernel_rfl : tget aeF 75 = some Try.f75) (by kernel_rfl)
theorem c75_5 : PureOK Try.prog 75 [iD 5] (.agg (mx25 5 (fullF 5))) := walkA (by kernel_rfl : tget aeF 75 = some Try.f75) (by kernel_rfl)
theorem c74 (k : Nat) (f : Nat → Int) : PureOK Try.prog 74 [.agg (mx25 k f)] (.fn 87 [] [.ptr (mx25 k f) 0]) := walkA (by kernel_rfl : tget aeF 74 = some Try.f74) (by kernel_rfl)
theorem c60_1 (g : Nat → Int) : PureOK Try.prog 60 [.agg (mx25 1 g)] (iD (IntKind.wrap .i64 (0 + g 0))) := walkA (by kernel_rfl : tget aeF 60 = some Try.f60) (by kernel_rfl)
/-- The pattern of a power. -/
def bF (k : Nat) (f : Nat → Int) (n i : Nat) : Int := bif inK k i && reach k f (i % 5) n (i / 5) then 1 else 0
theorem mx_congr {k : Nat} {g g' : Nat → Int} (h : ∀ i, i < 25 → g i = g' i) : mx25 k g = mx25 k g' := by
  unfold mx25
  rw [h 0 (by decide), h 1 (by decide), h 2 (by decide), h 3 (by decide), h 4 (by decide), h 5 (by decide), h 6 (by decide), h 7 (by decide), h 8 (by decide), h 9 (by decide), h 10 (by decide), h 11 (by decide), h 12 (by decide), h 13 (by decide), h 14 (by decide), h 15 (by decide), h 16 (by decide), h 17 (by decide), h 18 (by decide), h 19 (by decide), h 20 (by decide), h 21 (by decide), h 22 (by decide), h 23 (by decide), h 24 (by decide)]
theorem inK_iff {k i : Nat} : inK k i = true ↔ i / 5 < k ∧ i % 5 < k := by
  unfold inK
  rw [Bool.and_eq_true, Nat.blt_eq, Nat.blt_eq]
theorem bF_b (k : Nat) (f : Nat → Int) (n i : Nat) : 0 ≤ bF k f n i ∧ bF k f n i ≤ 1 := by
  unfold bF
  cases inK k i && reach k f (i % 5) n (i / 5) <;> simp
theorem bF_zero (k : Nat) (f : Nat → Int) (i : Nat) : unitF k i = bF k f 0 i := by
  unfold unitF bF inK reach
  cases h : Nat.beq (i / 5) (i % 5) with
  | false => rw [Bool.and_false, Bool.and_false]
  | true =>
    have e := Nat.eq_of_beq_eq_true h
    rw [← e, Bool.and_self, Bool.and_true]
theorem bF_succ {k : Nat} (h5 : k ≤ 5) {f : Nat → Int} (hf : ∀ i < 25, 0 ≤ f i ∧ f i ≤ 9) (n i : Nat) : patF k (mulF k (bF k f n) f) i = bF k f (n + 1) i := by
  unfold patF
  cases hk : inK k i with
  | false =>
    have e : mulF k (bF k f n) f i = 0 := by
      unfold mulF
      unfold inK at hk
      rw [hk]; rfl
    have e2 : bF k f (n + 1) i = 0 := by unfold bF; rw [hk]; rfl
    rw [e, e2]; rfl
  | true =>
    obtain ⟨h1, h2⟩ := inK_iff.1 hk
    have e : mulF k (bF k f n) f i = sumW (bF k f n) f (i / 5) (i % 5) k := by
      unfold mulF
      unfold inK at hk
      rw [hk]; rfl
    obtain ⟨s1, s2, s3⟩ := sumW_ok (f := bF k f n) (g := f) (r := i / 5) (c := i % 5) (B := 9) (by decide) (by decide) (fun x hx => by have := bF_b k f n (5 * (i / 5) + x); omega) k h5 (fun x hx => hf _ (by omega))
    have key : sumW (bF k f n) f (i / 5) (i % 5) k ≠ 0 ↔ reach k f (i % 5) (n + 1) (i / 5) = true := by
      rw [s3, reach_snoc h2 n (i / 5) h1]
      constructor
      · rintro ⟨x, hx, h3, h4⟩
        refine ⟨x, hx, ?_, by have := hf (5 * x + i % 5) (by omega); omega⟩
        have hi := idx5 (i := i / 5) (show x < 5 by omega)
        unfold bF at h3
        rw [hi.1, hi.2] at h3
        cases hr : reach k f x n (i / 5) with
        | true => rfl
        | false => rw [hr, Bool.and_false] at h3; simp at h3
      · rintro ⟨x, hx, h3, h4⟩
        refine ⟨x, hx, ?_, by omega⟩
        have hi := idx5 (i := i / 5) (show x < 5 by omega)
        have hk2 : inK k (5 * (i / 5) + x) = true := inK_iff.2 ⟨by omega, by omega⟩
        unfold bF
        rw [hk2, hi.1, hi.2, h3]; decide
    have eb : bF k f (n + 1) i = bif reach k f (i % 5) (n + 1) (i / 5) then 1 else 0 := by
      show (bif inK k i && reach k f (i % 5) (n + 1) (i / 5) then (1 : Int) else 0) = _
      rw [hk, Bool.true_and]
    rw [e, eb]
    cases hr : reach k f (i % 5) (n + 1) (i / 5) with
    | true =>
      have := key.2 hr
      simp only [cond_true]
      split <;> omega
    | false =>
      have : sumW (bF k f n) f (i / 5) (i % 5) k = 0 := by
        apply Classical.byContradiction
        intro hc
        rw [key.1 hc] at hr; cases hr
      rw [this]; rfl
/-- Whether there are trips of a length between any two states. -/
def fullB (k : Nat) (f : Nat → Int) (n : Nat) : Bool := eqM k (bF k f n) (fullF k)
theorem eqM_iff {k : Nat} {g c : Nat → Int} : eqM k g c = true ↔ ∀ i, i < 25 → g i = c i := by
  constructor
  · intro h
    simp only [eqM, Bool.and_eq_true, decide_eq_true_eq] at h
    intro i hi
    match i, hi with
    | 0, _ => exact h.2.1 | 1, _ => exact h.2.2.1 | 2, _ => exact h.2.2.2.1 | 3, _ => exact h.2.2.2.2.1 | 4, _ => exact h.2.2.2.2.2.1
    | 5, _ => exact h.2.2.2.2.2.2.1 | 6, _ => exact h.2.2.2.2.2.2.2.1 | 7, _ => exact h.2.2.2.2.2.2.2.2.1 | 8, _ => exact h.2.2.2.2.2.2.2.2.2.1 | 9, _ => exact h.2.2.2.2.2.2.2.2.2.2.1
    | 10, _ => exact h.2.2.2.2.2.2.2.2.2.2.2.1 | 11, _ => exact h.2.2.2.2.2.2.2.2.2.2.2.2.1 | 12, _ => exact h.2.2.2.2.2.2.2.2.2.2.2.2.2.1 | 13, _ => exact h.2.2.2.2.2.2.2.2.2.2.2.2.2.2.1 | 14, _ => exact h.2.2.2.2.2.2.2.2.2.2.2.2.2.2.2.1
    | 15, _ => exact h.2.2.2.2.2.2.2.2.2.2.2.2.2.2.2.2.1 | 16, _ => exact h.2.2.2.2.2.2.2.2.2.2.2.2.2.2.2.2.2.1 | 17, _ => exact h.2.2.2.2.2.2.2.2.2.2.2.2.2.2.2.2.2.2.1 | 18, _ => exact h.2.2.2.2.2.2.2.2.2.2.2.2.2.2.2.2.2.2.2.1 | 19, _ => exact h.2.2.2.2.2.2.2.2.2.2.2.2.2.2.2.2.2.2.2.2.1
    | 20, _ => exact h.2.2.2.2.2.2.2.2.2.2.2.2.2.2.2.2.2.2.2.2.2.1 | 21, _ => exact h.2.2.2.2.2.2.2.2.2.2.2.2.2.2.2.2.2.2.2.2.2.2.1 | 22, _ => exact h.2.2.2.2.2.2.2.2.2.2.2.2.2.2.2.2.2.2.2.2.2.2.2.1 | 23, _ => exact h.2.2.2.2.2.2.2.2.2.2.2.2.2.2.2.2.2.2.2.2.2.2.2.2.1 | 24, _ => exact h.2.2.2.2.2.2.2.2.2.2.2.2.2.2.2.2.2.2.2.2.2.2.2.2.2.1
    | n + 25, h => exact absurd h (by omega)
  · intro h
    simp only [eqM, Bool.and_eq_true, decide_eq_true_eq]
    exact ⟨trivial, h 0 (by decide), h 1 (by decide), h 2 (by decide), h 3 (by decide), h 4 (by decide), h 5 (by decide), h 6 (by decide), h 7 (by decide), h 8 (by decide), h 9 (by decide), h 10 (by decide), h 11 (by decide), h 12 (by decide), h 13 (by decide), h 14 (by decide), h 15 (by decide), h 16 (by decide), h 17 (by decide), h 18 (by decide), h 19 (by decide), h 20 (by decide), h 21 (by decide), h 22 (by decide), h 23 (by decide), h 24 (by decide), trivial⟩
theorem fullB_iff {k : Nat} (h5 : k ≤ 5) {f : Nat → Int} {n : Nat} : fullB k f n = true ↔ ∀ i j, i < k → j < k → reach k f j n i = true := by
  unfold fullB
  rw [eqM_iff]
  constructor
  · intro h i j hi hj
    have hx := idx5 (i := i) (show j < 5 by omega)
    have hk : inK k (5 * i + j) = true := inK_iff.2 ⟨by omega, by omega⟩
    have := h (5 * i + j) (by omega)
    unfold bF fullF at this
    rw [hk, hx.1, hx.2, Bool.true_and] at this
    cases hr : reach k f j n i with
    | true => rfl
    | false => rw [hr] at this; simp at this
  · intro h i hi
    unfold bF fullF
    cases hk : inK k i with
    | false => rfl
    | true =>
      obtain ⟨h1, h2⟩ := inK_iff.1 hk
      rw [h (i / 5) (i % 5) h1 h2]; rfl
end Go.Proofs.Ytjfopbpkophoeaa

/- Chapter 06: what Mixes (31) answers. -/
namespace Go.Proofs.Ytjfopbpkophoeaa
open Go Go.AE
set_option maxRecDepth 100000
def trF (k : Nat) (g : Nat → Int) : Nat → Int
  | 0 => 0
  | n + 1 => IntKind.wrap .i64 (trF k g n + g (6 * n))
def PX (k : Nat) (f : Nat) (ds : List DV) : Nat → Int := bif Nat.beq f 85 then (match ds with | [a, b] => mulF k (dec a) (dec b) | _ => unitF k) else bif Nat.beq f 88 then (match ds with | [a] => patF k (dec a) | _ => unitF k) else bif Nat.beq f 75 then fullF k else bif Nat.beq f 60 then (match ds with | [a] => fun _ => trF k (dec a) k | _ => unitF k) else unitF k
def shX (k : Nat) (f : Nat) (ds : List DV) : DV := bif Nat.beq f 60 then iD (PX k f ds 0) else .agg (mx25 k (PX k f ds))
noncomputable abbrev okX' (k : Nat) : Nat → List DV → Bool := okS (shX k)
theorem evR_ok (k : Nat) : EvOK Try.prog (evR (okX' k) k (PX k)) := Ev.rounds_ok (evT_ok (shX k)) 20
theorem c75 {k : Nat} (h1 : 1 ≤ k) (h5 : k ≤ 5) : PureOK Try.prog 75 [iD k] (.agg (mx25 k (fullF k))) := by
  rcases five h1 h5 with rfl | rfl | rfl | rfl | rfl
  · exact c75_1
  · exact c75_2
  · exact c75_3
  · exact c75_4
  · exact c75_5
theorem c66 {k : Nat} (h1 : 1 ≤ k) (h5 : k ≤ 5) : PureOK Try.prog 66 [iD k] (.agg (mx25 k (unitF k))) := by
  rcases five h1 h5 with rfl | rfl | rfl | rfl | rfl
  · exact c66_1
  · exact c66_2
  · exact c66_3
  · exact c66_4
  · exact c66_5
theorem c88 {k : Nat} (h1 : 1 ≤ k) (h5 : k ≤ 5) (g : Nat → Int) : PureOK Try.prog 88 [.agg (mx25 k g)] (.agg (mx25 k (patF k g))) := by
  rcases five h1 h5 with rfl | rfl | rfl | rfl | rfl
  · exact c88_1 g
  · exact c88_2 g
  · exact c88_3 g
  · exact c88_4 g
  · exact c88_5 g
section
variable {k : Nat}
theorem px85 (h1 : 1 ≤ k) (h5 : k ≤ 5) (g f : Nat → Int) : mx25 k (PX k 85 [.agg (mx25 k g), .agg (mx25 k f)]) = mx25 k (mulF k g f) := by
  rcases five h1 h5 with rfl | rfl | rfl | rfl | rfl
  · kernel_rfl
  · kernel_rfl
  · kernel_rfl
  · kernel_rfl
  · kernel_rfl
theorem px88 (h1 : 1 ≤ k) (h5 : k ≤ 5) (g : Nat → Int) : mx25 k (PX k 88 [.agg (mx25 k g)]) = mx25 k (patF k g) := by
  rcases five h1 h5 with rfl | rfl | rfl | rfl | rfl
  · kernel_rfl
  · kernel_rfl
  · kernel_rfl
  · kernel_rfl
  · kernel_rfl
theorem x85 (h1 : 1 ≤ k) (h5 : k ≤ 5) (g f : Nat → Int) : okX' k 85 [.agg (mx25 k g), .agg (mx25 k f)] = true := okS_is (by
  show PureOK Try.prog 85 _ (.agg (mx25 k (PX k 85 _)))
  rw [px85 h1 h5]; exact c85 h1 h5 g f)
theorem x88 (h1 : 1 ≤ k) (h5 : k ≤ 5) (g : Nat → Int) : okX' k 88 [.agg (mx25 k g)] = true := okS_is (by
  show PureOK Try.prog 88 _ (.agg (mx25 k (PX k 88 _)))
  rw [px88 h1 h5]; exact c88 h1 h5 g)
theorem x75 (h1 : 1 ≤ k) (h5 : k ≤ 5) : okX' k 75 [iD k] = true := okS_is (c75 h1 h5)
theorem x66 (h1 : 1 ≤ k) (h5 : k ≤ 5) : okX' k 66 [iD k] = true := okS_is (c66 h1 h5)
/-- The next pattern. -/
theorem nx87_ok (h1 : 1 ≤ k) (h5 : k ≤ 5) {f : Nat → Int} (hf : ∀ i < 25, 0 ≤ f i ∧ f i ≤ 9) (y b n : Nat) (hn : n ≤ 1000) (H : List Blk) : nx87 (okX' k) k (PX k) f (bF k f n) y b n H = some (.norm, s87 k f y b ((n + 1 : Nat) : Int) (bF k f (n + 1)) H) := by
  unfold nx87
  rw [x85 h1 h5, px85 h1 h5, x88 h1 h5, wr1 hn]
  simp only [cond_true]
  have e : mx25 k (PX k 88 [.agg (mx25 k (mulF k (bF k f n) f))]) = mx25 k (bF k f (n + 1)) := (px88 h1 h5 _).trans (mx_congr fun i _ => bF_succ h5 hf n i)
  unfold s87
  rw [e]
def mixS (k : Nat) (f : Nat → Int) : Nat → Int × Bool
  | 0 => (0, false)
  | n + 1 => bif !fullB k f n then ((mixS k f n).1, false) else bif !(mixS k f n).2 then ((n : Int), true) else mixS k f n
def mostN (k : Nat) : Nat := (k - 1) * (k - 1) + 1
theorem most_eq (h1 : 1 ≤ k) (h5 : k ≤ 5) : IntKind.wrap .i64 (most31 k + 1) = ((mostN k + 1 : Nat) : Int) := by
  rcases five h1 h5 with rfl | rfl | rfl | rfl | rfl <;> decide +kernel
theorem mostN_le (h1 : 1 ≤ k) (h5 : k ≤ 5) : mostN k ≤ 17 := by
  rcases five h1 h5 with rfl | rfl | rfl | rfl | rfl <;> decide
theorem loop31 (h1 : 1 ≤ k) (h5 : k ≤ 5) {f : Nat → Int} (hf : ∀ i < 25, 0 ≤ f i ∧ f i ≤ 9) (a : DV) : ∀ (t n : Nat), n + t = mostN k + 2 →
    LoopAt aeC (evR (okX' k) k (PX k)) 87 6 Try.f87 0 (s87 k f 5 6 n (bF k f n) (H31 a k f (mixS k f n).1 (mixS k f n).2 .ready none)) (.exit 0) ⟨[], H31 a k f (mixS k f (mostN k + 2)).1 (mixS k f (mostN k + 2)).2 .done (some (.exit 0)), []⟩
  | 0, n, hn => by
    have : n = mostN k + 2 := by omega
    subst this
    refine .out k87_0 (by simp) ((t87_31 ..).trans ?_)
    rw [most_eq h1 h5]
    exact cnd_pos (by omega)
  | t + 1, n, hn => by
    have hm := mostN_le h1 h5
    refine .next k87_0 ((t87_31 ..).trans ?_) (loop31 h1 h5 hf a t (n + 1) (by omega))
    rw [most_eq h1 h5]
    refine (cnd_neg (by omega)).trans ((cond_is' (x75 h1 h5)).trans ?_)
    have hfb : eqM k (bF k f n) (PX k 75 [iD k]) = fullB k f n := rfl
    rw [hfb]
    show _ = some (Ex.norm, s87 k f 5 6 ((n + 1 : Nat) : Int) (bF k f (n + 1)) (H31 a k f (bif !fullB k f n then ((mixS k f n).1, false) else bif !(mixS k f n).2 then ((n : Int), true) else mixS k f n).1 (bif !fullB k f n then ((mixS k f n).1, false) else bif !(mixS k f n).2 then ((n : Int), true) else mixS k f n).2 .ready none))
    cases fullB k f n with
    | false => exact nx87_ok h1 h5 hf 5 6 n (by omega) _
    | true =>
      cases hb : (mixS k f n).2 with
      | false => exact nx87_ok h1 h5 hf 5 6 n (by omega) _
      | true =>
        refine (nx87_ok h1 h5 hf 5 6 n (by omega) _).trans ?_
        show _ = some (Ex.norm, s87 k f 5 6 ((n + 1 : Nat) : Int) (bF k f (n + 1)) (H31 a k f (mixS k f n).1 (mixS k f n).2 .ready none))
        rw [hb]
theorem unit_bF (k : Nat) (f : Nat → Int) : mx25 k (unitF k) = mx25 k (bF k f 0) := mx_congr fun i _ => bF_zero k f i
theorem c87_31 (h1 : 1 ≤ k) (h5 : k ≤ 5) {f : Nat → Int} (hf : ∀ i < 25, 0 ≤ f i ∧ f i ≤ 9) (a : DV) : CallOK Try.prog 87 [.yld 5, .d (.ptr (mx25 k f) 0)] (H31 a k f 0 false .ready none) (.d (.tup [])) (H31 a k f (mixS k f (mostN k + 2)).1 (mixS k f (mostN k + 2)).2 .done (some (.exit 0))) := by
  have hh := (h87_31 (okX' k) a k (PX k) f 0 false).trans (cond_is' (x66 h1 h5))
  have hu : s87 k f 5 6 0 (PX k 66 [iD k]) (H31 a k f 0 false .ready none) = s87 k f 5 6 0 (bF k f 0) (H31 a k f 0 false .ready none) := by
    unfold s87
    rw [show mx25 k (PX k 66 [iD k]) = mx25 k (bF k f 0) from unit_bF k f]
  rw [hu] at hh
  exact ae_call (evR_ok k) (fn := Try.f87) k87 (by kernel_rfl) (by kernel_rfl) ((startF_seg k87 hh (loop31 h1 h5 hf a (mostN k + 2) 0 (by omega))).trans (nextF_done k87 done_plain (e87_31 ..)))
def mixD (k : Nat) (f : Nat → Int) : DV := bif (mixS k f (mostN k + 2)).2 then .tup [iD (mixS k f (mostN k + 2)).1, bD true, iD 0] else .tup [iD 0, bD false, iD 0]
theorem c31 {M : List (List Int)} (hM : matB k M) (h1 : 1 ≤ k) (h5 : k ≤ 5) : PureOK Try.prog 31 [matD M] (mixD k (fM M)) := by
  have hf : ∀ i < 25, 0 ≤ fM M i ∧ fM M i ≤ 9 := fun i _ => fM_b hM i
  have g61 : okS (i31 k (fM M)) 61 [matD M] = true := okS_is (by show PureOK Try.prog 61 _ (.tup [.agg (mx25 k (fM M)), iD 0]); rw [← mtx_mx hM h1 h5]; exact c61 hM h1 h5)
  have g74 : okS (i31 k (fM M)) 74 [.agg (mx25 k (fM M))] = true := okS_is (c74 k (fM M))
  have hc := c87_31 h1 h5 hf (matD M)
  let q : List AV → List Blk → Bool := fun xs h => isP (CallOK Try.prog 87 xs h (.d (.tup [])) (H31 (matD M) k (fM M) (mixS k (fM M) (mostN k + 2)).1 (mixS k (fM M) (mostN k + 2)).2 .done (some (.exit 0))))
  have hF : RulesFOK Try.prog [(87, fun xs h => .node (q xs h) (.leaf (.d (.tup []), H31 (matD M) k (fM M) (mixS k (fM M) (mostN k + 2)).1 (mixS k (fM M) (mostN k + 2)).2 .done (some (.exit 0)))) .fail)] := ⟨fun xs h v h' e => by
    simp only [Tr.val] at e
    obtain ⟨c, e⟩ := cond_none e
    cases e; exact isP_iff.1 c, trivial⟩
  have hE : EvOK Try.prog (ev31 (okS (i31 k (fM M))) k (fM M) [(87, fun xs h => .node (q xs h) (.leaf (.d (.tup []), H31 (matD M) k (fM M) (mixS k (fM M) (mostN k + 2)).1 (mixS k (fM M) (mostN k + 2)).2 .done (some (.exit 0)))) .fail)]) :=
    ⟨(evT_ok (i31 k (fM M))).pure, (evK_ok (L := []) (F := _) trivial hF).fn, (evK_ok (L := []) (F := _) trivial hF).calm, (evT_ok (i31 k (fM M))).round⟩
  have hq : q [.yld 5, .d (.ptr (mx25 k (fM M)) 0)] (H31 (matD M) k (fM M) 0 false .ready none) = true := isP_iff.2 hc
  refine ae_pure hE (fn := Try.f31) k31 (by kernel_rfl) (by kernel_rfl) (startF_done k31 done_plain ((t31 ..).trans ((cond_is' g61).trans ((cond_is' g74).trans ((cond_is' hq).trans ?_)))))
  unfold mixD
  cases (mixS k (fM M) (mostN k + 2)).2 <;> rfl
end
end Go.Proofs.Ytjfopbpkophoeaa

/- Chapter 06: hangs (73) and Hangs (29). -/
namespace Go.Proofs.Ytjfopbpkophoeaa
open Go Go.AE
set_option maxRecDepth 100000
theorem h87_73 (ok : Nat → List DV → Bool) (k : Nat) (P : Nat → List DV → Nat → Int) (f al : Nat → Int) : startS aeC (evR ok k P) 87 4 Try.f87 none ⟨envOf 0 [.yld 3, .d (.ptr (mx25 k f) 0)], H73 k f al .ready none, []⟩ (heldD aeC 87 4) = bif ok 66 [iD k] then some (0, s87 k f 3 4 0 (P 66 [iD k]) (H73 k f al .ready none)) else none := by kernel_rfl
theorem e87_73 (ok : Nat → List DV → Bool) (k : Nat) (P : Nat → List DV → Nat → Int) (f al : Nat → Int) : nextS aeC (evR ok k P) 87 4 Try.f87 none 0 (.exit 0) ⟨[], H73 k f al .done (some (.exit 0)), []⟩ (doneE aeC Try.f87 4 fun v h => some (v, h)) = some (.d (.tup []), H73 k f al .done (some (.exit 0))) := by kernel_rfl
theorem t73 (ok : Nat → List DV → Bool) (k : Nat) (P : Nat → List DV → Nat → Int) (f al : Nat → Int) (q : List AV → List Blk → Bool) : startS aeC (ev73 ok k f P [(87, fun xs h => .node (q xs h) (.leaf (.d (.tup []), H73 k f al .done (some (.exit 0)))) .fail)]) 73 0 Try.f73 none ⟨envOf 0 [.d (.agg (mx25 k f))], [], []⟩ (doneE aeC Try.f73 0 fun v h => freezeV h 4 v) = bif ok 74 [.agg (mx25 k f)] then (bif q [.yld 3, .d (.ptr (mx25 k f) 0)] (H73 k f (fun _ => 0) .ready none) then (bif ok 75 [iD k] then some (bD (eqM k al (P 75 [iD k]))) else none) else none) else none := by kernel_rfl
theorem k73 : OkSeg Try.f73 none [] := ⟨by kernel_rfl, by kernel_rfl, by decide⟩

theorem t87_73_1 (ok : Nat → List DV → Bool) (P : Nat → List DV → Nat → Int) (f al g : Nat → Int) (n : Int) : startS aeC (evR ok 1 P) 87 4 Try.f87 (some 0) (s87 1 f 3 4 n g (H73 1 f al .ready none)) (roundD aeC 87 4 0) =
  bif decide (((1 : Nat) : Int) < n) then some (.exit 0, ⟨[], H73 1 f al .done (some (.exit 0)), []⟩) else bif decide (n = 0) then nx87 ok 1 P f g 3 4 n (H73 1 f al .ready none) else nx87 ok 1 P f g 3 4 n (H73 1 f (orF 1 al g) .ready none) := by kernel_rfl
theorem t87_73_2 (ok : Nat → List DV → Bool) (P : Nat → List DV → Nat → Int) (f al g : Nat → Int) (n : Int) : startS aeC (evR ok 2 P) 87 4 Try.f87 (some 0) (s87 2 f 3 4 n g (H73 2 f al .ready none)) (roundD aeC 87 4 0) =
  bif decide (((2 : Nat) : Int) < n) then some (.exit 0, ⟨[], H73 2 f al .done (some (.exit 0)), []⟩) else bif decide (n = 0) then nx87 ok 2 P f g 3 4 n (H73 2 f al .ready none) else nx87 ok 2 P f g 3 4 n (H73 2 f (orF 2 al g) .ready none) := by kernel_rfl
theorem t87_73_3 (ok : Nat → List DV → Bool) (P : Nat → List DV → Nat → Int) (f al g : Nat → Int) (n : Int) : startS aeC (evR ok 3 P) 87 4 Try.f87 (some 0) (s87 3 f 3 4 n g (H73 3 f al .ready none)) (roundD aeC 87 4 0) =
  bif decide (((3 : Nat) : Int) < n) then some (.exit 0, ⟨[], H73 3 f al .done (some (.exit 0)), []⟩) else bif decide (n = 0) then nx87 ok 3 P f g 3 4 n (H73 3 f al .ready none) else nx87 ok 3 P f g 3 4 n (H73 3 f (orF 3 al g) .ready none) := by kernel_rfl
theorem t87_73_4 (ok : Nat → List DV → Bool) (P : Nat → List DV → Nat → Int) (f al g : Nat → Int) (n : Int) : startS aeC (evR ok 4 P) 87 4 Try.f87 (some 0) (s87 4 f 3 4 n g (H73 4 f al .ready none)) (roundD aeC 87 4 0) =
  bif decide (((4 : Nat) : Int) < n) then some (.exit 0, ⟨[], H73 4 f al .done (some (.exit 0)), []⟩) else bif decide (n = 0) then nx87 ok 4 P f g 3 4 n (H73 4 f al .ready none) else nx87 ok 4 P f g 3 4 n (H73 4 f (orF 4 al g) .ready none) := by kernel_rfl
theorem t87_73_5 (ok : Nat → List DV → Bool) (P : Nat → List DV → Nat → Int) (f al g : Nat → Int) (n : Int) : startS aeC (evR ok 5 P) 87 4 Try.f87 (some 0) (s87 5 f 3 4 n g (H73 5 f al .ready none)) (roundD aeC 87 4 0) =
  bif decide (((5 : Nat) : Int) < n) then some (.exit 0, ⟨[], H73 5 f al .done (some (.exit 0)), []⟩) else bif decide (n = 0) then nx87 ok 5 P f g 3 4 n (H73 5 f al .ready none) else nx87 ok 5 P f g 3 4 n (H73 5 f (orF 5 al g) .ready none) := by kernel_rfl
theorem t87_73 {k : Nat} (h1 : 1 ≤ k) (h5 : k ≤ 5) (ok : Nat → List DV → Bool) (P : Nat → List DV → Nat → Int) (f al g : Nat → Int) (n : Int) : startS aeC (evR ok k P) 87 4 Try.f87 (some 0) (s87 k f 3 4 n g (H73 k f al .ready none)) (roundD aeC 87 4 0) =
  bif decide ((k : Int) < n) then some (.exit 0, ⟨[], H73 k f al .done (some (.exit 0)), []⟩) else bif decide (n = 0) then nx87 ok k P f g 3 4 n (H73 k f al .ready none) else nx87 ok k P f g 3 4 n (H73 k f (orF k al g) .ready none) := by
  rcases five h1 h5 with rfl | rfl | rfl | rfl | rfl
  · exact t87_73_1 ok P f al g n
  · exact t87_73_2 ok P f al g n
  · exact t87_73_3 ok P f al g n
  · exact t87_73_4 ok P f al g n
  · exact t87_73_5 ok P f al g n
/-- Trips of a length from 1 on, below n. -/
def uF (k : Nat) (f : Nat → Int) : Nat → Nat → Int
  | 0 => fun _ => 0
  | n + 1 => bif Nat.beq n 0 then uF k f n else orF k (uF k f n) (bF k f n)
section
variable {k : Nat}
theorem loop73 (h1 : 1 ≤ k) (h5 : k ≤ 5) {f : Nat → Int} (hf : ∀ i < 25, 0 ≤ f i ∧ f i ≤ 9) : ∀ (t n : Nat), n + t = k + 1 →
    LoopAt aeC (evR (okX' k) k (PX k)) 87 4 Try.f87 0 (s87 k f 3 4 n (bF k f n) (H73 k f (uF k f n) .ready none)) (.exit 0) ⟨[], H73 k f (uF k f (k + 1)) .done (some (.exit 0)), []⟩
  | 0, n, hn => by
    have : n = k + 1 := by omega
    subst this
    exact .out k87_0 (by simp) ((t87_73 h1 h5 ..).trans (cnd_pos (by omega)))
  | t + 1, n, hn => by
    refine .next k87_0 ((t87_73 h1 h5 ..).trans ((cnd_neg (by omega)).trans ?_)) (loop73 h1 h5 hf t (n + 1) (by omega))
    show _ = some (Ex.norm, s87 k f 3 4 ((n + 1 : Nat) : Int) (bF k f (n + 1)) (H73 k f (bif Nat.beq n 0 then uF k f n else orF k (uF k f n) (bF k f n)) .ready none))
    cases n with
    | zero => exact nx87_ok h1 h5 hf 3 4 0 (by omega) _
    | succ n =>
      rw [decide_eq_false (show ¬ ((n + 1 : Nat) : Int) = 0 by omega)]
      exact nx87_ok h1 h5 hf 3 4 (n + 1) (by omega) _
def hangsB (k : Nat) (f : Nat → Int) : Bool := eqM k (uF k f (k + 1)) (fullF k)
def sh73 (k : Nat) (f : Nat → Int) (g : Nat) (ds : List DV) : DV := bif Nat.beq g 74 then .fn 87 [] [.ptr (mx25 k f) 0] else .agg (mx25 k (PX k g ds))
theorem c73 (h1 : 1 ≤ k) (h5 : k ≤ 5) {f : Nat → Int} (hf : ∀ i < 25, 0 ≤ f i ∧ f i ≤ 9) : PureOK Try.prog 73 [.agg (mx25 k f)] (bD (hangsB k f)) := by
  have hh := (h87_73 (okX' k) k (PX k) f fun _ => 0).trans (cond_is' (x66 h1 h5))
  have hu : s87 k f 3 4 0 (PX k 66 [iD k]) (H73 k f (fun _ => 0) .ready none) = s87 k f 3 4 0 (bF k f 0) (H73 k f (uF k f 0) .ready none) := by
    unfold s87
    rw [show mx25 k (PX k 66 [iD k]) = mx25 k (bF k f 0) from unit_bF k f]
    rfl
  rw [hu] at hh
  have hc : CallOK Try.prog 87 [.yld 3, .d (.ptr (mx25 k f) 0)] (H73 k f (fun _ => 0) .ready none) (.d (.tup [])) (H73 k f (uF k f (k + 1)) .done (some (.exit 0))) :=
    ae_call (evR_ok k) (fn := Try.f87) k87 (by kernel_rfl) (by kernel_rfl) ((startF_seg k87 hh (loop73 h1 h5 hf (k + 1) 0 (by omega))).trans (nextF_done k87 done_plain (e87_73 ..)))
  let q : List AV → List Blk → Bool := fun xs h => isP (CallOK Try.prog 87 xs h (.d (.tup [])) (H73 k f (uF k f (k + 1)) .done (some (.exit 0))))
  have hF : RulesFOK Try.prog [(87, fun xs h => .node (q xs h) (.leaf (.d (.tup []), H73 k f (uF k f (k + 1)) .done (some (.exit 0)))) .fail)] := ⟨fun xs h v h' e => by
    simp only [Tr.val] at e
    obtain ⟨c, e⟩ := cond_none e
    cases e; exact isP_iff.1 c, trivial⟩
  have hE : EvOK Try.prog (ev73 (okS (sh73 k f)) k f (PX k) [(87, fun xs h => .node (q xs h) (.leaf (.d (.tup []), H73 k f (uF k f (k + 1)) .done (some (.exit 0)))) .fail)]) :=
    ⟨(evT_ok (sh73 k f)).pure, (evK_ok (L := []) (F := _) trivial hF).fn, (evK_ok (L := []) (F := _) trivial hF).calm, (evT_ok (sh73 k f)).round⟩
  have hq : q [.yld 3, .d (.ptr (mx25 k f) 0)] (H73 k f (fun _ => 0) .ready none) = true := isP_iff.2 hc
  have g74 : okS (sh73 k f) 74 [.agg (mx25 k f)] = true := okS_is (c74 k f)
  have g75 : okS (sh73 k f) 75 [iD k] = true := okS_is (c75 h1 h5)
  exact ae_pure hE (fn := Try.f73) k73 (by kernel_rfl) (by kernel_rfl) (startF_done k73 done_plain ((t73 ..).trans ((cond_is' g74).trans ((cond_is' hq).trans (cond_is' g75)))))
/-! ### Hangs -/
def i29 (k : Nat) (f : Nat → Int) (B : Bool) (g : Nat) (_ : List DV) : DV := bif Nat.beq g 61 then .tup [.agg (mx25 k f), iD 0] else bD B
theorem t29 (ok : Nat → List DV → Bool) (a : DV) (k : Nat) (f : Nat → Int) (B : Bool) : startS aeC (evT ok (i29 k f B)) 29 0 Try.f29 none ⟨envOf 0 [.d a], [], []⟩ (doneE aeC Try.f29 0 fun v h => freezeV h 4 v) = bif ok 61 [a] then (bif ok 73 [.agg (mx25 k f)] then some (.tup [bD B, iD 0]) else none) else none := by kernel_rfl
theorem k29 : OkSeg Try.f29 none [] := ⟨by kernel_rfl, by kernel_rfl, by decide⟩
theorem c29 {M : List (List Int)} (hM : matB k M) (h1 : 1 ≤ k) (h5 : k ≤ 5) : PureOK Try.prog 29 [matD M] (.tup [bD (hangsB k (fM M)), iD 0]) := by
  have hf : ∀ i < 25, 0 ≤ fM M i ∧ fM M i ≤ 9 := fun i _ => fM_b hM i
  have g61 : okS (i29 k (fM M) (hangsB k (fM M))) 61 [matD M] = true := okS_is (by show PureOK Try.prog 61 _ (.tup [.agg (mx25 k (fM M)), iD 0]); rw [← mtx_mx hM h1 h5]; exact c61 hM h1 h5)
  have g73 : okS (i29 k (fM M) (hangsB k (fM M))) 73 [.agg (mx25 k (fM M))] = true := okS_is (c73 h1 h5 hf)
  exact ae_pure (evT_ok (i29 k (fM M) (hangsB k (fM M)))) (fn := Try.f29) k29 (by kernel_rfl) (by kernel_rfl) (startF_done k29 done_plain ((t29 ..).trans ((cond_is' g61).trans (cond_is' g73))))
theorem orI_01 {x y : Int} (hx : x = 0 ∨ x = 1) (hy : y = 0 ∨ y = 1) : orI x y = if x = 1 ∨ y = 1 then 1 else 0 := by
  rcases hx with rfl | rfl <;> rcases hy with rfl | rfl <;> decide +kernel
theorem uF_ok (h5 : k ≤ 5) (f : Nat → Int) {i j : Nat} (hi : i < k) (hj : j < k) : ∀ n, (uF k f n (5 * i + j) = 0 ∨ uF k f n (5 * i + j) = 1) ∧ (uF k f n (5 * i + j) = 1 ↔ ∃ m, 1 ≤ m ∧ m < n ∧ reach k f j m i = true)
  | 0 => ⟨.inl rfl, by constructor; · intro h; cases h
                       · rintro ⟨m, _, h, _⟩; omega⟩
  | n + 1 => by
    obtain ⟨ih1, ih2⟩ := uF_ok h5 f hi hj n
    cases n with
    | zero =>
      refine ⟨.inl rfl, ?_⟩
      constructor
      · intro h; cases h
      · rintro ⟨m, _, h, _⟩; omega
    | succ n =>
      have hx := idx5 (i := i) (show j < 5 by omega)
      have hk : inK k (5 * i + j) = true := inK_iff.2 ⟨by omega, by omega⟩
      have hb : bF k f (n + 1) (5 * i + j) = bif reach k f j (n + 1) i then 1 else 0 := by
        unfold bF
        rw [hk, hx.1, hx.2, Bool.true_and]
      have e : uF k f (n + 1 + 1) (5 * i + j) = orI (uF k f (n + 1) (5 * i + j)) (bF k f (n + 1) (5 * i + j)) := by
        show orF k (uF k f (n + 1)) (bF k f (n + 1)) (5 * i + j) = _
        unfold orF
        unfold inK at hk
        rw [hk]; rfl
      have hb01 : bF k f (n + 1) (5 * i + j) = 0 ∨ bF k f (n + 1) (5 * i + j) = 1 := by rw [hb]; cases reach k f j (n + 1) i <;> simp
      rw [e, orI_01 ih1 hb01]
      refine ⟨by split <;> simp, ?_⟩
      constructor
      · intro h
        split at h
        · rename_i hc
          rcases hc with hc | hc
          · obtain ⟨m, h1, h2, h3⟩ := ih2.1 hc
            exact ⟨m, h1, by omega, h3⟩
          · rw [hb] at hc
            cases hr : reach k f j (n + 1) i with
            | true => exact ⟨n + 1, by omega, by omega, hr⟩
            | false => rw [hr] at hc; cases hc
        · cases h
      · rintro ⟨m, h1, h2, h3⟩
        rw [if_pos]
        rcases Nat.lt_or_ge m (n + 1) with q | q
        · exact .inl (ih2.2 ⟨m, h1, q, h3⟩)
        · have : m = n + 1 := by omega
          subst this
          right; rw [hb, h3]; rfl
theorem uF_out (h5 : k ≤ 5) (f : Nat → Int) {i : Nat} (hi : inK k i = false) : ∀ n, uF k f n i = 0
  | 0 => rfl
  | n + 1 => by
    have ih := uF_out h5 f hi n
    cases n with
    | zero => rfl
    | succ n =>
      show orF k (uF k f (n + 1)) (bF k f (n + 1)) i = 0
      unfold orF
      unfold inK at hi
      rw [hi]; exact ih
theorem hangsB_iff (h5 : k ≤ 5) {f : Nat → Int} : hangsB k f = true ↔ ∀ i j, i < k → j < k → ∃ m, 1 ≤ m ∧ m ≤ k ∧ reach k f j m i = true := by
  unfold hangsB
  rw [eqM_iff]
  constructor
  · intro h i j hi hj
    have hx := idx5 (i := i) (show j < 5 by omega)
    have hk : inK k (5 * i + j) = true := inK_iff.2 ⟨by omega, by omega⟩
    have := h (5 * i + j) (by omega)
    unfold fullF at this
    rw [hk] at this
    obtain ⟨m, h1, h2, h3⟩ := (uF_ok h5 f hi hj (k + 1)).2.1 this
    exact ⟨m, h1, by omega, h3⟩
  · intro h i hi
    unfold fullF
    cases hk : inK k i with
    | false => exact uF_out h5 f hk _
    | true =>
      obtain ⟨h1, h2⟩ := inK_iff.1 hk
      obtain ⟨m, q1, q2, q3⟩ := h (i / 5) (i % 5) h1 h2
      have := (uF_ok h5 f h1 h2 (k + 1)).2.2 ⟨m, q1, by omega, q3⟩
      rw [show 5 * (i / 5) + i % 5 = i by omega] at this
      exact this
end
end Go.Proofs.Ytjfopbpkophoeaa

/- Chapter 06: Beat (30). Written by wip/tools/genX7.py. -/
namespace Go.Proofs.Ytjfopbpkophoeaa
open Go Go.AE
set_option maxRecDepth 100000
def env30 (a : DV) (k : Nat) (f : Nat → Int) : List (Nat × AV) := [(22, .d (.fn 87 [] [.ptr (mx25 k f) 0])), (21, .d (.agg (mx25 k f))), (6, .ref 1 0), (20, .d (bD false)), (19, .d (bD true)), (18, .d (.agg (mx25 k f))), (16, .d (bD false)), (15, .d (iD 0)), (5, .d (iD 0)), (4, .ref 0 0), (14, .d (iD 0)), (13, .d (.agg (mx25 k f))), (10, .d (.tup [.agg (mx25 k f), iD 0])), (12, .d (.tup [.agg (mx25 k f), iD 0])), (11, .d a), (3, .d (iD 0)), (2, .d (iD 0)), (0, .d a)]
noncomputable def H30 (a : DV) (k : Nat) (f : Nat → Int) (x : Int) (st : LoopState) (pe : Option Code) : List Blk := [.dc (mx25 k f), .dc [iD x], .defr, recB 30 Try.f30 (env30 a k f) 2 st pe]
def i30 (k : Nat) (f : Nat → Int) (B : Bool) (g : Nat) (_ : List DV) : DV := bif Nat.beq g 61 then .tup [.agg (mx25 k f), iD 0] else bif Nat.beq g 73 then bD B else .fn 87 [] [.ptr (mx25 k f) 0]
noncomputable def ev30 (ok : Nat → List DV → Bool) (k : Nat) (f : Nat → Int) (B : Bool) (F : List (Nat × RuleF)) : Ev := { evT ok (i30 k f B) with fn := fun f xs h => .node (calmF f) .fail (toldF F f xs h) }
theorem t30 (ok : Nat → List DV → Bool) (a : DV) (k : Nat) (f : Nat → Int) (x : Int) (q : List AV → List Blk → Bool) : startS aeC (ev30 ok k f true [(87, fun xs h => .node (q xs h) (.leaf (.d (.tup []), H30 a k f x .done (some (.exit 0)))) .fail)]) 30 0 Try.f30 none ⟨envOf 0 [.d a], [], []⟩ (doneE aeC Try.f30 0 fun v h => freezeV h 4 v) = bif ok 61 [a] then (bif ok 73 [.agg (mx25 k f)] then (bif ok 74 [.agg (mx25 k f)] then (bif q [.yld 3, .d (.ptr (mx25 k f) 0)] (H30 a k f 0 .ready none) then some (.tup [iD x, iD 0]) else none) else none) else none) else none := by kernel_rfl
theorem t30f (ok : Nat → List DV → Bool) (a : DV) (k : Nat) (f : Nat → Int) (F : List (Nat × RuleF)) : startS aeC (ev30 ok k f false F) 30 0 Try.f30 none ⟨envOf 0 [.d a], [], []⟩ (doneE aeC Try.f30 0 fun v h => freezeV h 4 v) = bif ok 61 [a] then (bif ok 73 [.agg (mx25 k f)] then some (.tup [iD 0, iD 4]) else none) else none := by kernel_rfl
theorem k30 : OkSeg Try.f30 none [] := ⟨by kernel_rfl, by kernel_rfl, by decide⟩
theorem h87_30 (ok : Nat → List DV → Bool) (a : DV) (k : Nat) (P : Nat → List DV → Nat → Int) (f : Nat → Int) (x : Int) : startS aeC (evR ok k P) 87 4 Try.f87 none ⟨envOf 0 [.yld 3, .d (.ptr (mx25 k f) 0)], H30 a k f x .ready none, []⟩ (heldD aeC 87 4) = bif ok 66 [iD k] then some (0, s87 k f 3 4 0 (P 66 [iD k]) (H30 a k f x .ready none)) else none := by kernel_rfl
theorem e87_30 (ok : Nat → List DV → Bool) (a : DV) (k : Nat) (P : Nat → List DV → Nat → Int) (f : Nat → Int) (x : Int) : nextS aeC (evR ok k P) 87 4 Try.f87 none 0 (.exit 0) ⟨[], H30 a k f x .done (some (.exit 0)), []⟩ (doneE aeC Try.f87 4 fun v h => some (v, h)) = some (.d (.tup []), H30 a k f x .done (some (.exit 0))) := by kernel_rfl
noncomputable def R30 (ok : Nat → List DV → Bool) (a : DV) (k : Nat) (P : Nat → List DV → Nat → Int) (f g : Nat → Int) (n x : Nat) : Option (Ex × St) :=
  bif decide (IntKind.wrap .i64 (2 * (k : Int)) < (n : Int)) then some (.exit 0, ⟨[], H30 a k f x .done (some (.exit 0)), []⟩) else bif ok 60 [.agg (mx25 k g)] then (bif decide (0 < P 60 [.agg (mx25 k g)] 0) then nx87 ok k P f g 3 4 n (H30 a k f (Nat.gcd x n : Nat) .ready none) else nx87 ok k P f g 3 4 n (H30 a k f x .ready none)) else none

theorem t87_30_0_0 (ok : Nat → List DV → Bool) (a : DV) (k : Nat) (P : Nat → List DV → Nat → Int) (f g : Nat → Int) : startS aeC (evR ok k P) 87 4 Try.f87 (some 0) (s87 k f 3 4 ((0 : Nat) : Int) g (H30 a k f ((0 : Nat) : Int) .ready none)) (roundD aeC 87 4 0) = R30 ok a k P f g 0 0 := by kernel_rfl
theorem t87_30_0_1 (ok : Nat → List DV → Bool) (a : DV) (k : Nat) (P : Nat → List DV → Nat → Int) (f g : Nat → Int) : startS aeC (evR ok k P) 87 4 Try.f87 (some 0) (s87 k f 3 4 ((0 : Nat) : Int) g (H30 a k f ((1 : Nat) : Int) .ready none)) (roundD aeC 87 4 0) = R30 ok a k P f g 0 1 := by kernel_rfl
theorem t87_30_0_2 (ok : Nat → List DV → Bool) (a : DV) (k : Nat) (P : Nat → List DV → Nat → Int) (f g : Nat → Int) : startS aeC (evR ok k P) 87 4 Try.f87 (some 0) (s87 k f 3 4 ((0 : Nat) : Int) g (H30 a k f ((2 : Nat) : Int) .ready none)) (roundD aeC 87 4 0) = R30 ok a k P f g 0 2 := by kernel_rfl
theorem t87_30_0_3 (ok : Nat → List DV → Bool) (a : DV) (k : Nat) (P : Nat → List DV → Nat → Int) (f g : Nat → Int) : startS aeC (evR ok k P) 87 4 Try.f87 (some 0) (s87 k f 3 4 ((0 : Nat) : Int) g (H30 a k f ((3 : Nat) : Int) .ready none)) (roundD aeC 87 4 0) = R30 ok a k P f g 0 3 := by kernel_rfl
theorem t87_30_0_4 (ok : Nat → List DV → Bool) (a : DV) (k : Nat) (P : Nat → List DV → Nat → Int) (f g : Nat → Int) : startS aeC (evR ok k P) 87 4 Try.f87 (some 0) (s87 k f 3 4 ((0 : Nat) : Int) g (H30 a k f ((4 : Nat) : Int) .ready none)) (roundD aeC 87 4 0) = R30 ok a k P f g 0 4 := by kernel_rfl
theorem t87_30_0_5 (ok : Nat → List DV → Bool) (a : DV) (k : Nat) (P : Nat → List DV → Nat → Int) (f g : Nat → Int) : startS aeC (evR ok k P) 87 4 Try.f87 (some 0) (s87 k f 3 4 ((0 : Nat) : Int) g (H30 a k f ((5 : Nat) : Int) .ready none)) (roundD aeC 87 4 0) = R30 ok a k P f g 0 5 := by kernel_rfl
theorem t87_30_0_6 (ok : Nat → List DV → Bool) (a : DV) (k : Nat) (P : Nat → List DV → Nat → Int) (f g : Nat → Int) : startS aeC (evR ok k P) 87 4 Try.f87 (some 0) (s87 k f 3 4 ((0 : Nat) : Int) g (H30 a k f ((6 : Nat) : Int) .ready none)) (roundD aeC 87 4 0) = R30 ok a k P f g 0 6 := by kernel_rfl
theorem t87_30_0_7 (ok : Nat → List DV → Bool) (a : DV) (k : Nat) (P : Nat → List DV → Nat → Int) (f g : Nat → Int) : startS aeC (evR ok k P) 87 4 Try.f87 (some 0) (s87 k f 3 4 ((0 : Nat) : Int) g (H30 a k f ((7 : Nat) : Int) .ready none)) (roundD aeC 87 4 0) = R30 ok a k P f g 0 7 := by kernel_rfl
theorem t87_30_0_8 (ok : Nat → List DV → Bool) (a : DV) (k : Nat) (P : Nat → List DV → Nat → Int) (f g : Nat → Int) : startS aeC (evR ok k P) 87 4 Try.f87 (some 0) (s87 k f 3 4 ((0 : Nat) : Int) g (H30 a k f ((8 : Nat) : Int) .ready none)) (roundD aeC 87 4 0) = R30 ok a k P f g 0 8 := by kernel_rfl
theorem t87_30_0_9 (ok : Nat → List DV → Bool) (a : DV) (k : Nat) (P : Nat → List DV → Nat → Int) (f g : Nat → Int) : startS aeC (evR ok k P) 87 4 Try.f87 (some 0) (s87 k f 3 4 ((0 : Nat) : Int) g (H30 a k f ((9 : Nat) : Int) .ready none)) (roundD aeC 87 4 0) = R30 ok a k P f g 0 9 := by kernel_rfl
theorem t87_30_0_10 (ok : Nat → List DV → Bool) (a : DV) (k : Nat) (P : Nat → List DV → Nat → Int) (f g : Nat → Int) : startS aeC (evR ok k P) 87 4 Try.f87 (some 0) (s87 k f 3 4 ((0 : Nat) : Int) g (H30 a k f ((10 : Nat) : Int) .ready none)) (roundD aeC 87 4 0) = R30 ok a k P f g 0 10 := by kernel_rfl
theorem t87_30_1_0 (ok : Nat → List DV → Bool) (a : DV) (k : Nat) (P : Nat → List DV → Nat → Int) (f g : Nat → Int) : startS aeC (evR ok k P) 87 4 Try.f87 (some 0) (s87 k f 3 4 ((1 : Nat) : Int) g (H30 a k f ((0 : Nat) : Int) .ready none)) (roundD aeC 87 4 0) = R30 ok a k P f g 1 0 := by kernel_rfl
theorem t87_30_1_1 (ok : Nat → List DV → Bool) (a : DV) (k : Nat) (P : Nat → List DV → Nat → Int) (f g : Nat → Int) : startS aeC (evR ok k P) 87 4 Try.f87 (some 0) (s87 k f 3 4 ((1 : Nat) : Int) g (H30 a k f ((1 : Nat) : Int) .ready none)) (roundD aeC 87 4 0) = R30 ok a k P f g 1 1 := by kernel_rfl
theorem t87_30_1_2 (ok : Nat → List DV → Bool) (a : DV) (k : Nat) (P : Nat → List DV → Nat → Int) (f g : Nat → Int) : startS aeC (evR ok k P) 87 4 Try.f87 (some 0) (s87 k f 3 4 ((1 : Nat) : Int) g (H30 a k f ((2 : Nat) : Int) .ready none)) (roundD aeC 87 4 0) = R30 ok a k P f g 1 2 := by kernel_rfl
theorem t87_30_1_3 (ok : Nat → List DV → Bool) (a : DV) (k : Nat) (P : Nat → List DV → Nat → Int) (f g : Nat → Int) : startS aeC (evR ok k P) 87 4 Try.f87 (some 0) (s87 k f 3 4 ((1 : Nat) : Int) g (H30 a k f ((3 : Nat) : Int) .ready none)) (roundD aeC 87 4 0) = R30 ok a k P f g 1 3 := by kernel_rfl
theorem t87_30_1_4 (ok : Nat → List DV → Bool) (a : DV) (k : Nat) (P : Nat → List DV → Nat → Int) (f g : Nat → Int) : startS aeC (evR ok k P) 87 4 Try.f87 (some 0) (s87 k f 3 4 ((1 : Nat) : Int) g (H30 a k f ((4 : Nat) : Int) .ready none)) (roundD aeC 87 4 0) = R30 ok a k P f g 1 4 := by kernel_rfl
theorem t87_30_1_5 (ok : Nat → List DV → Bool) (a : DV) (k : Nat) (P : Nat → List DV → Nat → Int) (f g : Nat → Int) : startS aeC (evR ok k P) 87 4 Try.f87 (some 0) (s87 k f 3 4 ((1 : Nat) : Int) g (H30 a k f ((5 : Nat) : Int) .ready none)) (roundD aeC 87 4 0) = R30 ok a k P f g 1 5 := by kernel_rfl
theorem t87_30_1_6 (ok : Nat → List DV → Bool) (a : DV) (k : Nat) (P : Nat → List DV → Nat → Int) (f g : Nat → Int) : startS aeC (evR ok k P) 87 4 Try.f87 (some 0) (s87 k f 3 4 ((1 : Nat) : Int) g (H30 a k f ((6 : Nat) : Int) .ready none)) (roundD aeC 87 4 0) = R30 ok a k P f g 1 6 := by kernel_rfl
theorem t87_30_1_7 (ok : Nat → List DV → Bool) (a : DV) (k : Nat) (P : Nat → List DV → Nat → Int) (f g : Nat → Int) : startS aeC (evR ok k P) 87 4 Try.f87 (some 0) (s87 k f 3 4 ((1 : Nat) : Int) g (H30 a k f ((7 : Nat) : Int) .ready none)) (roundD aeC 87 4 0) = R30 ok a k P f g 1 7 := by kernel_rfl
theorem t87_30_1_8 (ok : Nat → List DV → Bool) (a : DV) (k : Nat) (P : Nat → List DV → Nat → Int) (f g : Nat → Int) : startS aeC (evR ok k P) 87 4 Try.f87 (some 0) (s87 k f 3 4 ((1 : Nat) : Int) g (H30 a k f ((8 : Nat) : Int) .ready none)) (roundD aeC 87 4 0) = R30 ok a k P f g 1 8 := by kernel_rfl
theorem t87_30_1_9 (ok : Nat → List DV → Bool) (a : DV) (k : Nat) (P : Nat → List DV → Nat → Int) (f g : Nat → Int) : startS aeC (evR ok k P) 87 4 Try.f87 (some 0) (s87 k f 3 4 ((1 : Nat) : Int) g (H30 a k f ((9 : Nat) : Int) .ready none)) (roundD aeC 87 4 0) = R30 ok a k P f g 1 9 := by kernel_rfl
theorem t87_30_1_10 (ok : Nat → List DV → Bool) (a : DV) (k : Nat) (P : Nat → List DV → Nat → Int) (f g : Nat → Int) : startS aeC (evR ok k P) 87 4 Try.f87 (some 0) (s87 k f 3 4 ((1 : Nat) : Int) g (H30 a k f ((10 : Nat) : Int) .ready none)) (roundD aeC 87 4 0) = R30 ok a k P f g 1 10 := by kernel_rfl
theorem t87_30_2_0 (ok : Nat → List DV → Bool) (a : DV) (k : Nat) (P : Nat → List DV → Nat → Int) (f g : Nat → Int) : startS aeC (evR ok k P) 87 4 Try.f87 (some 0) (s87 k f 3 4 ((2 : Nat) : Int) g (H30 a k f ((0 : Nat) : Int) .ready none)) (roundD aeC 87 4 0) = R30 ok a k P f g 2 0 := by kernel_rfl
theorem t87_30_2_1 (ok : Nat → List DV → Bool) (a : DV) (k : Nat) (P : Nat → List DV → Nat → Int) (f g : Nat → Int) : startS aeC (evR ok k P) 87 4 Try.f87 (some 0) (s87 k f 3 4 ((2 : Nat) : Int) g (H30 a k f ((1 : Nat) : Int) .ready none)) (roundD aeC 87 4 0) = R30 ok a k P f g 2 1 := by kernel_rfl
theorem t87_30_2_2 (ok : Nat → List DV → Bool) (a : DV) (k : Nat) (P : Nat → List DV → Nat → Int) (f g : Nat → Int) : startS aeC (evR ok k P) 87 4 Try.f87 (some 0) (s87 k f 3 4 ((2 : Nat) : Int) g (H30 a k f ((2 : Nat) : Int) .ready none)) (roundD aeC 87 4 0) = R30 ok a k P f g 2 2 := by kernel_rfl
theorem t87_30_2_3 (ok : Nat → List DV → Bool) (a : DV) (k : Nat) (P : Nat → List DV → Nat → Int) (f g : Nat → Int) : startS aeC (evR ok k P) 87 4 Try.f87 (some 0) (s87 k f 3 4 ((2 : Nat) : Int) g (H30 a k f ((3 : Nat) : Int) .ready none)) (roundD aeC 87 4 0) = R30 ok a k P f g 2 3 := by kernel_rfl
theorem t87_30_2_4 (ok : Nat → List DV → Bool) (a : DV) (k : Nat) (P : Nat → List DV → Nat → Int) (f g : Nat → Int) : startS aeC (evR ok k P) 87 4 Try.f87 (some 0) (s87 k f 3 4 ((2 : Nat) : Int) g (H30 a k f ((4 : Nat) : Int) .ready none)) (roundD aeC 87 4 0) = R30 ok a k P f g 2 4 := by kernel_rfl
theorem t87_30_2_5 (ok : Nat → List DV → Bool) (a : DV) (k : Nat) (P : Nat → List DV → Nat → Int) (f g : Nat → Int) : startS aeC (evR ok k P) 87 4 Try.f87 (some 0) (s87 k f 3 4 ((2 : Nat) : Int) g (H30 a k f ((5 : Nat) : Int) .ready none)) (roundD aeC 87 4 0) = R30 ok a k P f g 2 5 := by kernel_rfl
theorem t87_30_2_6 (ok : Nat → List DV → Bool) (a : DV) (k : Nat) (P : Nat → List DV → Nat → Int) (f g : Nat → Int) : startS aeC (evR ok k P) 87 4 Try.f87 (some 0) (s87 k f 3 4 ((2 : Nat) : Int) g (H30 a k f ((6 : Nat) : Int) .ready none)) (roundD aeC 87 4 0) = R30 ok a k P f g 2 6 := by kernel_rfl
theorem t87_30_2_7 (ok : Nat → List DV → Bool) (a : DV) (k : Nat) (P : Nat → List DV → Nat → Int) (f g : Nat → Int) : startS aeC (evR ok k P) 87 4 Try.f87 (some 0) (s87 k f 3 4 ((2 : Nat) : Int) g (H30 a k f ((7 : Nat) : Int) .ready none)) (roundD aeC 87 4 0) = R30 ok a k P f g 2 7 := by kernel_rfl
theorem t87_30_2_8 (ok : Nat → List DV → Bool) (a : DV) (k : Nat) (P : Nat → List DV → Nat → Int) (f g : Nat → Int) : startS aeC (evR ok k P) 87 4 Try.f87 (some 0) (s87 k f 3 4 ((2 : Nat) : Int) g (H30 a k f ((8 : Nat) : Int) .ready none)) (roundD aeC 87 4 0) = R30 ok a k P f g 2 8 := by kernel_rfl
theorem t87_30_2_9 (ok : Nat → List DV → Bool) (a : DV) (k : Nat) (P : Nat → List DV → Nat → Int) (f g : Nat → Int) : startS aeC (evR ok k P) 87 4 Try.f87 (some 0) (s87 k f 3 4 ((2 : Nat) : Int) g (H30 a k f ((9 : Nat) : Int) .ready none)) (roundD aeC 87 4 0) = R30 ok a k P f g 2 9 := by kernel_rfl
theorem t87_30_2_10 (ok : Nat → List DV → Bool) (a : DV) (k : Nat) (P : Nat → List DV → Nat → Int) (f g : Nat → Int) : startS aeC (evR ok k P) 87 4 Try.f87 (some 0) (s87 k f 3 4 ((2 : Nat) : Int) g (H30 a k f ((10 : Nat) : Int) .ready none)) (roundD aeC 87 4 0) = R30 ok a k P f g 2 10 := by kernel_rfl
theorem t87_30_3_0 (ok : Nat → List DV → Bool) (a : DV) (k : Nat) (P : Nat → List DV → Nat → Int) (f g : Nat → Int) : startS aeC (evR ok k P) 87 4 Try.f87 (some 0) (s87 k f 3 4 ((3 : Nat) : Int) g (H30 a k f ((0 : Nat) : Int) .ready none)) (roundD aeC 87 4 0) = R30 ok a k P f g 3 0 := by kernel_rfl
theorem t87_30_3_1 (ok : Nat → List DV → Bool) (a : DV) (k : Nat) (P : Nat → List DV → Nat → Int) (f g : Nat → Int) : startS aeC (evR ok k P) 87 4 Try.f87 (some 0) (s87 k f 3 4 ((3 : Nat) : Int) g (H30 a k f ((1 : Nat) : Int) .ready none)) (roundD aeC 87 4 0) = R30 ok a k P f g 3 1 := by kernel_rfl
theorem t87_30_3_2 (ok : Nat → List DV → Bool) (a : DV) (k : Nat) (P : Nat → List DV → Nat → Int) (f g : Nat → Int) : startS aeC (evR ok k P) 87 4 Try.f87 (some 0) (s87 k f 3 4 ((3 : Nat) : Int) g (H30 a k f ((2 : Nat) : Int) .ready none)) (roundD aeC 87 4 0) = R30 ok a k P f g 3 2 := by kernel_rfl
theorem t87_30_3_3 (ok : Nat → List DV → Bool) (a : DV) (k : Nat) (P : Nat → List DV → Nat → Int) (f g : Nat → Int) : startS aeC (evR ok k P) 87 4 Try.f87 (some 0) (s87 k f 3 4 ((3 : Nat) : Int) g (H30 a k f ((3 : Nat) : Int) .ready none)) (roundD aeC 87 4 0) = R30 ok a k P f g 3 3 := by kernel_rfl
theorem t87_30_3_4 (ok : Nat → List DV → Bool) (a : DV) (k : Nat) (P : Nat → List DV → Nat → Int) (f g : Nat → Int) : startS aeC (evR ok k P) 87 4 Try.f87 (some 0) (s87 k f 3 4 ((3 : Nat) : Int) g (H30 a k f ((4 : Nat) : Int) .ready none)) (roundD aeC 87 4 0) = R30 ok a k P f g 3 4 := by kernel_rfl
theorem t87_30_3_5 (ok : Nat → List DV → Bool) (a : DV) (k : Nat) (P : Nat → List DV → Nat → Int) (f g : Nat → Int) : startS aeC (evR ok k P) 87 4 Try.f87 (some 0) (s87 k f 3 4 ((3 : Nat) : Int) g (H30 a k f ((5 : Nat) : Int) .ready none)) (roundD aeC 87 4 0) = R30 ok a k P f g 3 5 := by kernel_rfl
theorem t87_30_3_6 (ok : Nat → List DV → Bool) (a : DV) (k : Nat) (P : Nat → List DV → Nat → Int) (f g : Nat → Int) : startS aeC (evR ok k P) 87 4 Try.f87 (some 0) (s87 k f 3 4 ((3 : Nat) : Int) g (H30 a k f ((6 : Nat) : Int) .ready none)) (roundD aeC 87 4 0) = R30 ok a k P f g 3 6 := by kernel_rfl
theorem t87_30_3_7 (ok : Nat → List DV → Bool) (a : DV) (k : Nat) (P : Nat → List DV → Nat → Int) (f g : Nat → Int) : startS aeC (evR ok k P) 87 4 Try.f87 (some 0) (s87 k f 3 4 ((3 : Nat) : Int) g (H30 a k f ((7 : Nat) : Int) .ready none)) (roundD aeC 87 4 0) = R30 ok a k P f g 3 7 := by kernel_rfl
theorem t87_30_3_8 (ok : Nat → List DV → Bool) (a : DV) (k : Nat) (P : Nat → List DV → Nat → Int) (f g : Nat → Int) : startS aeC (evR ok k P) 87 4 Try.f87 (some 0) (s87 k f 3 4 ((3 : Nat) : Int) g (H30 a k f ((8 : Nat) : Int) .ready none)) (roundD aeC 87 4 0) = R30 ok a k P f g 3 8 := by kernel_rfl
theorem t87_30_3_9 (ok : Nat → List DV → Bool) (a : DV) (k : Nat) (P : Nat → List DV → Nat → Int) (f g : Nat → Int) : startS aeC (evR ok k P) 87 4 Try.f87 (some 0) (s87 k f 3 4 ((3 : Nat) : Int) g (H30 a k f ((9 : Nat) : Int) .ready none)) (roundD aeC 87 4 0) = R30 ok a k P f g 3 9 := by kernel_rfl
theorem t87_30_3_10 (ok : Nat → List DV → Bool) (a : DV) (k : Nat) (P : Nat → List DV → Nat → Int) (f g : Nat → Int) : startS aeC (evR ok k P) 87 4 Try.f87 (some 0) (s87 k f 3 4 ((3 : Nat) : Int) g (H30 a k f ((10 : Nat) : Int) .ready none)) (roundD aeC 87 4 0) = R30 ok a k P f g 3 10 := by kernel_rfl
theorem t87_30_4_0 (ok : Nat → List DV → Bool) (a : DV) (k : Nat) (P : Nat → List DV → Nat → Int) (f g : Nat → Int) : startS aeC (evR ok k P) 87 4 Try.f87 (some 0) (s87 k f 3 4 ((4 : Nat) : Int) g (H30 a k f ((0 : Nat) : Int) .ready none)) (roundD aeC 87 4 0) = R30 ok a k P f g 4 0 := by kernel_rfl
theorem t87_30_4_1 (ok : Nat → List DV → Bool) (a : DV) (k : Nat) (P : Nat → List DV → Nat → Int) (f g : Nat → Int) : startS aeC (evR ok k P) 87 4 Try.f87 (some 0) (s87 k f 3 4 ((4 : Nat) : Int) g (H30 a k f ((1 : Nat) : Int) .ready none)) (roundD aeC 87 4 0) = R30 ok a k P f g 4 1 := by kernel_rfl
theorem t87_30_4_2 (ok : Nat → List DV → Bool) (a : DV) (k : Nat) (P : Nat → List DV → Nat → Int) (f g : Nat → Int) : startS aeC (evR ok k P) 87 4 Try.f87 (some 0) (s87 k f 3 4 ((4 : Nat) : Int) g (H30 a k f ((2 : Nat) : Int) .ready none)) (roundD aeC 87 4 0) = R30 ok a k P f g 4 2 := by kernel_rfl
theorem t87_30_4_3 (ok : Nat → List DV → Bool) (a : DV) (k : Nat) (P : Nat → List DV → Nat → Int) (f g : Nat → Int) : startS aeC (evR ok k P) 87 4 Try.f87 (some 0) (s87 k f 3 4 ((4 : Nat) : Int) g (H30 a k f ((3 : Nat) : Int) .ready none)) (roundD aeC 87 4 0) = R30 ok a k P f g 4 3 := by kernel_rfl
theorem t87_30_4_4 (ok : Nat → List DV → Bool) (a : DV) (k : Nat) (P : Nat → List DV → Nat → Int) (f g : Nat → Int) : startS aeC (evR ok k P) 87 4 Try.f87 (some 0) (s87 k f 3 4 ((4 : Nat) : Int) g (H30 a k f ((4 : Nat) : Int) .ready none)) (roundD aeC 87 4 0) = R30 ok a k P f g 4 4 := by kernel_rfl
theorem t87_30_4_5 (ok : Nat → List DV → Bool) (a : DV) (k : Nat) (P : Nat → List DV → Nat → Int) (f g : Nat → Int) : startS aeC (evR ok k P) 87 4 Try.f87 (some 0) (s87 k f 3 4 ((4 : Nat) : Int) g (H30 a k f ((5 : Nat) : Int) .ready none)) (roundD aeC 87 4 0) = R30 ok a k P f g 4 5 := by kernel_rfl
theorem t87_30_4_6 (ok : Nat → List DV → Bool) (a : DV) (k : Nat) (P : Nat → List DV → Nat → Int) (f g : Nat → Int) : startS aeC (evR ok k P) 87 4 Try.f87 (some 0) (s87 k f 3 4 ((4 : Nat) : Int) g (H30 a k f ((6 : Nat) : Int) .ready none)) (roundD aeC 87 4 0) = R30 ok a k P f g 4 6 := by kernel_rfl
theorem t87_30_4_7 (ok : Nat → List DV → Bool) (a : DV) (k : Nat) (P : Nat → List DV → Nat → Int) (f g : Nat → Int) : startS aeC (evR ok k P) 87 4 Try.f87 (some 0) (s87 k f 3 4 ((4 : Nat) : Int) g (H30 a k f ((7 : Nat) : Int) .ready none)) (roundD aeC 87 4 0) = R30 ok a k P f g 4 7 := by kernel_rfl
theorem t87_30_4_8 (ok : Nat → List DV → Bool) (a : DV) (k : Nat) (P : Nat → List DV → Nat → Int) (f g : Nat → Int) : startS aeC (evR ok k P) 87 4 Try.f87 (some 0) (s87 k f 3 4 ((4 : Nat) : Int) g (H30 a k f ((8 : Nat) : Int) .ready none)) (roundD aeC 87 4 0) = R30 ok a k P f g 4 8 := by kernel_rfl
theorem t87_30_4_9 (ok : Nat → List DV → Bool) (a : DV) (k : Nat) (P : Nat → List DV → Nat → Int) (f g : Nat → Int) : startS aeC (evR ok k P) 87 4 Try.f87 (some 0) (s87 k f 3 4 ((4 : Nat) : Int) g (H30 a k f ((9 : Nat) : Int) .ready none)) (roundD aeC 87 4 0) = R30 ok a k P f g 4 9 := by kernel_rfl
theorem t87_30_4_10 (ok : Nat → List DV → Bool) (a : DV) (k : Nat) (P : Nat → List DV → Nat → Int) (f g : Nat → Int) : startS aeC (evR ok k P) 87 4 Try.f87 (some 0) (s87 k f 3 4 ((4 : Nat) : Int) g (H30 a k f ((10 : Nat) : Int) .ready none)) (roundD aeC 87 4 0) = R30 ok a k P f g 4 10 := by kernel_rfl
theorem t87_30_5_0 (ok : Nat → List DV → Bool) (a : DV) (k : Nat) (P : Nat → List DV → Nat → Int) (f g : Nat → Int) : startS aeC (evR ok k P) 87 4 Try.f87 (some 0) (s87 k f 3 4 ((5 : Nat) : Int) g (H30 a k f ((0 : Nat) : Int) .ready none)) (roundD aeC 87 4 0) = R30 ok a k P f g 5 0 := by kernel_rfl
theorem t87_30_5_1 (ok : Nat → List DV → Bool) (a : DV) (k : Nat) (P : Nat → List DV → Nat → Int) (f g : Nat → Int) : startS aeC (evR ok k P) 87 4 Try.f87 (some 0) (s87 k f 3 4 ((5 : Nat) : Int) g (H30 a k f ((1 : Nat) : Int) .ready none)) (roundD aeC 87 4 0) = R30 ok a k P f g 5 1 := by kernel_rfl
theorem t87_30_5_2 (ok : Nat → List DV → Bool) (a : DV) (k : Nat) (P : Nat → List DV → Nat → Int) (f g : Nat → Int) : startS aeC (evR ok k P) 87 4 Try.f87 (some 0) (s87 k f 3 4 ((5 : Nat) : Int) g (H30 a k f ((2 : Nat) : Int) .ready none)) (roundD aeC 87 4 0) = R30 ok a k P f g 5 2 := by kernel_rfl
theorem t87_30_5_3 (ok : Nat → List DV → Bool) (a : DV) (k : Nat) (P : Nat → List DV → Nat → Int) (f g : Nat → Int) : startS aeC (evR ok k P) 87 4 Try.f87 (some 0) (s87 k f 3 4 ((5 : Nat) : Int) g (H30 a k f ((3 : Nat) : Int) .ready none)) (roundD aeC 87 4 0) = R30 ok a k P f g 5 3 := by kernel_rfl
theorem t87_30_5_4 (ok : Nat → List DV → Bool) (a : DV) (k : Nat) (P : Nat → List DV → Nat → Int) (f g : Nat → Int) : startS aeC (evR ok k P) 87 4 Try.f87 (some 0) (s87 k f 3 4 ((5 : Nat) : Int) g (H30 a k f ((4 : Nat) : Int) .ready none)) (roundD aeC 87 4 0) = R30 ok a k P f g 5 4 := by kernel_rfl
theorem t87_30_5_5 (ok : Nat → List DV → Bool) (a : DV) (k : Nat) (P : Nat → List DV → Nat → Int) (f g : Nat → Int) : startS aeC (evR ok k P) 87 4 Try.f87 (some 0) (s87 k f 3 4 ((5 : Nat) : Int) g (H30 a k f ((5 : Nat) : Int) .ready none)) (roundD aeC 87 4 0) = R30 ok a k P f g 5 5 := by kernel_rfl
theorem t87_30_5_6 (ok : Nat → List DV → Bool) (a : DV) (k : Nat) (P : Nat → List DV → Nat → Int) (f g : Nat → Int) : startS aeC (evR ok k P) 87 4 Try.f87 (some 0) (s87 k f 3 4 ((5 : Nat) : Int) g (H30 a k f ((6 : Nat) : Int) .ready none)) (roundD aeC 87 4 0) = R30 ok a k P f g 5 6 := by kernel_rfl
theorem t87_30_5_7 (ok : Nat → List DV → Bool) (a : DV) (k : Nat) (P : Nat → List DV → Nat → Int) (f g : Nat → Int) : startS aeC (evR ok k P) 87 4 Try.f87 (some 0) (s87 k f 3 4 ((5 : Nat) : Int) g (H30 a k f ((7 : Nat) : Int) .ready none)) (roundD aeC 87 4 0) = R30 ok a k P f g 5 7 := by kernel_rfl
theorem t87_30_5_8 (ok : Nat → List DV → Bool) (a : DV) (k : Nat) (P : Nat → List DV → Nat → Int) (f g : Nat → Int) : startS aeC (evR ok k P) 87 4 Try.f87 (some 0) (s87 k f 3 4 ((5 : Nat) : Int) g (H30 a k f ((8 : Nat) : Int) .ready none)) (roundD aeC 87 4 0) = R30 ok a k P f g 5 8 := by kernel_rfl
theorem t87_30_5_9 (ok : Nat → List DV → Bool) (a : DV) (k : Nat) (P : Nat → List DV → Nat → Int) (f g : Nat → Int) : startS aeC (evR ok k P) 87 4 Try.f87 (some 0) (s87 k f 3 4 ((5 : Nat) : Int) g (H30 a k f ((9 : Nat) : Int) .ready none)) (roundD aeC 87 4 0) = R30 ok a k P f g 5 9 := by kernel_rfl
theorem t87_30_5_10 (ok : Nat → List DV → Bool) (a : DV) (k : Nat) (P : Nat → List DV → Nat → Int) (f g : Nat → Int) : startS aeC (evR ok k P) 87 4 Try.f87 (some 0) (s87 k f 3 4 ((5 : Nat) : Int) g (H30 a k f ((10 : Nat) : Int) .ready none)) (roundD aeC 87 4 0) = R30 ok a k P f g 5 10 := by kernel_rfl
theorem t87_30_6_0 (ok : Nat → List DV → Bool) (a : DV) (k : Nat) (P : Nat → List DV → Nat → Int) (f g : Nat → Int) : startS aeC (evR ok k P) 87 4 Try.f87 (some 0) (s87 k f 3 4 ((6 : Nat) : Int) g (H30 a k f ((0 : Nat) : Int) .ready none)) (roundD aeC 87 4 0) = R30 ok a k P f g 6 0 := by kernel_rfl
theorem t87_30_6_1 (ok : Nat → List DV → Bool) (a : DV) (k : Nat) (P : Nat → List DV → Nat → Int) (f g : Nat → Int) : startS aeC (evR ok k P) 87 4 Try.f87 (some 0) (s87 k f 3 4 ((6 : Nat) : Int) g (H30 a k f ((1 : Nat) : Int) .ready none)) (roundD aeC 87 4 0) = R30 ok a k P f g 6 1 := by kernel_rfl
theorem t87_30_6_2 (ok : Nat → List DV → Bool) (a : DV) (k : Nat) (P : Nat → List DV → Nat → Int) (f g : Nat → Int) : startS aeC (evR ok k P) 87 4 Try.f87 (some 0) (s87 k f 3 4 ((6 : Nat) : Int) g (H30 a k f ((2 : Nat) : Int) .ready none)) (roundD aeC 87 4 0) = R30 ok a k P f g 6 2 := by kernel_rfl
theorem t87_30_6_3 (ok : Nat → List DV → Bool) (a : DV) (k : Nat) (P : Nat → List DV → Nat → Int) (f g : Nat → Int) : startS aeC (evR ok k P) 87 4 Try.f87 (some 0) (s87 k f 3 4 ((6 : Nat) : Int) g (H30 a k f ((3 : Nat) : Int) .ready none)) (roundD aeC 87 4 0) = R30 ok a k P f g 6 3 := by kernel_rfl
theorem t87_30_6_4 (ok : Nat → List DV → Bool) (a : DV) (k : Nat) (P : Nat → List DV → Nat → Int) (f g : Nat → Int) : startS aeC (evR ok k P) 87 4 Try.f87 (some 0) (s87 k f 3 4 ((6 : Nat) : Int) g (H30 a k f ((4 : Nat) : Int) .ready none)) (roundD aeC 87 4 0) = R30 ok a k P f g 6 4 := by kernel_rfl
theorem t87_30_6_5 (ok : Nat → List DV → Bool) (a : DV) (k : Nat) (P : Nat → List DV → Nat → Int) (f g : Nat → Int) : startS aeC (evR ok k P) 87 4 Try.f87 (some 0) (s87 k f 3 4 ((6 : Nat) : Int) g (H30 a k f ((5 : Nat) : Int) .ready none)) (roundD aeC 87 4 0) = R30 ok a k P f g 6 5 := by kernel_rfl
theorem t87_30_6_6 (ok : Nat → List DV → Bool) (a : DV) (k : Nat) (P : Nat → List DV → Nat → Int) (f g : Nat → Int) : startS aeC (evR ok k P) 87 4 Try.f87 (some 0) (s87 k f 3 4 ((6 : Nat) : Int) g (H30 a k f ((6 : Nat) : Int) .ready none)) (roundD aeC 87 4 0) = R30 ok a k P f g 6 6 := by kernel_rfl
theorem t87_30_6_7 (ok : Nat → List DV → Bool) (a : DV) (k : Nat) (P : Nat → List DV → Nat → Int) (f g : Nat → Int) : startS aeC (evR ok k P) 87 4 Try.f87 (some 0) (s87 k f 3 4 ((6 : Nat) : Int) g (H30 a k f ((7 : Nat) : Int) .ready none)) (roundD aeC 87 4 0) = R30 ok a k P f g 6 7 := by kernel_rfl
theorem t87_30_6_8 (ok : Nat → List DV → Bool) (a : DV) (k : Nat) (P : Nat → List DV → Nat → Int) (f g : Nat → Int) : startS aeC (evR ok k P) 87 4 Try.f87 (some 0) (s87 k f 3 4 ((6 : Nat) : Int) g (H30 a k f ((8 : Nat) : Int) .ready none)) (roundD aeC 87 4 0) = R30 ok a k P f g 6 8 := by kernel_rfl
theorem t87_30_6_9 (ok : Nat → List DV → Bool) (a : DV) (k : Nat) (P : Nat → List DV → Nat → Int) (f g : Nat → Int) : startS aeC (evR ok k P) 87 4 Try.f87 (some 0) (s87 k f 3 4 ((6 : Nat) : Int) g (H30 a k f ((9 : Nat) : Int) .ready none)) (roundD aeC 87 4 0) = R30 ok a k P f g 6 9 := by kernel_rfl
theorem t87_30_6_10 (ok : Nat → List DV → Bool) (a : DV) (k : Nat) (P : Nat → List DV → Nat → Int) (f g : Nat → Int) : startS aeC (evR ok k P) 87 4 Try.f87 (some 0) (s87 k f 3 4 ((6 : Nat) : Int) g (H30 a k f ((10 : Nat) : Int) .ready none)) (roundD aeC 87 4 0) = R30 ok a k P f g 6 10 := by kernel_rfl
theorem t87_30_7_0 (ok : Nat → List DV → Bool) (a : DV) (k : Nat) (P : Nat → List DV → Nat → Int) (f g : Nat → Int) : startS aeC (evR ok k P) 87 4 Try.f87 (some 0) (s87 k f 3 4 ((7 : Nat) : Int) g (H30 a k f ((0 : Nat) : Int) .ready none)) (roundD aeC 87 4 0) = R30 ok a k P f g 7 0 := by kernel_rfl
theorem t87_30_7_1 (ok : Nat → List DV → Bool) (a : DV) (k : Nat) (P : Nat → List DV → Nat → Int) (f g : Nat → Int) : startS aeC (evR ok k P) 87 4 Try.f87 (some 0) (s87 k f 3 4 ((7 : Nat) : Int) g (H30 a k f ((1 : Nat) : Int) .ready none)) (roundD aeC 87 4 0) = R30 ok a k P f g 7 1 := by kernel_rfl
theorem t87_30_7_2 (ok : Nat → List DV → Bool) (a : DV) (k : Nat) (P : Nat → List DV → Nat → Int) (f g : Nat → Int) : startS aeC (evR ok k P) 87 4 Try.f87 (some 0) (s87 k f 3 4 ((7 : Nat) : Int) g (H30 a k f ((2 : Nat) : Int) .ready none)) (roundD aeC 87 4 0) = R30 ok a k P f g 7 2 := by kernel_rfl
theorem t87_30_7_3 (ok : Nat → List DV → Bool) (a : DV) (k : Nat) (P : Nat → List DV → Nat → Int) (f g : Nat → Int) : startS aeC (evR ok k P) 87 4 Try.f87 (some 0) (s87 k f 3 4 ((7 : Nat) : Int) g (H30 a k f ((3 : Nat) : Int) .ready none)) (roundD aeC 87 4 0) = R30 ok a k P f g 7 3 := by kernel_rfl
theorem t87_30_7_4 (ok : Nat → List DV → Bool) (a : DV) (k : Nat) (P : Nat → List DV → Nat → Int) (f g : Nat → Int) : startS aeC (evR ok k P) 87 4 Try.f87 (some 0) (s87 k f 3 4 ((7 : Nat) : Int) g (H30 a k f ((4 : Nat) : Int) .ready none)) (roundD aeC 87 4 0) = R30 ok a k P f g 7 4 := by kernel_rfl
theorem t87_30_7_5 (ok : Nat → List DV → Bool) (a : DV) (k : Nat) (P : Nat → List DV → Nat → Int) (f g : Nat → Int) : startS aeC (evR ok k P) 87 4 Try.f87 (some 0) (s87 k f 3 4 ((7 : Nat) : Int) g (H30 a k f ((5 : Nat) : Int) .ready none)) (roundD aeC 87 4 0) = R30 ok a k P f g 7 5 := by kernel_rfl
theorem t87_30_7_6 (ok : Nat → List DV → Bool) (a : DV) (k : Nat) (P : Nat → List DV → Nat → Int) (f g : Nat → Int) : startS aeC (evR ok k P) 87 4 Try.f87 (some 0) (s87 k f 3 4 ((7 : Nat) : Int) g (H30 a k f ((6 : Nat) : Int) .ready none)) (roundD aeC 87 4 0) = R30 ok a k P f g 7 6 := by kernel_rfl
theorem t87_30_7_7 (ok : Nat → List DV → Bool) (a : DV) (k : Nat) (P : Nat → List DV → Nat → Int) (f g : Nat → Int) : startS aeC (evR ok k P) 87 4 Try.f87 (some 0) (s87 k f 3 4 ((7 : Nat) : Int) g (H30 a k f ((7 : Nat) : Int) .ready none)) (roundD aeC 87 4 0) = R30 ok a k P f g 7 7 := by kernel_rfl
theorem t87_30_7_8 (ok : Nat → List DV → Bool) (a : DV) (k : Nat) (P : Nat → List DV → Nat → Int) (f g : Nat → Int) : startS aeC (evR ok k P) 87 4 Try.f87 (some 0) (s87 k f 3 4 ((7 : Nat) : Int) g (H30 a k f ((8 : Nat) : Int) .ready none)) (roundD aeC 87 4 0) = R30 ok a k P f g 7 8 := by kernel_rfl
theorem t87_30_7_9 (ok : Nat → List DV → Bool) (a : DV) (k : Nat) (P : Nat → List DV → Nat → Int) (f g : Nat → Int) : startS aeC (evR ok k P) 87 4 Try.f87 (some 0) (s87 k f 3 4 ((7 : Nat) : Int) g (H30 a k f ((9 : Nat) : Int) .ready none)) (roundD aeC 87 4 0) = R30 ok a k P f g 7 9 := by kernel_rfl
theorem t87_30_7_10 (ok : Nat → List DV → Bool) (a : DV) (k : Nat) (P : Nat → List DV → Nat → Int) (f g : Nat → Int) : startS aeC (evR ok k P) 87 4 Try.f87 (some 0) (s87 k f 3 4 ((7 : Nat) : Int) g (H30 a k f ((10 : Nat) : Int) .ready none)) (roundD aeC 87 4 0) = R30 ok a k P f g 7 10 := by kernel_rfl
theorem t87_30_8_0 (ok : Nat → List DV → Bool) (a : DV) (k : Nat) (P : Nat → List DV → Nat → Int) (f g : Nat → Int) : startS aeC (evR ok k P) 87 4 Try.f87 (some 0) (s87 k f 3 4 ((8 : Nat) : Int) g (H30 a k f ((0 : Nat) : Int) .ready none)) (roundD aeC 87 4 0) = R30 ok a k P f g 8 0 := by kernel_rfl
theorem t87_30_8_1 (ok : Nat → List DV → Bool) (a : DV) (k : Nat) (P : Nat → List DV → Nat → Int) (f g : Nat → Int) : startS aeC (evR ok k P) 87 4 Try.f87 (some 0) (s87 k f 3 4 ((8 : Nat) : Int) g (H30 a k f ((1 : Nat) : Int) .ready none)) (roundD aeC 87 4 0) = R30 ok a k P f g 8 1 := by kernel_rfl
theorem t87_30_8_2 (ok : Nat → List DV → Bool) (a : DV) (k : Nat) (P : Nat → List DV → Nat → Int) (f g : Nat → Int) : startS aeC (evR ok k P) 87 4 Try.f87 (some 0) (s87 k f 3 4 ((8 : Nat) : Int) g (H30 a k f ((2 : Nat) : Int) .ready none)) (roundD aeC 87 4 0) = R30 ok a k P f g 8 2 := by kernel_rfl
theorem t87_30_8_3 (ok : Nat → List DV → Bool) (a : DV) (k : Nat) (P : Nat → List DV → Nat → Int) (f g : Nat → Int) : startS aeC (evR ok k P) 87 4 Try.f87 (some 0) (s87 k f 3 4 ((8 : Nat) : Int) g (H30 a k f ((3 : Nat) : Int) .ready none)) (roundD aeC 87 4 0) = R30 ok a k P f g 8 3 := by kernel_rfl
theorem t87_30_8_4 (ok : Nat → List DV → Bool) (a : DV) (k : Nat) (P : Nat → List DV → Nat → Int) (f g : Nat → Int) : startS aeC (evR ok k P) 87 4 Try.f87 (some 0) (s87 k f 3 4 ((8 : Nat) : Int) g (H30 a k f ((4 : Nat) : Int) .ready none)) (roundD aeC 87 4 0) = R30 ok a k P f g 8 4 := by kernel_rfl
theorem t87_30_8_5 (ok : Nat → List DV → Bool) (a : DV) (k : Nat) (P : Nat → List DV → Nat → Int) (f g : Nat → Int) : startS aeC (evR ok k P) 87 4 Try.f87 (some 0) (s87 k f 3 4 ((8 : Nat) : Int) g (H30 a k f ((5 : Nat) : Int) .ready none)) (roundD aeC 87 4 0) = R30 ok a k P f g 8 5 := by kernel_rfl
theorem t87_30_8_6 (ok : Nat → List DV → Bool) (a : DV) (k : Nat) (P : Nat → List DV → Nat → Int) (f g : Nat → Int) : startS aeC (evR ok k P) 87 4 Try.f87 (some 0) (s87 k f 3 4 ((8 : Nat) : Int) g (H30 a k f ((6 : Nat) : Int) .ready none)) (roundD aeC 87 4 0) = R30 ok a k P f g 8 6 := by kernel_rfl
theorem t87_30_8_7 (ok : Nat → List DV → Bool) (a : DV) (k : Nat) (P : Nat → List DV → Nat → Int) (f g : Nat → Int) : startS aeC (evR ok k P) 87 4 Try.f87 (some 0) (s87 k f 3 4 ((8 : Nat) : Int) g (H30 a k f ((7 : Nat) : Int) .ready none)) (roundD aeC 87 4 0) = R30 ok a k P f g 8 7 := by kernel_rfl
theorem t87_30_8_8 (ok : Nat → List DV → Bool) (a : DV) (k : Nat) (P : Nat → List DV → Nat → Int) (f g : Nat → Int) : startS aeC (evR ok k P) 87 4 Try.f87 (some 0) (s87 k f 3 4 ((8 : Nat) : Int) g (H30 a k f ((8 : Nat) : Int) .ready none)) (roundD aeC 87 4 0) = R30 ok a k P f g 8 8 := by kernel_rfl
theorem t87_30_8_9 (ok : Nat → List DV → Bool) (a : DV) (k : Nat) (P : Nat → List DV → Nat → Int) (f g : Nat → Int) : startS aeC (evR ok k P) 87 4 Try.f87 (some 0) (s87 k f 3 4 ((8 : Nat) : Int) g (H30 a k f ((9 : Nat) : Int) .ready none)) (roundD aeC 87 4 0) = R30 ok a k P f g 8 9 := by kernel_rfl
theorem t87_30_8_10 (ok : Nat → List DV → Bool) (a : DV) (k : Nat) (P : Nat → List DV → Nat → Int) (f g : Nat → Int) : startS aeC (evR ok k P) 87 4 Try.f87 (some 0) (s87 k f 3 4 ((8 : Nat) : Int) g (H30 a k f ((10 : Nat) : Int) .ready none)) (roundD aeC 87 4 0) = R30 ok a k P f g 8 10 := by kernel_rfl
theorem t87_30_9_0 (ok : Nat → List DV → Bool) (a : DV) (k : Nat) (P : Nat → List DV → Nat → Int) (f g : Nat → Int) : startS aeC (evR ok k P) 87 4 Try.f87 (some 0) (s87 k f 3 4 ((9 : Nat) : Int) g (H30 a k f ((0 : Nat) : Int) .ready none)) (roundD aeC 87 4 0) = R30 ok a k P f g 9 0 := by kernel_rfl
theorem t87_30_9_1 (ok : Nat → List DV → Bool) (a : DV) (k : Nat) (P : Nat → List DV → Nat → Int) (f g : Nat → Int) : startS aeC (evR ok k P) 87 4 Try.f87 (some 0) (s87 k f 3 4 ((9 : Nat) : Int) g (H30 a k f ((1 : Nat) : Int) .ready none)) (roundD aeC 87 4 0) = R30 ok a k P f g 9 1 := by kernel_rfl
theorem t87_30_9_2 (ok : Nat → List DV → Bool) (a : DV) (k : Nat) (P : Nat → List DV → Nat → Int) (f g : Nat → Int) : startS aeC (evR ok k P) 87 4 Try.f87 (some 0) (s87 k f 3 4 ((9 : Nat) : Int) g (H30 a k f ((2 : Nat) : Int) .ready none)) (roundD aeC 87 4 0) = R30 ok a k P f g 9 2 := by kernel_rfl
theorem t87_30_9_3 (ok : Nat → List DV → Bool) (a : DV) (k : Nat) (P : Nat → List DV → Nat → Int) (f g : Nat → Int) : startS aeC (evR ok k P) 87 4 Try.f87 (some 0) (s87 k f 3 4 ((9 : Nat) : Int) g (H30 a k f ((3 : Nat) : Int) .ready none)) (roundD aeC 87 4 0) = R30 ok a k P f g 9 3 := by kernel_rfl
theorem t87_30_9_4 (ok : Nat → List DV → Bool) (a : DV) (k : Nat) (P : Nat → List DV → Nat → Int) (f g : Nat → Int) : startS aeC (evR ok k P) 87 4 Try.f87 (some 0) (s87 k f 3 4 ((9 : Nat) : Int) g (H30 a k f ((4 : Nat) : Int) .ready none)) (roundD aeC 87 4 0) = R30 ok a k P f g 9 4 := by kernel_rfl
theorem t87_30_9_5 (ok : Nat → List DV → Bool) (a : DV) (k : Nat) (P : Nat → List DV → Nat → Int) (f g : Nat → Int) : startS aeC (evR ok k P) 87 4 Try.f87 (some 0) (s87 k f 3 4 ((9 : Nat) : Int) g (H30 a k f ((5 : Nat) : Int) .ready none)) (roundD aeC 87 4 0) = R30 ok a k P f g 9 5 := by kernel_rfl
theorem t87_30_9_6 (ok : Nat → List DV → Bool) (a : DV) (k : Nat) (P : Nat → List DV → Nat → Int) (f g : Nat → Int) : startS aeC (evR ok k P) 87 4 Try.f87 (some 0) (s87 k f 3 4 ((9 : Nat) : Int) g (H30 a k f ((6 : Nat) : Int) .ready none)) (roundD aeC 87 4 0) = R30 ok a k P f g 9 6 := by kernel_rfl
theorem t87_30_9_7 (ok : Nat → List DV → Bool) (a : DV) (k : Nat) (P : Nat → List DV → Nat → Int) (f g : Nat → Int) : startS aeC (evR ok k P) 87 4 Try.f87 (some 0) (s87 k f 3 4 ((9 : Nat) : Int) g (H30 a k f ((7 : Nat) : Int) .ready none)) (roundD aeC 87 4 0) = R30 ok a k P f g 9 7 := by kernel_rfl
theorem t87_30_9_8 (ok : Nat → List DV → Bool) (a : DV) (k : Nat) (P : Nat → List DV → Nat → Int) (f g : Nat → Int) : startS aeC (evR ok k P) 87 4 Try.f87 (some 0) (s87 k f 3 4 ((9 : Nat) : Int) g (H30 a k f ((8 : Nat) : Int) .ready none)) (roundD aeC 87 4 0) = R30 ok a k P f g 9 8 := by kernel_rfl
theorem t87_30_9_9 (ok : Nat → List DV → Bool) (a : DV) (k : Nat) (P : Nat → List DV → Nat → Int) (f g : Nat → Int) : startS aeC (evR ok k P) 87 4 Try.f87 (some 0) (s87 k f 3 4 ((9 : Nat) : Int) g (H30 a k f ((9 : Nat) : Int) .ready none)) (roundD aeC 87 4 0) = R30 ok a k P f g 9 9 := by kernel_rfl
theorem t87_30_9_10 (ok : Nat → List DV → Bool) (a : DV) (k : Nat) (P : Nat → List DV → Nat → Int) (f g : Nat → Int) : startS aeC (evR ok k P) 87 4 Try.f87 (some 0) (s87 k f 3 4 ((9 : Nat) : Int) g (H30 a k f ((10 : Nat) : Int) .ready none)) (roundD aeC 87 4 0) = R30 ok a k P f g 9 10 := by kernel_rfl
theorem t87_30_10_0 (ok : Nat → List DV → Bool) (a : DV) (k : Nat) (P : Nat → List DV → Nat → Int) (f g : Nat → Int) : startS aeC (evR ok k P) 87 4 Try.f87 (some 0) (s87 k f 3 4 ((10 : Nat) : Int) g (H30 a k f ((0 : Nat) : Int) .ready none)) (roundD aeC 87 4 0) = R30 ok a k P f g 10 0 := by kernel_rfl
theorem t87_30_10_1 (ok : Nat → List DV → Bool) (a : DV) (k : Nat) (P : Nat → List DV → Nat → Int) (f g : Nat → Int) : startS aeC (evR ok k P) 87 4 Try.f87 (some 0) (s87 k f 3 4 ((10 : Nat) : Int) g (H30 a k f ((1 : Nat) : Int) .ready none)) (roundD aeC 87 4 0) = R30 ok a k P f g 10 1 := by kernel_rfl
theorem t87_30_10_2 (ok : Nat → List DV → Bool) (a : DV) (k : Nat) (P : Nat → List DV → Nat → Int) (f g : Nat → Int) : startS aeC (evR ok k P) 87 4 Try.f87 (some 0) (s87 k f 3 4 ((10 : Nat) : Int) g (H30 a k f ((2 : Nat) : Int) .ready none)) (roundD aeC 87 4 0) = R30 ok a k P f g 10 2 := by kernel_rfl
theorem t87_30_10_3 (ok : Nat → List DV → Bool) (a : DV) (k : Nat) (P : Nat → List DV → Nat → Int) (f g : Nat → Int) : startS aeC (evR ok k P) 87 4 Try.f87 (some 0) (s87 k f 3 4 ((10 : Nat) : Int) g (H30 a k f ((3 : Nat) : Int) .ready none)) (roundD aeC 87 4 0) = R30 ok a k P f g 10 3 := by kernel_rfl
theorem t87_30_10_4 (ok : Nat → List DV → Bool) (a : DV) (k : Nat) (P : Nat → List DV → Nat → Int) (f g : Nat → Int) : startS aeC (evR ok k P) 87 4 Try.f87 (some 0) (s87 k f 3 4 ((10 : Nat) : Int) g (H30 a k f ((4 : Nat) : Int) .ready none)) (roundD aeC 87 4 0) = R30 ok a k P f g 10 4 := by kernel_rfl
theorem t87_30_10_5 (ok : Nat → List DV → Bool) (a : DV) (k : Nat) (P : Nat → List DV → Nat → Int) (f g : Nat → Int) : startS aeC (evR ok k P) 87 4 Try.f87 (some 0) (s87 k f 3 4 ((10 : Nat) : Int) g (H30 a k f ((5 : Nat) : Int) .ready none)) (roundD aeC 87 4 0) = R30 ok a k P f g 10 5 := by kernel_rfl
theorem t87_30_10_6 (ok : Nat → List DV → Bool) (a : DV) (k : Nat) (P : Nat → List DV → Nat → Int) (f g : Nat → Int) : startS aeC (evR ok k P) 87 4 Try.f87 (some 0) (s87 k f 3 4 ((10 : Nat) : Int) g (H30 a k f ((6 : Nat) : Int) .ready none)) (roundD aeC 87 4 0) = R30 ok a k P f g 10 6 := by kernel_rfl
theorem t87_30_10_7 (ok : Nat → List DV → Bool) (a : DV) (k : Nat) (P : Nat → List DV → Nat → Int) (f g : Nat → Int) : startS aeC (evR ok k P) 87 4 Try.f87 (some 0) (s87 k f 3 4 ((10 : Nat) : Int) g (H30 a k f ((7 : Nat) : Int) .ready none)) (roundD aeC 87 4 0) = R30 ok a k P f g 10 7 := by kernel_rfl
theorem t87_30_10_8 (ok : Nat → List DV → Bool) (a : DV) (k : Nat) (P : Nat → List DV → Nat → Int) (f g : Nat → Int) : startS aeC (evR ok k P) 87 4 Try.f87 (some 0) (s87 k f 3 4 ((10 : Nat) : Int) g (H30 a k f ((8 : Nat) : Int) .ready none)) (roundD aeC 87 4 0) = R30 ok a k P f g 10 8 := by kernel_rfl
theorem t87_30_10_9 (ok : Nat → List DV → Bool) (a : DV) (k : Nat) (P : Nat → List DV → Nat → Int) (f g : Nat → Int) : startS aeC (evR ok k P) 87 4 Try.f87 (some 0) (s87 k f 3 4 ((10 : Nat) : Int) g (H30 a k f ((9 : Nat) : Int) .ready none)) (roundD aeC 87 4 0) = R30 ok a k P f g 10 9 := by kernel_rfl
theorem t87_30_10_10 (ok : Nat → List DV → Bool) (a : DV) (k : Nat) (P : Nat → List DV → Nat → Int) (f g : Nat → Int) : startS aeC (evR ok k P) 87 4 Try.f87 (some 0) (s87 k f 3 4 ((10 : Nat) : Int) g (H30 a k f ((10 : Nat) : Int) .ready none)) (roundD aeC 87 4 0) = R30 ok a k P f g 10 10 := by kernel_rfl
theorem t87_30_11_0 (ok : Nat → List DV → Bool) (a : DV) (k : Nat) (P : Nat → List DV → Nat → Int) (f g : Nat → Int) : startS aeC (evR ok k P) 87 4 Try.f87 (some 0) (s87 k f 3 4 ((11 : Nat) : Int) g (H30 a k f ((0 : Nat) : Int) .ready none)) (roundD aeC 87 4 0) = R30 ok a k P f g 11 0 := by kernel_rfl
theorem t87_30_11_1 (ok : Nat → List DV → Bool) (a : DV) (k : Nat) (P : Nat → List DV → Nat → Int) (f g : Nat → Int) : startS aeC (evR ok k P) 87 4 Try.f87 (some 0) (s87 k f 3 4 ((11 : Nat) : Int) g (H30 a k f ((1 : Nat) : Int) .ready none)) (roundD aeC 87 4 0) = R30 ok a k P f g 11 1 := by kernel_rfl
theorem t87_30_11_2 (ok : Nat → List DV → Bool) (a : DV) (k : Nat) (P : Nat → List DV → Nat → Int) (f g : Nat → Int) : startS aeC (evR ok k P) 87 4 Try.f87 (some 0) (s87 k f 3 4 ((11 : Nat) : Int) g (H30 a k f ((2 : Nat) : Int) .ready none)) (roundD aeC 87 4 0) = R30 ok a k P f g 11 2 := by kernel_rfl
theorem t87_30_11_3 (ok : Nat → List DV → Bool) (a : DV) (k : Nat) (P : Nat → List DV → Nat → Int) (f g : Nat → Int) : startS aeC (evR ok k P) 87 4 Try.f87 (some 0) (s87 k f 3 4 ((11 : Nat) : Int) g (H30 a k f ((3 : Nat) : Int) .ready none)) (roundD aeC 87 4 0) = R30 ok a k P f g 11 3 := by kernel_rfl
theorem t87_30_11_4 (ok : Nat → List DV → Bool) (a : DV) (k : Nat) (P : Nat → List DV → Nat → Int) (f g : Nat → Int) : startS aeC (evR ok k P) 87 4 Try.f87 (some 0) (s87 k f 3 4 ((11 : Nat) : Int) g (H30 a k f ((4 : Nat) : Int) .ready none)) (roundD aeC 87 4 0) = R30 ok a k P f g 11 4 := by kernel_rfl
theorem t87_30_11_5 (ok : Nat → List DV → Bool) (a : DV) (k : Nat) (P : Nat → List DV → Nat → Int) (f g : Nat → Int) : startS aeC (evR ok k P) 87 4 Try.f87 (some 0) (s87 k f 3 4 ((11 : Nat) : Int) g (H30 a k f ((5 : Nat) : Int) .ready none)) (roundD aeC 87 4 0) = R30 ok a k P f g 11 5 := by kernel_rfl
theorem t87_30_11_6 (ok : Nat → List DV → Bool) (a : DV) (k : Nat) (P : Nat → List DV → Nat → Int) (f g : Nat → Int) : startS aeC (evR ok k P) 87 4 Try.f87 (some 0) (s87 k f 3 4 ((11 : Nat) : Int) g (H30 a k f ((6 : Nat) : Int) .ready none)) (roundD aeC 87 4 0) = R30 ok a k P f g 11 6 := by kernel_rfl
theorem t87_30_11_7 (ok : Nat → List DV → Bool) (a : DV) (k : Nat) (P : Nat → List DV → Nat → Int) (f g : Nat → Int) : startS aeC (evR ok k P) 87 4 Try.f87 (some 0) (s87 k f 3 4 ((11 : Nat) : Int) g (H30 a k f ((7 : Nat) : Int) .ready none)) (roundD aeC 87 4 0) = R30 ok a k P f g 11 7 := by kernel_rfl
theorem t87_30_11_8 (ok : Nat → List DV → Bool) (a : DV) (k : Nat) (P : Nat → List DV → Nat → Int) (f g : Nat → Int) : startS aeC (evR ok k P) 87 4 Try.f87 (some 0) (s87 k f 3 4 ((11 : Nat) : Int) g (H30 a k f ((8 : Nat) : Int) .ready none)) (roundD aeC 87 4 0) = R30 ok a k P f g 11 8 := by kernel_rfl
theorem t87_30_11_9 (ok : Nat → List DV → Bool) (a : DV) (k : Nat) (P : Nat → List DV → Nat → Int) (f g : Nat → Int) : startS aeC (evR ok k P) 87 4 Try.f87 (some 0) (s87 k f 3 4 ((11 : Nat) : Int) g (H30 a k f ((9 : Nat) : Int) .ready none)) (roundD aeC 87 4 0) = R30 ok a k P f g 11 9 := by kernel_rfl
theorem t87_30_11_10 (ok : Nat → List DV → Bool) (a : DV) (k : Nat) (P : Nat → List DV → Nat → Int) (f g : Nat → Int) : startS aeC (evR ok k P) 87 4 Try.f87 (some 0) (s87 k f 3 4 ((11 : Nat) : Int) g (H30 a k f ((10 : Nat) : Int) .ready none)) (roundD aeC 87 4 0) = R30 ok a k P f g 11 10 := by kernel_rfl
theorem t87_30_0 {x : Nat} (hx : x ≤ 10) (ok : Nat → List DV → Bool) (a : DV) (k : Nat) (P : Nat → List DV → Nat → Int) (f g : Nat → Int) : startS aeC (evR ok k P) 87 4 Try.f87 (some 0) (s87 k f 3 4 ((0 : Nat) : Int) g (H30 a k f (x : Int) .ready none)) (roundD aeC 87 4 0) = R30 ok a k P f g 0 x := by
  have h : x = 0 ∨ x = 1 ∨ x = 2 ∨ x = 3 ∨ x = 4 ∨ x = 5 ∨ x = 6 ∨ x = 7 ∨ x = 8 ∨ x = 9 ∨ x = 10 := by omega
  rcases h with rfl | rfl | rfl | rfl | rfl | rfl | rfl | rfl | rfl | rfl | rfl
  · exact t87_30_0_0 ok a k P f g
  · exact t87_30_0_1 ok a k P f g
  · exact t87_30_0_2 ok a k P f g
  · exact t87_30_0_3 ok a k P f g
  · exact t87_30_0_4 ok a k P f g
  · exact t87_30_0_5 ok a k P f g
  · exact t87_30_0_6 ok a k P f g
  · exact t87_30_0_7 ok a k P f g
  · exact t87_30_0_8 ok a k P f g
  · exact t87_30_0_9 ok a k P f g
  · exact t87_30_0_10 ok a k P f g
theorem t87_30_1 {x : Nat} (hx : x ≤ 10) (ok : Nat → List DV → Bool) (a : DV) (k : Nat) (P : Nat → List DV → Nat → Int) (f g : Nat → Int) : startS aeC (evR ok k P) 87 4 Try.f87 (some 0) (s87 k f 3 4 ((1 : Nat) : Int) g (H30 a k f (x : Int) .ready none)) (roundD aeC 87 4 0) = R30 ok a k P f g 1 x := by
  have h : x = 0 ∨ x = 1 ∨ x = 2 ∨ x = 3 ∨ x = 4 ∨ x = 5 ∨ x = 6 ∨ x = 7 ∨ x = 8 ∨ x = 9 ∨ x = 10 := by omega
  rcases h with rfl | rfl | rfl | rfl | rfl | rfl | rfl | rfl | rfl | rfl | rfl
  · exact t87_30_1_0 ok a k P f g
  · exact t87_30_1_1 ok a k P f g
  · exact t87_30_1_2 ok a k P f g
  · exact t87_30_1_3 ok a k P f g
  · exact t87_30_1_4 ok a k P f g
  · exact t87_30_1_5 ok a k P f g
  · exact t87_30_1_6 ok a k P f g
  · exact t87_30_1_7 ok a k P f g
  · exact t87_30_1_8 ok a k P f g
  · exact t87_30_1_9 ok a k P f g
  · exact t87_30_1_10 ok a k P f g
theorem t87_30_2 {x : Nat} (hx : x ≤ 10) (ok : Nat → List DV → Bool) (a : DV) (k : Nat) (P : Nat → List DV → Nat → Int) (f g : Nat → Int) : startS aeC (evR ok k P) 87 4 Try.f87 (some 0) (s87 k f 3 4 ((2 : Nat) : Int) g (H30 a k f (x : Int) .ready none)) (roundD aeC 87 4 0) = R30 ok a k P f g 2 x := by
  have h : x = 0 ∨ x = 1 ∨ x = 2 ∨ x = 3 ∨ x = 4 ∨ x = 5 ∨ x = 6 ∨ x = 7 ∨ x = 8 ∨ x = 9 ∨ x = 10 := by omega
  rcases h with rfl | rfl | rfl | rfl | rfl | rfl | rfl | rfl | rfl | rfl | rfl
  · exact t87_30_2_0 ok a k P f g
  · exact t87_30_2_1 ok a k P f g
  · exact t87_30_2_2 ok a k P f g
  · exact t87_30_2_3 ok a k P f g
  · exact t87_30_2_4 ok a k P f g
  · exact t87_30_2_5 ok a k P f g
  · exact t87_30_2_6 ok a k P f g
  · exact t87_30_2_7 ok a k P f g
  · exact t87_30_2_8 ok a k P f g
  · exact t87_30_2_9 ok a k P f g
  · exact t87_30_2_10 ok a k P f g
theorem t87_30_3 {x : Nat} (hx : x ≤ 10) (ok : Nat → List DV → Bool) (a : DV) (k : Nat) (P : Nat → List DV → Nat → Int) (f g : Nat → Int) : startS aeC (evR ok k P) 87 4 Try.f87 (some 0) (s87 k f 3 4 ((3 : Nat) : Int) g (H30 a k f (x : Int) .ready none)) (roundD aeC 87 4 0) = R30 ok a k P f g 3 x := by
  have h : x = 0 ∨ x = 1 ∨ x = 2 ∨ x = 3 ∨ x = 4 ∨ x = 5 ∨ x = 6 ∨ x = 7 ∨ x = 8 ∨ x = 9 ∨ x = 10 := by omega
  rcases h with rfl | rfl | rfl | rfl | rfl | rfl | rfl | rfl | rfl | rfl | rfl
  · exact t87_30_3_0 ok a k P f g
  · exact t87_30_3_1 ok a k P f g
  · exact t87_30_3_2 ok a k P f g
  · exact t87_30_3_3 ok a k P f g
  · exact t87_30_3_4 ok a k P f g
  · exact t87_30_3_5 ok a k P f g
  · exact t87_30_3_6 ok a k P f g
  · exact t87_30_3_7 ok a k P f g
  · exact t87_30_3_8 ok a k P f g
  · exact t87_30_3_9 ok a k P f g
  · exact t87_30_3_10 ok a k P f g
theorem t87_30_4 {x : Nat} (hx : x ≤ 10) (ok : Nat → List DV → Bool) (a : DV) (k : Nat) (P : Nat → List DV → Nat → Int) (f g : Nat → Int) : startS aeC (evR ok k P) 87 4 Try.f87 (some 0) (s87 k f 3 4 ((4 : Nat) : Int) g (H30 a k f (x : Int) .ready none)) (roundD aeC 87 4 0) = R30 ok a k P f g 4 x := by
  have h : x = 0 ∨ x = 1 ∨ x = 2 ∨ x = 3 ∨ x = 4 ∨ x = 5 ∨ x = 6 ∨ x = 7 ∨ x = 8 ∨ x = 9 ∨ x = 10 := by omega
  rcases h with rfl | rfl | rfl | rfl | rfl | rfl | rfl | rfl | rfl | rfl | rfl
  · exact t87_30_4_0 ok a k P f g
  · exact t87_30_4_1 ok a k P f g
  · exact t87_30_4_2 ok a k P f g
  · exact t87_30_4_3 ok a k P f g
  · exact t87_30_4_4 ok a k P f g
  · exact t87_30_4_5 ok a k P f g
  · exact t87_30_4_6 ok a k P f g
  · exact t87_30_4_7 ok a k P f g
  · exact t87_30_4_8 ok a k P f g
  · exact t87_30_4_9 ok a k P f g
  · exact t87_30_4_10 ok a k P f g
theorem t87_30_5 {x : Nat} (hx : x ≤ 10) (ok : Nat → List DV → Bool) (a : DV) (k : Nat) (P : Nat → List DV → Nat → Int) (f g : Nat → Int) : startS aeC (evR ok k P) 87 4 Try.f87 (some 0) (s87 k f 3 4 ((5 : Nat) : Int) g (H30 a k f (x : Int) .ready none)) (roundD aeC 87 4 0) = R30 ok a k P f g 5 x := by
  have h : x = 0 ∨ x = 1 ∨ x = 2 ∨ x = 3 ∨ x = 4 ∨ x = 5 ∨ x = 6 ∨ x = 7 ∨ x = 8 ∨ x = 9 ∨ x = 10 := by omega
  rcases h with rfl | rfl | rfl | rfl | rfl | rfl | rfl | rfl | rfl | rfl | rfl
  · exact t87_30_5_0 ok a k P f g
  · exact t87_30_5_1 ok a k P f g
  · exact t87_30_5_2 ok a k P f g
  · exact t87_30_5_3 ok a k P f g
  · exact t87_30_5_4 ok a k P f g
  · exact t87_30_5_5 ok a k P f g
  · exact t87_30_5_6 ok a k P f g
  · exact t87_30_5_7 ok a k P f g
  · exact t87_30_5_8 ok a k P f g
  · exact t87_30_5_9 ok a k P f g
  · exact t87_30_5_10 ok a k P f g
theorem t87_30_6 {x : Nat} (hx : x ≤ 10) (ok : Nat → List DV → Bool) (a : DV) (k : Nat) (P : Nat → List DV → Nat → Int) (f g : Nat → Int) : startS aeC (evR ok k P) 87 4 Try.f87 (some 0) (s87 k f 3 4 ((6 : Nat) : Int) g (H30 a k f (x : Int) .ready none)) (roundD aeC 87 4 0) = R30 ok a k P f g 6 x := by
  have h : x = 0 ∨ x = 1 ∨ x = 2 ∨ x = 3 ∨ x = 4 ∨ x = 5 ∨ x = 6 ∨ x = 7 ∨ x = 8 ∨ x = 9 ∨ x = 10 := by omega
  rcases h with rfl | rfl | rfl | rfl | rfl | rfl | rfl | rfl | rfl | rfl | rfl
  · exact t87_30_6_0 ok a k P f g
  · exact t87_30_6_1 ok a k P f g
  · exact t87_30_6_2 ok a k P f g
  · exact t87_30_6_3 ok a k P f g
  · exact t87_30_6_4 ok a k P f g
  · exact t87_30_6_5 ok a k P f g
  · exact t87_30_6_6 ok a k P f g
  · exact t87_30_6_7 ok a k P f g
  · exact t87_30_6_8 ok a k P f g
  · exact t87_30_6_9 ok a k P f g
  · exact t87_30_6_10 ok a k P f g
theorem t87_30_7 {x : Nat} (hx : x ≤ 10) (ok : Nat → List DV → Bool) (a : DV) (k : Nat) (P : Nat → List DV → Nat → Int) (f g : Nat → Int) : startS aeC (evR ok k P) 87 4 Try.f87 (some 0) (s87 k f 3 4 ((7 : Nat) : Int) g (H30 a k f (x : Int) .ready none)) (roundD aeC 87 4 0) = R30 ok a k P f g 7 x := by
  have h : x = 0 ∨ x = 1 ∨ x = 2 ∨ x = 3 ∨ x = 4 ∨ x = 5 ∨ x = 6 ∨ x = 7 ∨ x = 8 ∨ x = 9 ∨ x = 10 := by omega
  rcases h with rfl | rfl | rfl | rfl | rfl | rfl | rfl | rfl | rfl | rfl | rfl
  · exact t87_30_7_0 ok a k P f g
  · exact t87_30_7_1 ok a k P f g
  · exact t87_30_7_2 ok a k P f g
  · exact t87_30_7_3 ok a k P f g
  · exact t87_30_7_4 ok a k P f g
  · exact t87_30_7_5 ok a k P f g
  · exact t87_30_7_6 ok a k P f g
  · exact t87_30_7_7 ok a k P f g
  · exact t87_30_7_8 ok a k P f g
  · exact t87_30_7_9 ok a k P f g
  · exact t87_30_7_10 ok a k P f g
theorem t87_30_8 {x : Nat} (hx : x ≤ 10) (ok : Nat → List DV → Bool) (a : DV) (k : Nat) (P : Nat → List DV → Nat → Int) (f g : Nat → Int) : startS aeC (evR ok k P) 87 4 Try.f87 (some 0) (s87 k f 3 4 ((8 : Nat) : Int) g (H30 a k f (x : Int) .ready none)) (roundD aeC 87 4 0) = R30 ok a k P f g 8 x := by
  have h : x = 0 ∨ x = 1 ∨ x = 2 ∨ x = 3 ∨ x = 4 ∨ x = 5 ∨ x = 6 ∨ x = 7 ∨ x = 8 ∨ x = 9 ∨ x = 10 := by omega
  rcases h with rfl | rfl | rfl | rfl | rfl | rfl | rfl | rfl | rfl | rfl | rfl
  · exact t87_30_8_0 ok a k P f g
  · exact t87_30_8_1 ok a k P f g
  · exact t87_30_8_2 ok a k P f g
  · exact t87_30_8_3 ok a k P f g
  · exact t87_30_8_4 ok a k P f g
  · exact t87_30_8_5 ok a k P f g
  · exact t87_30_8_6 ok a k P f g
  · exact t87_30_8_7 ok a k P f g
  · exact t87_30_8_8 ok a k P f g
  · exact t87_30_8_9 ok a k P f g
  · exact t87_30_8_10 ok a k P f g
theorem t87_30_9 {x : Nat} (hx : x ≤ 10) (ok : Nat → List DV → Bool) (a : DV) (k : Nat) (P : Nat → List DV → Nat → Int) (f g : Nat → Int) : startS aeC (evR ok k P) 87 4 Try.f87 (some 0) (s87 k f 3 4 ((9 : Nat) : Int) g (H30 a k f (x : Int) .ready none)) (roundD aeC 87 4 0) = R30 ok a k P f g 9 x := by
  have h : x = 0 ∨ x = 1 ∨ x = 2 ∨ x = 3 ∨ x = 4 ∨ x = 5 ∨ x = 6 ∨ x = 7 ∨ x = 8 ∨ x = 9 ∨ x = 10 := by omega
  rcases h with rfl | rfl | rfl | rfl | rfl | rfl | rfl | rfl | rfl | rfl | rfl
  · exact t87_30_9_0 ok a k P f g
  · exact t87_30_9_1 ok a k P f g
  · exact t87_30_9_2 ok a k P f g
  · exact t87_30_9_3 ok a k P f g
  · exact t87_30_9_4 ok a k P f g
  · exact t87_30_9_5 ok a k P f g
  · exact t87_30_9_6 ok a k P f g
  · exact t87_30_9_7 ok a k P f g
  · exact t87_30_9_8 ok a k P f g
  · exact t87_30_9_9 ok a k P f g
  · exact t87_30_9_10 ok a k P f g
theorem t87_30_10 {x : Nat} (hx : x ≤ 10) (ok : Nat → List DV → Bool) (a : DV) (k : Nat) (P : Nat → List DV → Nat → Int) (f g : Nat → Int) : startS aeC (evR ok k P) 87 4 Try.f87 (some 0) (s87 k f 3 4 ((10 : Nat) : Int) g (H30 a k f (x : Int) .ready none)) (roundD aeC 87 4 0) = R30 ok a k P f g 10 x := by
  have h : x = 0 ∨ x = 1 ∨ x = 2 ∨ x = 3 ∨ x = 4 ∨ x = 5 ∨ x = 6 ∨ x = 7 ∨ x = 8 ∨ x = 9 ∨ x = 10 := by omega
  rcases h with rfl | rfl | rfl | rfl | rfl | rfl | rfl | rfl | rfl | rfl | rfl
  · exact t87_30_10_0 ok a k P f g
  · exact t87_30_10_1 ok a k P f g
  · exact t87_30_10_2 ok a k P f g
  · exact t87_30_10_3 ok a k P f g
  · exact t87_30_10_4 ok a k P f g
  · exact t87_30_10_5 ok a k P f g
  · exact t87_30_10_6 ok a k P f g
  · exact t87_30_10_7 ok a k P f g
  · exact t87_30_10_8 ok a k P f g
  · exact t87_30_10_9 ok a k P f g
  · exact t87_30_10_10 ok a k P f g
theorem t87_30_11 {x : Nat} (hx : x ≤ 10) (ok : Nat → List DV → Bool) (a : DV) (k : Nat) (P : Nat → List DV → Nat → Int) (f g : Nat → Int) : startS aeC (evR ok k P) 87 4 Try.f87 (some 0) (s87 k f 3 4 ((11 : Nat) : Int) g (H30 a k f (x : Int) .ready none)) (roundD aeC 87 4 0) = R30 ok a k P f g 11 x := by
  have h : x = 0 ∨ x = 1 ∨ x = 2 ∨ x = 3 ∨ x = 4 ∨ x = 5 ∨ x = 6 ∨ x = 7 ∨ x = 8 ∨ x = 9 ∨ x = 10 := by omega
  rcases h with rfl | rfl | rfl | rfl | rfl | rfl | rfl | rfl | rfl | rfl | rfl
  · exact t87_30_11_0 ok a k P f g
  · exact t87_30_11_1 ok a k P f g
  · exact t87_30_11_2 ok a k P f g
  · exact t87_30_11_3 ok a k P f g
  · exact t87_30_11_4 ok a k P f g
  · exact t87_30_11_5 ok a k P f g
  · exact t87_30_11_6 ok a k P f g
  · exact t87_30_11_7 ok a k P f g
  · exact t87_30_11_8 ok a k P f g
  · exact t87_30_11_9 ok a k P f g
  · exact t87_30_11_10 ok a k P f g
theorem t87_30 {n x : Nat} (hn : n ≤ 11) (hx : x ≤ 10) (ok : Nat → List DV → Bool) (a : DV) (k : Nat) (P : Nat → List DV → Nat → Int) (f g : Nat → Int) : startS aeC (evR ok k P) 87 4 Try.f87 (some 0) (s87 k f 3 4 (n : Int) g (H30 a k f (x : Int) .ready none)) (roundD aeC 87 4 0) = R30 ok a k P f g n x := by
  have h : n = 0 ∨ n = 1 ∨ n = 2 ∨ n = 3 ∨ n = 4 ∨ n = 5 ∨ n = 6 ∨ n = 7 ∨ n = 8 ∨ n = 9 ∨ n = 10 ∨ n = 11 := by omega
  rcases h with rfl | rfl | rfl | rfl | rfl | rfl | rfl | rfl | rfl | rfl | rfl | rfl
  · exact t87_30_0 hx ok a k P f g
  · exact t87_30_1 hx ok a k P f g
  · exact t87_30_2 hx ok a k P f g
  · exact t87_30_3 hx ok a k P f g
  · exact t87_30_4 hx ok a k P f g
  · exact t87_30_5 hx ok a k P f g
  · exact t87_30_6 hx ok a k P f g
  · exact t87_30_7 hx ok a k P f g
  · exact t87_30_8 hx ok a k P f g
  · exact t87_30_9 hx ok a k P f g
  · exact t87_30_10 hx ok a k P f g
  · exact t87_30_11 hx ok a k P f g
theorem c60_2 (g : Nat → Int) : PureOK Try.prog 60 [.agg (mx25 2 g)] (iD (trF 2 g 2)) := walkA (by kernel_rfl : tget aeF 60 = some Try.f60) (by kernel_rfl)
theorem c60_3 (g : Nat → Int) : PureOK Try.prog 60 [.agg (mx25 3 g)] (iD (trF 3 g 3)) := walkA (by kernel_rfl : tget aeF 60 = some Try.f60) (by kernel_rfl)
theorem c60_4 (g : Nat → Int) : PureOK Try.prog 60 [.agg (mx25 4 g)] (iD (trF 4 g 4)) := walkA (by kernel_rfl : tget aeF 60 = some Try.f60) (by kernel_rfl)
theorem c60_5 (g : Nat → Int) : PureOK Try.prog 60 [.agg (mx25 5 g)] (iD (trF 5 g 5)) := walkA (by kernel_rfl : tget aeF 60 = some Try.f60) (by kernel_rfl)
section
variable {k : Nat}
theorem px60 (h1 : 1 ≤ k) (h5 : k ≤ 5) (g : Nat → Int) : PX k 60 [.agg (mx25 k g)] 0 = trF k g k := by
  rcases five h1 h5 with rfl | rfl | rfl | rfl | rfl
  · kernel_rfl
  · kernel_rfl
  · kernel_rfl
  · kernel_rfl
  · kernel_rfl
theorem c60 (h1 : 1 ≤ k) (h5 : k ≤ 5) (g : Nat → Int) : PureOK Try.prog 60 [.agg (mx25 k g)] (iD (trF k g k)) := by
  rcases five h1 h5 with rfl | rfl | rfl | rfl | rfl
  · exact c60_1 g
  · exact c60_2 g
  · exact c60_3 g
  · exact c60_4 g
  · exact c60_5 g
theorem x60 (h1 : 1 ≤ k) (h5 : k ≤ 5) (g : Nat → Int) : okX' k 60 [.agg (mx25 k g)] = true := okS_is (by
  show PureOK Try.prog 60 _ (iD (PX k 60 _ 0))
  rw [px60 h1 h5]; exact c60 h1 h5 g)
/-- Whether there is a round trip of a length. -/
def ringB (k : Nat) (f : Nat → Int) (n : Nat) : Bool := (List.range k).any fun i => reach k f i n i
theorem trF_ok (h5 : k ≤ 5) (f : Nat → Int) (n : Nat) : ∀ t : Nat, t ≤ k → 0 ≤ trF k (bF k f n) t ∧ trF k (bF k f n) t ≤ t ∧ (0 < trF k (bF k f n) t ↔ ∃ i, i < t ∧ reach k f i n i = true)
  | 0, _ => ⟨Int.le_refl _, Int.le_refl _, by simp [trF]⟩
  | t + 1, ht => by
    obtain ⟨i1, i2, i3⟩ := trF_ok h5 f n t (by omega)
    have hx := idx5 (i := t) (show t < 5 by omega)
    have hk : inK k (5 * t + t) = true := inK_iff.2 ⟨by omega, by omega⟩
    have hb : bF k f n (6 * t) = bif reach k f t n t then 1 else 0 := by
      rw [show 6 * t = 5 * t + t by omega]
      unfold bF
      rw [hk, hx.1, hx.2, Bool.true_and]
    have hb2 : 0 ≤ bF k f n (6 * t) ∧ bF k f n (6 * t) ≤ 1 := bF_b k f n _
    have e : trF k (bF k f n) (t + 1) = trF k (bF k f n) t + bF k f n (6 * t) := by
      show IntKind.wrap .i64 (trF k (bF k f n) t + bF k f n (6 * t)) = _
      rw [wrap64_o (by omega) (by omega)]
    rw [e]
    refine ⟨by omega, by omega, ?_⟩
    constructor
    · intro h
      by_cases hz : 0 < trF k (bF k f n) t
      · obtain ⟨i, h1, h2⟩ := i3.1 hz
        exact ⟨i, by omega, h2⟩
      · cases hr : reach k f t n t with
        | true => exact ⟨t, by omega, hr⟩
        | false => rw [hr] at hb; simp only [cond_false] at hb; omega
    · rintro ⟨i, h1, h2⟩
      rcases Nat.lt_or_ge i t with q | q
      · have := i3.2 ⟨i, q, h2⟩; omega
      · have : i = t := by omega
        subst this
        rw [h2] at hb; simp only [cond_true] at hb; omega
theorem ring_tr (h5 : k ≤ 5) (f : Nat → Int) (n : Nat) : decide (0 < trF k (bF k f n) k) = ringB k f n := by
  have := (trF_ok h5 f n k (Nat.le_refl _)).2.2
  rw [Bool.eq_iff_iff, decide_eq_true_eq, this]
  simp [ringB, List.any_eq_true, List.mem_range]
/-- The greatest common divisor of lengths of round trips. -/
def gS (k : Nat) (f : Nat → Int) : Nat → Nat
  | 0 => 0
  | n + 1 => bif ringB k f n then Nat.gcd (gS k f n) n else gS k f n
theorem gS_le (k : Nat) (f : Nat → Int) : ∀ n, n ≤ 11 → gS k f n ≤ 10
  | 0, _ => Nat.zero_le _
  | n + 1, h => by
    have ih := gS_le k f n (by omega)
    unfold gS
    cases ringB k f n with
    | false => exact ih
    | true =>
      simp only [cond_true]
      rcases Nat.eq_zero_or_pos (gS k f n) with q | q
      · rw [q, Nat.gcd_zero_left]; omega
      · have := Nat.gcd_le_left n q; omega
theorem loop30 (h1 : 1 ≤ k) (h5 : k ≤ 5) {f : Nat → Int} (hf : ∀ i < 25, 0 ≤ f i ∧ f i ≤ 9) (a : DV) : ∀ (t n : Nat), n + t = 2 * k + 1 →
    LoopAt aeC (evR (okX' k) k (PX k)) 87 4 Try.f87 0 (s87 k f 3 4 n (bF k f n) (H30 a k f (gS k f n : Nat) .ready none)) (.exit 0) ⟨[], H30 a k f (gS k f (2 * k + 1) : Nat) .done (some (.exit 0)), []⟩
  | 0, n, hn => by
    have : n = 2 * k + 1 := by omega
    subst this
    refine .out k87_0 (by simp) ((t87_30 (by omega) (gS_le k f _ (by omega)) ..).trans ?_)
    unfold R30
    rw [wrap64_o (by omega) (by omega)]
    exact cnd_pos (by omega)
  | t + 1, n, hn => by
    refine .next k87_0 ((t87_30 (by omega) (gS_le k f _ (by omega)) ..).trans ?_) (loop30 h1 h5 hf a t (n + 1) (by omega))
    unfold R30
    rw [wrap64_o (n := 2 * (k : Int)) (by omega) (by omega)]
    refine (cnd_neg (by omega)).trans ((cond_is' (x60 h1 h5 _)).trans ?_)
    rw [px60 h1 h5, ring_tr h5]
    show _ = some (Ex.norm, s87 k f 3 4 ((n + 1 : Nat) : Int) (bF k f (n + 1)) (H30 a k f ((bif ringB k f n then Nat.gcd (gS k f n) n else gS k f n : Nat) : Int) .ready none))
    cases ringB k f n with
    | false => exact nx87_ok h1 h5 hf 3 4 n (by omega) _
    | true => exact nx87_ok h1 h5 hf 3 4 n (by omega) _
def beatD (k : Nat) (f : Nat → Int) : DV := bif hangsB k f then .tup [iD (gS k f (2 * k + 1) : Nat), iD 0] else .tup [iD 0, iD 4]
theorem c30 {M : List (List Int)} (hM : matB k M) (h1 : 1 ≤ k) (h5 : k ≤ 5) : PureOK Try.prog 30 [matD M] (beatD k (fM M)) := by
  have hf : ∀ i < 25, 0 ≤ fM M i ∧ fM M i ≤ 9 := fun i _ => fM_b hM i
  have h73 := c73 h1 h5 hf
  have h61 : PureOK Try.prog 61 [matD M] (.tup [.agg (mx25 k (fM M)), iD 0]) := by rw [← mtx_mx hM h1 h5]; exact c61 hM h1 h5
  unfold beatD
  cases hb : hangsB k (fM M) with
  | false =>
    rw [hb] at h73
    have g61 : okS (i30 k (fM M) false) 61 [matD M] = true := okS_is h61
    have g73 : okS (i30 k (fM M) false) 73 [.agg (mx25 k (fM M))] = true := okS_is h73
    have hE : EvOK Try.prog (ev30 (okS (i30 k (fM M) false)) k (fM M) false []) :=
      ⟨(evT_ok (i30 k (fM M) false)).pure, (evK_ok (P := Try.prog) (L := []) (F := []) trivial trivial).fn, (evK_ok (P := Try.prog) (L := []) (F := []) trivial trivial).calm, (evT_ok (i30 k (fM M) false)).round⟩
    exact ae_pure hE (fn := Try.f30) k30 (by kernel_rfl) (by kernel_rfl) (startF_done k30 done_plain ((t30f ..).trans ((cond_is' g61).trans (cond_is' g73))))
  | true =>
    rw [hb] at h73
    have hh := (h87_30 (okX' k) (matD M) k (PX k) (fM M) 0).trans (cond_is' (x66 h1 h5))
    have hu : s87 k (fM M) 3 4 0 (PX k 66 [iD k]) (H30 (matD M) k (fM M) 0 .ready none) = s87 k (fM M) 3 4 0 (bF k (fM M) 0) (H30 (matD M) k (fM M) 0 .ready none) := by
      unfold s87
      rw [show mx25 k (PX k 66 [iD k]) = mx25 k (bF k (fM M) 0) from unit_bF k (fM M)]
    rw [hu] at hh
    have hc : CallOK Try.prog 87 [.yld 3, .d (.ptr (mx25 k (fM M)) 0)] (H30 (matD M) k (fM M) 0 .ready none) (.d (.tup [])) (H30 (matD M) k (fM M) (gS k (fM M) (2 * k + 1) : Nat) .done (some (.exit 0))) :=
      ae_call (evR_ok k) (fn := Try.f87) k87 (by kernel_rfl) (by kernel_rfl) ((startF_seg k87 hh (loop30 h1 h5 hf (matD M) (2 * k + 1) 0 (by omega))).trans (nextF_done k87 done_plain (e87_30 ..)))
    let q : List AV → List Blk → Bool := fun xs h => isP (CallOK Try.prog 87 xs h (.d (.tup [])) (H30 (matD M) k (fM M) (gS k (fM M) (2 * k + 1) : Nat) .done (some (.exit 0))))
    have hF : RulesFOK Try.prog [(87, fun xs h => .node (q xs h) (.leaf (.d (.tup []), H30 (matD M) k (fM M) (gS k (fM M) (2 * k + 1) : Nat) .done (some (.exit 0)))) .fail)] := ⟨fun xs h v h' e => by
      simp only [Tr.val] at e
      obtain ⟨c, e⟩ := cond_none e
      cases e; exact isP_iff.1 c, trivial⟩
    have hE : EvOK Try.prog (ev30 (okS (i30 k (fM M) true)) k (fM M) true [(87, fun xs h => .node (q xs h) (.leaf (.d (.tup []), H30 (matD M) k (fM M) (gS k (fM M) (2 * k + 1) : Nat) .done (some (.exit 0)))) .fail)]) :=
      ⟨(evT_ok (i30 k (fM M) true)).pure, (evK_ok (L := []) (F := _) trivial hF).fn, (evK_ok (L := []) (F := _) trivial hF).calm, (evT_ok (i30 k (fM M) true)).round⟩
    have hq : q [.yld 3, .d (.ptr (mx25 k (fM M)) 0)] (H30 (matD M) k (fM M) 0 .ready none) = true := isP_iff.2 hc
    have g61 : okS (i30 k (fM M) true) 61 [matD M] = true := okS_is h61
    have g73 : okS (i30 k (fM M) true) 73 [.agg (mx25 k (fM M))] = true := okS_is h73
    have g74 : okS (i30 k (fM M) true) 74 [.agg (mx25 k (fM M))] = true := okS_is (c74 k (fM M))
    exact ae_pure hE (fn := Try.f30) k30 (by kernel_rfl) (by kernel_rfl) (startF_done k30 done_plain ((t30 ..).trans ((cond_is' g61).trans ((cond_is' g73).trans ((cond_is' g74).trans (cond_is' hq))))))
end
end Go.Proofs.Ytjfopbpkophoeaa

/- Chapter 06: the document's Hangs (33), Beat (34), Mixes (32), gcd (71). -/
namespace Go.Proofs.Ytjfopbpkophoeaa
open Go Go.AE
set_option maxRecDepth 100000
def S76 (M : List (List Int)) (ds : List DV) : Int := match ds with
  | [_, .int _ a, .int _ b] => (setN M.length (fM M) a.toNat b.toNat : Nat)
  | _ => 0
def SG (M : List (List Int)) (f : Nat) (ds : List DV) : Int := bif Nat.beq f 71 then (match ds with
  | [.int _ a, .int _ b] => (Nat.gcd a.toNat b.toNat : Nat)
  | _ => 0) else S76 M ds
noncomputable abbrev okG (M : List (List Int)) : Nat → List DV → Bool := okS fun f ds => iD (SG M f ds)
noncomputable def evG (ok : Nat → List DV → Bool) (S : Nat → List DV → Int) : Ev := evT ok fun f ds => iD (S f ds)
/-! ### gcd -/
theorem t71_h (a b : Int) : startS aeC Ev.nil 71 0 Try.f71 none ⟨envOf 0 [.d (iD a), .d (iD b)], [], []⟩ (heldD aeC 71 0) = some (0, ⟨[(0, .d (iD a)), (1, .d (iD b))], [], []⟩) := by kernel_rfl
theorem t71_0 (a b : Int) : startS aeC Ev.nil 71 0 Try.f71 (some 0) ⟨[(0, .d (iD a)), (1, .d (iD b))], [], []⟩ (roundD aeC 71 0 0) = bif !decide (b = 0) then (bif decide (b = 0) then none else some (Ex.norm, ⟨[(0, .d (iD b)), (1, .d (iD (Int.tmod a b)))], [], []⟩)) else some (Ex.exit 0, ⟨[(0, .d (iD a))], [], []⟩) := by kernel_rfl
theorem t71_e (a : Int) : nextS aeC Ev.nil 71 0 Try.f71 none 0 (.exit 0) ⟨[(0, .d (iD a))], [], []⟩ (doneE aeC Try.f71 0 fun v h => freezeV h 4 v) = some (iD (if IntKind.wrap IntKind.i64 (0 - a) > a then IntKind.wrap IntKind.i64 (0 - a) else a)) := by kernel_rfl
theorem k71 : OkSeg Try.f71 none [0] := ⟨by kernel_rfl, by kernel_rfl, by decide⟩
theorem k71_0 : OkSeg Try.f71 (some 0) [] := ⟨by kernel_rfl, by kernel_rfl, by decide⟩
theorem loop71 : ∀ (b a : Nat), LoopAt aeC Ev.nil 71 0 Try.f71 0 ⟨[(0, .d (iD (a : Int))), (1, .d (iD (b : Int)))], [], []⟩ (.exit 0) ⟨[(0, .d (iD ((Nat.gcd a b : Nat) : Int)))], [], []⟩ := by
  intro b
  induction b using Nat.strongRecOn with
  | ind b ih =>
    intro a
    rcases Nat.eq_zero_or_pos b with h | h
    · subst h
      rw [Nat.gcd_zero_right]
      exact .out k71_0 (by simp) (t71_0 ..)
    · have hl := ih (a % b) (Nat.mod_lt a h) b
      have e : Nat.gcd b (a % b) = Nat.gcd a b := by rw [Nat.gcd_comm a b, Nat.gcd_rec b a, Nat.gcd_comm]
      rw [e] at hl
      refine .next k71_0 ((t71_0 ..).trans ?_) hl
      rw [decide_eq_false (show ¬ (b : Int) = 0 by omega)]
      rfl
theorem c71 {a b : Nat} (h : Nat.gcd a b ≤ 1000) : PureOK Try.prog 71 [iD (a : Int), iD (b : Int)] (iD ((Nat.gcd a b : Nat) : Int)) := by
  refine ae_pure EvOK.nil (fn := Try.f71) k71 (by kernel_rfl) (by kernel_rfl) ((startF_seg k71 (t71_h ..) (loop71 b a)).trans (nextF_done k71 done_plain ((t71_e ..).trans ?_)))
  rw [wrap64_o (by omega) (by omega), if_neg (by omega)]
section
variable {k : Nat} {M : List (List Int)}
theorem sg76 (hM : matB k M) (a b : Nat) : SG M 76 [matD M, iD (a : Int), iD (b : Int)] = (setN k (fM M) a b : Nat) := by
  show ((setN M.length (fM M) ((a : Int)).toNat ((b : Int)).toNat : Nat) : Int) = _
  rw [hM.1, Int.toNat_natCast, Int.toNat_natCast]
theorem gg76 (hM : matB k M) (h5 : k ≤ 5) {a b : Nat} (ha : a < k) (hb : b ≤ 1000) : okG M 76 [matD M, iD (a : Int), iD (b : Int)] = true := okS_is (by
  rw [sg76 hM]; exact c76 hM h5 ha hb)
theorem gg71 {a b : Nat} (h : Nat.gcd a b ≤ 1000) : okG M 71 [iD (a : Int), iD (b : Int)] = true := okS_is (by
  show PureOK Try.prog 71 _ (iD ((Nat.gcd ((a : Int)).toNat ((b : Int)).toNat : Nat) : Int))
  rw [Int.toNat_natCast, Int.toNat_natCast]; exact c71 h)
theorem sg71 (a b : Nat) : SG M 71 [iD (a : Int), iD (b : Int)] = ((Nat.gcd a b : Nat) : Int) := by
  show ((Nat.gcd ((a : Int)).toNat ((b : Int)).toNat : Nat) : Int) = _
  rw [Int.toNat_natCast, Int.toNat_natCast]
theorem mask_ok (h5 : k ≤ 5) : IntKind.wrap IntKind.i64 (IntKind.wrap IntKind.i64 (1 * 2 ^ min (Int.toNat (k : Int)) 64) - 1) = ((2 ^ k - 1 : Nat) : Int) := by
  have h : k = 0 ∨ k = 1 ∨ k = 2 ∨ k = 3 ∨ k = 4 ∨ k = 5 := by omega
  rcases h with rfl | rfl | rfl | rfl | rfl | rfl <;> decide +kernel
theorem orN_ok : ∀ a < 32, ∀ b < 32, orI (a : Nat) (b : Nat) = ((a ||| b : Nat) : Int) := by decide +kernel
theorem mask_iff (h5 : k ≤ 5) {N : Nat} (hb : ∀ x, k ≤ x → N.testBit x = false) : N = 2 ^ k - 1 ↔ ∀ x, x < k → N.testBit x = true := by
  constructor
  · rintro rfl x hx
    rw [Nat.testBit_two_pow_sub_one]
    exact decide_eq_true hx
  · intro h
    apply Nat.eq_of_testBit_eq
    intro x
    rw [Nat.testBit_two_pow_sub_one]
    rcases Nat.lt_or_ge x k with q | q
    · rw [h x q, decide_eq_true q]
    · rw [hb x q, decide_eq_false (by omega)]
theorem setN_out {f : Nat → Int} {i : Nat} (hi : i < k) : ∀ n x, k ≤ x → (setN k f i n).testBit x = false
  | 0, x, hx => by
    show (2 ^ i).testBit x = false
    rw [Nat.testBit_two_pow]
    exact decide_eq_false (by omega)
  | n + 1, x, hx => by
    cases h : (setN k f i (n + 1)).testBit x with
    | false => rfl
    | true =>
      have : (accI k f (setN k f i n) k).testBit x = true := h
      obtain ⟨_, _, h2, _⟩ := (accI_bit x k).1 this
      omega
/-! ### Hangs (33) -/
def aN (k : Nat) (f : Nat → Int) (i : Nat) : Nat → Nat
  | 0 => 0
  | t + 1 => aN k f i t ||| setN k f i (t + 1)
theorem aN_lt (h5 : k ≤ 5) (f : Nat → Int) {i : Nat} (hi : i < k) : ∀ t, aN k f i t < 32
  | 0 => by show 0 < 32; decide
  | t + 1 => Nat.or_lt_two_pow (n := 5) (aN_lt h5 f hi t) (setN_lt h5 f hi (t + 1))
theorem aN_bit {f : Nat → Int} {i : Nat} (x : Nat) : ∀ t, (aN k f i t).testBit x = true ↔ ∃ m, 1 ≤ m ∧ m ≤ t ∧ (setN k f i m).testBit x = true
  | 0 => by
    constructor
    · intro h; simp [aN] at h
    · rintro ⟨m, h1, h2, _⟩; omega
  | t + 1 => by
    show (aN k f i t ||| setN k f i (t + 1)).testBit x = true ↔ _
    rw [Nat.testBit_or, Bool.or_eq_true, aN_bit x t]
    constructor
    · rintro (⟨m, h1, h2, h3⟩ | h)
      · exact ⟨m, h1, by omega, h3⟩
      · exact ⟨t + 1, by omega, by omega, h⟩
    · rintro ⟨m, h1, h2, h3⟩
      rcases Nat.lt_or_ge t m with q | q
      · have : m = t + 1 := by omega
        subst this; exact .inr h3
      · exact .inl ⟨m, h1, q, h3⟩
def rowB (k : Nat) (f : Nat → Int) (i : Nat) : Bool := decide (aN k f i k = 2 ^ k - 1)
theorem rowB_iff (h5 : k ≤ 5) {f : Nat → Int} {i : Nat} (hi : i < k) : rowB k f i = true ↔ ∀ j, j < k → ∃ m, 1 ≤ m ∧ m ≤ k ∧ reach k f j m i = true := by
  unfold rowB
  rw [decide_eq_true_eq, mask_iff h5]
  · constructor
    · intro h j hj
      obtain ⟨m, h1, h2, h3⟩ := (aN_bit j k).1 (h j hj)
      exact ⟨m, h1, h2, by rw [← setN_reach m i j hi hj]; exact h3⟩
    · intro h j hj
      obtain ⟨m, h1, h2, h3⟩ := h j hj
      exact (aN_bit j k).2 ⟨m, h1, h2, by rw [setN_reach m i j hi hj]; exact h3⟩
  · intro x hx
    cases h : (aN k f i k).testBit x with
    | false => rfl
    | true =>
      obtain ⟨m, _, _, h3⟩ := (aN_bit x k).1 h
      rw [setN_out hi m x hx] at h3; cases h3
def z33 (A : List DV) (n : Nat) (i : Int) : St := ⟨[(0, .d (DV.sl A n 1 false false)), (3, .d (iD i))], [], []⟩
def z332 (A : List DV) (n : Nat) (i al m : Int) : St := ⟨[(0, .d (DV.sl A n 1 false false)), (3, .d (iD i)), (4, .d (iD al)), (5, .d (iD m))], [], []⟩
def z332x (A : List DV) (n : Nat) (i al : Int) : St := ⟨[(0, .d (DV.sl A n 1 false false)), (3, .d (iD i)), (4, .d (iD al))], [], []⟩
theorem t33_h (ok : Nat → List DV → Bool) (S : Nat → List DV → Int) (A : List DV) (n : Nat) : startS aeC (evG ok S) 33 0 Try.f33 none ⟨envOf 0 [.d (.sl A n 1 false false)], [], []⟩ (heldD aeC 33 0) = some (0, z33 A n 0) := by kernel_rfl
theorem t33_0 (ok : Nat → List DV → Bool) (S : Nat → List DV → Int) (A : List DV) (n : Nat) (i : Int) : startS aeC (evG ok S) 33 0 Try.f33 (some 0) (z33 A n i) (heldD aeC 33 0) = bif decide (i < (n : Int)) then some (2, z332 A n i 0 1) else none := by kernel_rfl
theorem t33_0x (ok : Nat → List DV → Bool) (S : Nat → List DV → Int) (A : List DV) (n : Nat) (i : Int) : startS aeC (evG ok S) 33 0 Try.f33 (some 0) (z33 A n i) (roundD aeC 33 0 0) = bif decide (i < (n : Int)) then none else some (Ex.exit 0, ⟨[], [], []⟩) := by kernel_rfl
theorem t33_2 (ok : Nat → List DV → Bool) (S : Nat → List DV → Int) (A : List DV) (n : Nat) (i al m : Int) : startS aeC (evG ok S) 33 0 Try.f33 (some 2) (z332 A n i al m) (roundD aeC 33 0 2) =
  bif decide (m ≤ (n : Int)) then (bif ok 76 [.sl A n 1 false false, iD i, iD m] then some (Ex.norm, z332 A n i (orI al (S 76 [.sl A n 1 false false, iD i, iD m])) (IntKind.wrap IntKind.i64 (m + 1))) else none) else some (Ex.exit 2, z332x A n i al) := by kernel_rfl
theorem t33_n (ok : Nat → List DV → Bool) (S : Nat → List DV → Int) (A : List DV) (n : Nat) (i al : Int) : nextS aeC (evG ok S) 33 0 Try.f33 (some 0) 2 (.exit 2) (z332x A n i al) (roundD aeC 33 0 0) = bif !decide (al = IntKind.wrap IntKind.i64 (IntKind.wrap IntKind.i64 (1 * 2 ^ min (Int.toNat (n : Int)) 64) - 1)) then some (Ex.ret, ⟨[(2, .d (bD false))], [], []⟩) else some (Ex.norm, z33 A n (IntKind.wrap IntKind.i64 (i + 1))) := by kernel_rfl
theorem t33_e (ok : Nat → List DV → Bool) (S : Nat → List DV → Int) : nextS aeC (evG ok S) 33 0 Try.f33 none 0 (.exit 0) ⟨[], [], []⟩ (doneE aeC Try.f33 0 fun v h => freezeV h 4 v) = some (bD true) := by kernel_rfl
theorem t33_r (ok : Nat → List DV → Bool) (S : Nat → List DV → Int) : nextS aeC (evG ok S) 33 0 Try.f33 none 0 .ret ⟨[(2, .d (bD false))], [], []⟩ (doneE aeC Try.f33 0 fun v h => freezeV h 4 v) = some (bD false) := by kernel_rfl
theorem k33 : OkSeg Try.f33 none [0] := ⟨by kernel_rfl, by kernel_rfl, by decide⟩
theorem k33_0 : OkSeg Try.f33 (some 0) [2] := ⟨by kernel_rfl, by kernel_rfl, by decide⟩
theorem k33_2 : OkSeg Try.f33 (some 2) [] := ⟨by kernel_rfl, by kernel_rfl, by decide⟩
theorem loop332 (hM : matB k M) (h5 : k ≤ 5) {i : Nat} (hi : i < k) : ∀ (t s : Nat), s + t = k →
    LoopAt aeC (evG (okG M) (SG M)) 33 0 Try.f33 2 (z332 (M.map rowD) M.length i (aN k (fM M) i s : Nat) ((s + 1 : Nat) : Int)) (.exit 2) (z332x (M.map rowD) M.length i (aN k (fM M) i k : Nat))
  | 0, s, hs => by
    have : s = k := by omega
    subst this
    exact .out k33_2 (by simp) ((t33_2 ..).trans (cnd_neg (by have := hM.1; omega)))
  | t + 1, s, hs => by
    have hl := hM.1
    refine .next k33_2 ((t33_2 ..).trans ((cnd_pos (by omega)).trans ((cond_is' (gg76 hM h5 hi (b := s + 1) (by omega))).trans ?_))) (loop332 hM h5 hi t (s + 1) (by omega))
    have hs' := sg76 hM i (s + 1)
    unfold matD at hs'
    rw [hs', orN_ok _ (aN_lt h5 _ hi s) _ (setN_lt h5 _ hi (s + 1)), wr1 (by omega)]
    rfl
def rowsB (k : Nat) (f : Nat → Int) (i : Nat) : Nat → Bool
  | 0 => true
  | t + 1 => rowB k f i && rowsB k f (i + 1) t
theorem rowsB_iff (f : Nat → Int) : ∀ (t i : Nat), rowsB k f i t = true ↔ ∀ x, i ≤ x → x < i + t → rowB k f x = true
  | 0, i => by simp only [rowsB, true_iff]; intro x h1 h2; omega
  | t + 1, i => by
    simp only [rowsB, Bool.and_eq_true, rowsB_iff f t (i + 1)]
    constructor
    · rintro ⟨h1, h2⟩ x h3 h4
      rcases Nat.eq_or_lt_of_le h3 with h | h
      · subst h; exact h1
      · exact h2 x h (by omega)
    · intro h
      exact ⟨h i (Nat.le_refl _) (by omega), fun x h1 h2 => h x (by omega) (by omega)⟩
theorem loop330 (hM : matB k M) (h5 : k ≤ 5) : ∀ (t i : Nat), i + t = k →
    LoopAt aeC (evG (okG M) (SG M)) 33 0 Try.f33 0 (z33 (M.map rowD) M.length i) (bif rowsB k (fM M) i t then .exit 0 else .ret) (bif rowsB k (fM M) i t then ⟨[], [], []⟩ else ⟨[(2, .d (bD false))], [], []⟩)
  | 0, i, hi => .out k33_0 (by simp [rowsB]) ((t33_0x ..).trans (cnd_neg (by have := hM.1; omega)))
  | t + 1, i, hi => by
    have hl := hM.1
    have ih := loop330 hM h5 t (i + 1) (by omega)
    have hn := t33_n (okG M) (SG M) (M.map rowD) M.length i (aN k (fM M) i k : Nat)
    rw [wr1 (by omega)] at hn
    have hmk := mask_ok (k := M.length) (by omega)
    rw [hmk] at hn
    have hd : decide (((aN k (fM M) i k : Nat) : Int) = ((2 ^ M.length - 1 : Nat) : Int)) = rowB k (fM M) i := by
      unfold rowB
      rw [hl]
      by_cases h : aN k (fM M) i k = 2 ^ k - 1
      · rw [decide_eq_true h, decide_eq_true (by rw [h])]
      · rw [decide_eq_false h, decide_eq_false (by omega)]
    rw [hd] at hn
    have hseg := startF_seg k33_0 ((t33_0 (okG M) (SG M) (M.map rowD) M.length i).trans (cnd_pos (by omega))) (loop332 hM h5 (show i < k by omega) k 0 (by omega)) (D := roundD aeC 33 0 0)
    cases hb : rowB k (fM M) i with
    | true =>
      rw [hb] at hn
      have e : rowsB k (fM M) i (t + 1) = rowsB k (fM M) (i + 1) t := by show (rowB k (fM M) i && _) = _; rw [hb, Bool.true_and]
      rw [e]
      exact .nextF k33_0 (hseg.trans (nextF_done k33_0 roundD_plain hn)) ih
    | false =>
      rw [hb] at hn
      have e : rowsB k (fM M) i (t + 1) = false := by show (rowB k (fM M) i && _) = _; rw [hb, Bool.false_and]
      rw [e]
      exact .outF k33_0 (by simp) (hseg.trans (nextF_done k33_0 roundD_plain hn))
theorem rows_hangs (h5 : k ≤ 5) (f : Nat → Int) : rowsB k f 0 k = hangsB k f := by
  rw [Bool.eq_iff_iff, rowsB_iff, hangsB_iff h5]
  constructor
  · intro h i j hi hj
    exact (rowB_iff h5 hi).1 (h i (Nat.zero_le _) (by omega)) j hj
  · intro h i _ hi
    exact (rowB_iff h5 (show i < k by omega)).2 fun j hj => h i j (by omega) hj
theorem c33 (hM : matB k M) (h5 : k ≤ 5) : PureOK Try.prog 33 [matD M] (bD (hangsB k (fM M))) := by
  have hl := loop330 hM h5 k 0 (by omega)
  rw [rows_hangs h5] at hl
  refine ae_pure (evT_ok fun f ds => iD (SG M f ds)) (fn := Try.f33) k33 (by kernel_rfl) (by kernel_rfl) ?_
  cases hb : hangsB k (fM M) with
  | true =>
    rw [hb] at hl
    exact (startF_seg k33 (t33_h (okG M) (SG M) (M.map rowD) M.length) hl).trans (nextF_done k33 done_plain (t33_e ..))
  | false =>
    rw [hb] at hl
    exact (startF_seg k33 (t33_h (okG M) (SG M) (M.map rowD) M.length) hl).trans (nextF_done k33 done_plain (t33_r ..))
end
end Go.Proofs.Ytjfopbpkophoeaa

/- Chapter 06: the document's Beat (34) and Mixes (32). -/
namespace Go.Proofs.Ytjfopbpkophoeaa
open Go Go.AE
set_option maxRecDepth 100000
section
variable {k : Nat} {M : List (List Int)}
/-! ### Beat (34) -/
def z34 (A : List DV) (n : Nat) (g i : Int) : St := ⟨[(0, .d (DV.sl A n 1 false false)), (3, .d (iD g)), (4, .d (iD i))], [], []⟩
def z342 (A : List DV) (n : Nat) (g i m : Int) : St := ⟨[(0, .d (DV.sl A n 1 false false)), (3, .d (iD g)), (4, .d (iD i)), (5, .d (iD m))], [], []⟩
theorem t34_h (ok : Nat → List DV → Bool) (S : Nat → List DV → Int) (A : List DV) (n : Nat) : startS aeC (evG ok S) 34 0 Try.f34 none ⟨envOf 0 [.d (.sl A n 1 false false)], [], []⟩ (heldD aeC 34 0) = some (0, z34 A n 0 0) := by kernel_rfl
theorem t34_0 (ok : Nat → List DV → Bool) (S : Nat → List DV → Int) (A : List DV) (n : Nat) (g i : Int) : startS aeC (evG ok S) 34 0 Try.f34 (some 0) (z34 A n g i) (heldD aeC 34 0) = bif decide (i < (n : Int)) then some (2, z342 A n g i 1) else none := by kernel_rfl
theorem t34_0x (ok : Nat → List DV → Bool) (S : Nat → List DV → Int) (A : List DV) (n : Nat) (g i : Int) : startS aeC (evG ok S) 34 0 Try.f34 (some 0) (z34 A n g i) (roundD aeC 34 0 0) = bif decide (i < (n : Int)) then none else some (Ex.exit 0, ⟨[(3, .d (iD g))], [], []⟩) := by kernel_rfl
theorem t34_2 (ok : Nat → List DV → Bool) (S : Nat → List DV → Int) (A : List DV) (n : Nat) (g m : Int) (i : Nat) : startS aeC (evG ok S) 34 0 Try.f34 (some 2) (z342 A n g i m) (roundD aeC 34 0 2) =
  bif decide (m ≤ IntKind.wrap IntKind.i64 (2 * (n : Int))) then (bif ok 76 [.sl A n 1 false false, iD (i : Int), iD m] then (bif decide ((i : Int) < 0) then none else
    bif decide (bitT (S 76 [.sl A n 1 false false, iD (i : Int), iD m]) i = 1) then (bif ok 71 [iD g, iD m] then some (Ex.norm, z342 A n (S 71 [iD g, iD m]) i (IntKind.wrap IntKind.i64 (m + 1))) else none) else some (Ex.norm, z342 A n g i (IntKind.wrap IntKind.i64 (m + 1)))) else none) else some (Ex.exit 2, z34 A n g i) := by kernel_rfl
theorem t34_n (ok : Nat → List DV → Bool) (S : Nat → List DV → Int) (A : List DV) (n : Nat) (g i : Int) : nextS aeC (evG ok S) 34 0 Try.f34 (some 0) 2 (.exit 2) (z34 A n g i) (roundD aeC 34 0 0) = some (Ex.norm, z34 A n g (IntKind.wrap IntKind.i64 (i + 1))) := by kernel_rfl
theorem t34_e (ok : Nat → List DV → Bool) (S : Nat → List DV → Int) (g : Int) : nextS aeC (evG ok S) 34 0 Try.f34 none 0 (.exit 0) ⟨[(3, .d (iD g))], [], []⟩ (doneE aeC Try.f34 0 fun v h => freezeV h 4 v) = some (iD g) := by kernel_rfl
theorem k34 : OkSeg Try.f34 none [0] := ⟨by kernel_rfl, by kernel_rfl, by decide⟩
theorem k34_0 : OkSeg Try.f34 (some 0) [2] := ⟨by kernel_rfl, by kernel_rfl, by decide⟩
theorem k34_2 : OkSeg Try.f34 (some 2) [] := ⟨by kernel_rfl, by kernel_rfl, by decide⟩
def gI (k : Nat) (f : Nat → Int) (i g : Nat) : Nat → Nat
  | 0 => g
  | t + 1 => bif reach k f i (t + 1) i then Nat.gcd (gI k f i g t) (t + 1) else gI k f i g t
def gO (k : Nat) (f : Nat → Int) : Nat → Nat
  | 0 => 0
  | i + 1 => gI k f i (gO k f i) (2 * k)
theorem gI_le {f : Nat → Int} {i g : Nat} (hg : g ≤ 10) : ∀ t, t ≤ 10 → gI k f i g t ≤ 10
  | 0, _ => hg
  | t + 1, h => by
    have ih := gI_le (f := f) (i := i) hg t (by omega)
    unfold gI
    cases reach k f i (t + 1) i with
    | false => exact ih
    | true =>
      simp only [cond_true]
      have := Nat.gcd_le_right (n := t + 1) (gI k f i g t) (by omega)
      omega
theorem gO_le (h5 : k ≤ 5) (f : Nat → Int) : ∀ i, gO k f i ≤ 10
  | 0 => Nat.zero_le _
  | i + 1 => gI_le (gO_le h5 f i) (2 * k) (by omega)
theorem loop342 (hM : matB k M) (h5 : k ≤ 5) {i g : Nat} (hi : i < k) (hg : g ≤ 10) : ∀ (t s : Nat), s + t = 2 * k →
    LoopAt aeC (evG (okG M) (SG M)) 34 0 Try.f34 2 (z342 (M.map rowD) M.length (gI k (fM M) i g s : Nat) i ((s + 1 : Nat) : Int)) (.exit 2) (z34 (M.map rowD) M.length (gI k (fM M) i g (2 * k) : Nat) i)
  | 0, s, hs => by
    have : s = 2 * k := by omega
    subst this
    refine .out k34_2 (by simp) ((t34_2 ..).trans ?_)
    have hl := hM.1
    rw [wrap64_o (n := 2 * (M.length : Int)) (by omega) (by omega)]
    exact cnd_neg (by omega)
  | t + 1, s, hs => by
    have hl := hM.1
    refine .next k34_2 ((t34_2 ..).trans ?_) (loop342 hM h5 hi hg t (s + 1) (by omega))
    rw [wrap64_o (n := 2 * (M.length : Int)) (by omega) (by omega)]
    refine (cnd_pos (by omega)).trans ((cond_is' (gg76 hM h5 hi (b := s + 1) (by omega))).trans ((cnd_neg (by omega)).trans ?_))
    have hs' := sg76 hM i (s + 1)
    unfold matD at hs'
    rw [hs', bitT_ok _ (setN_lt h5 _ hi (s + 1)) i (by omega), setN_reach _ i i hi hi, wr1 (by omega)]
    show _ = some (Ex.norm, z342 (M.map rowD) M.length ((bif reach k (fM M) i (s + 1) i then Nat.gcd (gI k (fM M) i g s) (s + 1) else gI k (fM M) i g s : Nat) : Int) i ((s + 1 + 1 : Nat) : Int))
    cases reach k (fM M) i (s + 1) i with
    | false => rfl
    | true =>
      have h9 := gI_le (k := k) (f := fM M) (i := i) hg s (by omega)
      have hle : Nat.gcd (gI k (fM M) i g s) (s + 1) ≤ 1000 := by
        have := Nat.gcd_le_right (n := s + 1) (gI k (fM M) i g s) (by omega); omega
      simp only [cond_true]
      rw [gg71 hle, sg71]; rfl
theorem loop340 (hM : matB k M) (h5 : k ≤ 5) : ∀ (t i : Nat), i + t = k →
    LoopAt aeC (evG (okG M) (SG M)) 34 0 Try.f34 0 (z34 (M.map rowD) M.length (gO k (fM M) i : Nat) i) (.exit 0) ⟨[(3, .d (iD (gO k (fM M) k : Nat)))], [], []⟩
  | 0, i, hi => by
    have : i = k := by omega
    subst this
    exact .out k34_0 (by simp) ((t34_0x ..).trans (cnd_neg (by have := hM.1; omega)))
  | t + 1, i, hi => by
    have hl := hM.1
    have hn := t34_n (okG M) (SG M) (M.map rowD) M.length (gI k (fM M) i (gO k (fM M) i) (2 * k) : Nat) i
    rw [wr1 (by omega)] at hn
    exact .nextF k34_0 ((startF_seg k34_0 ((t34_0 ..).trans (cnd_pos (by omega))) (loop342 hM h5 (show i < k by omega) (gO_le h5 _ i) (2 * k) 0 (by omega))).trans (nextF_done k34_0 roundD_plain hn)) (loop340 hM h5 t (i + 1) (by omega))
theorem dvd_gS (f : Nat → Int) (d : Nat) : ∀ n, d ∣ gS k f n ↔ ∀ m, m < n → ringB k f m = true → d ∣ m
  | 0 => by simp only [gS, Nat.dvd_zero, true_iff]; intro m h; omega
  | n + 1 => by
    have ih := dvd_gS f d n
    unfold gS
    cases hr : ringB k f n with
    | false =>
      simp only [cond_false]
      rw [ih]
      constructor
      · intro h m hm hm2
        rcases Nat.lt_or_ge m n with q | q
        · exact h m q hm2
        · have : m = n := by omega
          subst this; rw [hr] at hm2; cases hm2
      · intro h m hm; exact h m (by omega)
    | true =>
      simp only [cond_true]
      rw [Nat.dvd_gcd_iff, ih]
      constructor
      · rintro ⟨h1, h2⟩ m hm hm2
        rcases Nat.lt_or_ge m n with q | q
        · exact h1 m q hm2
        · have : m = n := by omega
          subst this; exact h2
      · intro h
        exact ⟨fun m hm => h m (by omega), h n (by omega) hr⟩
theorem dvd_gI (f : Nat → Int) (d i g : Nat) : ∀ t, d ∣ gI k f i g t ↔ d ∣ g ∧ ∀ m, 1 ≤ m → m ≤ t → reach k f i m i = true → d ∣ m
  | 0 => by
    simp only [gI]
    constructor
    · intro h; exact ⟨h, fun m h1 h2 => by omega⟩
    · exact fun h => h.1
  | t + 1 => by
    have ih := dvd_gI f d i g t
    unfold gI
    cases hr : reach k f i (t + 1) i with
    | false =>
      simp only [cond_false]
      rw [ih]
      constructor
      · rintro ⟨h1, h2⟩
        refine ⟨h1, fun m a b c => ?_⟩
        rcases Nat.lt_or_ge t m with q | q
        · have : m = t + 1 := by omega
          subst this; rw [hr] at c; cases c
        · exact h2 m a q c
      · rintro ⟨h1, h2⟩
        exact ⟨h1, fun m a b c => h2 m a (by omega) c⟩
    | true =>
      simp only [cond_true]
      rw [Nat.dvd_gcd_iff, ih]
      constructor
      · rintro ⟨⟨h1, h2⟩, h3⟩
        refine ⟨h1, fun m a b c => ?_⟩
        rcases Nat.lt_or_ge t m with q | q
        · have : m = t + 1 := by omega
          subst this; exact h3
        · exact h2 m a q c
      · rintro ⟨h1, h2⟩
        exact ⟨⟨h1, fun m a b c => h2 m a (by omega) c⟩, h2 (t + 1) (by omega) (by omega) hr⟩
theorem dvd_gO (f : Nat → Int) (d : Nat) : ∀ i, d ∣ gO k f i ↔ ∀ x, x < i → ∀ m, 1 ≤ m → m ≤ 2 * k → reach k f x m x = true → d ∣ m
  | 0 => by simp only [gO, Nat.dvd_zero, true_iff]; intro x h; omega
  | i + 1 => by
    unfold gO
    rw [dvd_gI, dvd_gO f d i]
    constructor
    · rintro ⟨h1, h2⟩ x hx
      rcases Nat.lt_or_ge x i with q | q
      · exact h1 x q
      · have : x = i := by omega
        subst this; exact h2
    · intro h
      exact ⟨fun x hx => h x (by omega), h i (by omega)⟩
theorem beats_eq (f : Nat → Int) : gO k f k = gS k f (2 * k + 1) := by
  have key : ∀ d, d ∣ gO k f k ↔ d ∣ gS k f (2 * k + 1) := fun d => by
    rw [dvd_gO, dvd_gS]
    constructor
    · intro h m hm hr
      simp only [ringB, List.any_eq_true, List.mem_range] at hr
      obtain ⟨x, hx, h1⟩ := hr
      rcases Nat.eq_zero_or_pos m with q | q
      · subst q; exact Nat.dvd_zero d
      · exact h x hx m q (by omega) h1
    · intro h x hx m h1 h2 h3
      refine h m (by omega) ?_
      simp only [ringB, List.any_eq_true, List.mem_range]
      exact ⟨x, hx, h3⟩
  exact Nat.dvd_antisymm ((key _).1 (Nat.dvd_refl _)) ((key _).2 (Nat.dvd_refl _))
theorem c34 (hM : matB k M) (h5 : k ≤ 5) : PureOK Try.prog 34 [matD M] (iD (gS k (fM M) (2 * k + 1) : Nat)) := by
  rw [← beats_eq]
  exact ae_pure (evT_ok fun f ds => iD (SG M f ds)) (fn := Try.f34) k34 (by kernel_rfl) (by kernel_rfl) ((startF_seg k34 (t34_h (okG M) (SG M) (M.map rowD) M.length) (loop340 hM h5 k 0 (by omega))).trans (nextF_done k34 done_plain (t34_e ..)))
/-! ### Mixes (32) -/
def z32 (A : List DV) (n : Nat) (o m : Int) : St := ⟨[(0, .d (DV.sl A n 1 false false)), (3, .d (iD n)), (4, .d (iD o)), (5, .d (iD m))], [], []⟩
def z322 (A : List DV) (n : Nat) (o m i : Int) : St := ⟨[(0, .d (DV.sl A n 1 false false)), (3, .d (iD n)), (4, .d (iD o)), (5, .d (iD m)), (6, .d (iD i))], [], []⟩
def z322x (A : List DV) (n : Nat) (m : Int) : St := ⟨[(0, .d (DV.sl A n 1 false false)), (3, .d (iD n)), (5, .d (iD m))], [], []⟩
theorem t32_h (ok : Nat → List DV → Bool) (S : Nat → List DV → Int) (A : List DV) (n : Nat) : startS aeC (evG ok S) 32 0 Try.f32 none ⟨envOf 0 [.d (.sl A n 1 false false)], [], []⟩ (heldD aeC 32 0) = some (0, z32 A n (-1) (IntKind.wrap IntKind.i64 (IntKind.wrap IntKind.i64 (IntKind.wrap IntKind.i64 (IntKind.wrap IntKind.i64 ((n : Int) - 1) * IntKind.wrap IntKind.i64 ((n : Int) - 1)) + 1) + (n : Int)))) := by kernel_rfl
theorem t32_0 (ok : Nat → List DV → Bool) (S : Nat → List DV → Int) (A : List DV) (n : Nat) (o m : Int) : startS aeC (evG ok S) 32 0 Try.f32 (some 0) (z32 A n o m) (heldD aeC 32 0) = bif decide (0 ≤ m) then some (2, z322 A n o m 0) else none := by kernel_rfl
theorem t32_0x (ok : Nat → List DV → Bool) (S : Nat → List DV → Int) (A : List DV) (n : Nat) (o m : Int) : startS aeC (evG ok S) 32 0 Try.f32 (some 0) (z32 A n o m) (roundD aeC 32 0 0) = bif decide (0 ≤ m) then none else some (Ex.exit 0, ⟨[(4, .d (iD o))], [], []⟩) := by kernel_rfl
theorem t32_2 (ok : Nat → List DV → Bool) (S : Nat → List DV → Int) (A : List DV) (n : Nat) (o m i : Int) : startS aeC (evG ok S) 32 0 Try.f32 (some 2) (z322 A n o m i) (roundD aeC 32 0 2) =
  bif decide (i < (n : Int)) then (bif ok 76 [.sl A n 1 false false, iD i, iD m] then (bif !decide (S 76 [.sl A n 1 false false, iD i, iD m] = IntKind.wrap IntKind.i64 (IntKind.wrap IntKind.i64 (1 * 2 ^ min (Int.toNat (n : Int)) 64) - 1)) then some (Ex.ret, ⟨[(2, .d (iD o))], [], []⟩) else some (Ex.norm, z322 A n o m (IntKind.wrap IntKind.i64 (i + 1)))) else none) else some (Ex.exit 2, z322x A n m) := by kernel_rfl
theorem t32_n (ok : Nat → List DV → Bool) (S : Nat → List DV → Int) (A : List DV) (n : Nat) (m : Int) : nextS aeC (evG ok S) 32 0 Try.f32 (some 0) 2 (.exit 2) (z322x A n m) (roundD aeC 32 0 0) = some (Ex.norm, z32 A n m (IntKind.wrap IntKind.i64 (m - 1))) := by kernel_rfl
theorem t32_nr (ok : Nat → List DV → Bool) (S : Nat → List DV → Int) (o : Int) : nextS aeC (evG ok S) 32 0 Try.f32 (some 0) 2 .ret ⟨[(2, .d (iD o))], [], []⟩ (roundD aeC 32 0 0) = some (Ex.ret, ⟨[(2, .d (iD o))], [], []⟩) := by kernel_rfl
theorem t32_e (ok : Nat → List DV → Bool) (S : Nat → List DV → Int) (o : Int) : nextS aeC (evG ok S) 32 0 Try.f32 none 0 (.exit 0) ⟨[(4, .d (iD o))], [], []⟩ (doneE aeC Try.f32 0 fun v h => freezeV h 4 v) = some (iD o) := by kernel_rfl
theorem t32_r (ok : Nat → List DV → Bool) (S : Nat → List DV → Int) (o : Int) : nextS aeC (evG ok S) 32 0 Try.f32 none 0 .ret ⟨[(2, .d (iD o))], [], []⟩ (doneE aeC Try.f32 0 fun v h => freezeV h 4 v) = some (iD o) := by kernel_rfl
theorem k32 : OkSeg Try.f32 none [0] := ⟨by kernel_rfl, by kernel_rfl, by decide⟩
theorem k32_0 : OkSeg Try.f32 (some 0) [2] := ⟨by kernel_rfl, by kernel_rfl, by decide⟩
theorem k32_2 : OkSeg Try.f32 (some 2) [] := ⟨by kernel_rfl, by kernel_rfl, by decide⟩
/-- Whether all states are reached from the states from i on. -/
def fromB (k : Nat) (f : Nat → Int) (m i : Nat) : Nat → Bool
  | 0 => true
  | t + 1 => decide (setN k f i m = 2 ^ k - 1) && fromB k f m (i + 1) t
theorem fromB_iff (f : Nat → Int) (m : Nat) : ∀ (t i : Nat), fromB k f m i t = true ↔ ∀ x, i ≤ x → x < i + t → setN k f x m = 2 ^ k - 1
  | 0, i => by simp only [fromB, true_iff]; intro x h1 h2; omega
  | t + 1, i => by
    simp only [fromB, Bool.and_eq_true, decide_eq_true_eq, fromB_iff f m t (i + 1)]
    constructor
    · rintro ⟨h1, h2⟩ x h3 h4
      rcases Nat.eq_or_lt_of_le h3 with h | h
      · subst h; exact h1
      · exact h2 x h (by omega)
    · intro h
      exact ⟨h i (Nat.le_refl _) (by omega), fun x h1 h2 => h x (by omega) (by omega)⟩
theorem from_full (h5 : k ≤ 5) (f : Nat → Int) (m : Nat) : fromB k f m 0 k = fullB k f m := by
  rw [Bool.eq_iff_iff, fromB_iff, fullB_iff h5]
  constructor
  · intro h i j hi hj
    have := (mask_iff h5 (setN_out hi m)).1 (h i (Nat.zero_le _) (by omega)) j hj
    rw [setN_reach m i j hi hj] at this
    exact this
  · intro h i _ hi
    exact (mask_iff h5 (setN_out (show i < k by omega) m)).2 fun x hx => by rw [setN_reach m i x (by omega) hx]; exact h i x (by omega) hx
theorem loop322 (hM : matB k M) (h5 : k ≤ 5) {o : Int} {m : Nat} (hm : m ≤ 1000) : ∀ (t i : Nat), i + t = k →
    LoopAt aeC (evG (okG M) (SG M)) 32 0 Try.f32 2 (z322 (M.map rowD) M.length o (m : Nat) i) (bif fromB k (fM M) m i t then .exit 2 else .ret) (bif fromB k (fM M) m i t then z322x (M.map rowD) M.length m else ⟨[(2, .d (iD o))], [], []⟩)
  | 0, i, hi => .out k32_2 (by simp [fromB]) ((t32_2 ..).trans (cnd_neg (by have := hM.1; omega)))
  | t + 1, i, hi => by
    have hl := hM.1
    have ih := loop322 hM h5 (o := o) hm t (i + 1) (by omega)
    have hr := (t32_2 (okG M) (SG M) (M.map rowD) M.length o m i).trans ((cnd_pos (by omega)).trans (cond_is' (gg76 hM h5 (show i < k by omega) (b := m) hm)))
    have hs' := sg76 hM i m
    unfold matD at hs'
    rw [hs', mask_ok (k := M.length) (by omega), wr1 (by omega)] at hr
    have hd : decide (((setN k (fM M) i m : Nat) : Int) = ((2 ^ M.length - 1 : Nat) : Int)) = decide (setN k (fM M) i m = 2 ^ k - 1) := by
      rw [hl]
      by_cases h : setN k (fM M) i m = 2 ^ k - 1
      · rw [decide_eq_true h, decide_eq_true (by rw [h])]
      · rw [decide_eq_false h, decide_eq_false (by omega)]
    rw [hd] at hr
    cases hb : decide (setN k (fM M) i m = 2 ^ k - 1) with
    | true =>
      rw [hb] at hr
      have e : fromB k (fM M) m i (t + 1) = fromB k (fM M) m (i + 1) t := by show (decide _ && _) = _; rw [hb, Bool.true_and]
      rw [e]
      exact .next k32_2 hr ih
    | false =>
      rw [hb] at hr
      have e : fromB k (fM M) m i (t + 1) = false := by show (decide _ && _) = _; rw [hb, Bool.false_and]
      rw [e]
      exact .out k32_2 (by simp) hr
/-- The document's number, from m on down. -/
def rmS (k : Nat) (f : Nat → Int) : Nat → Int → Int
  | 0, o => bif fullB k f 0 then 0 else o
  | m + 1, o => bif fullB k f (m + 1) then rmS k f m ((m + 1 : Nat) : Int) else o
theorem seg32 (hM : matB k M) (h5 : k ≤ 5) (o : Int) {m : Nat} (hm : m ≤ 1000) : startF aeC (evG (okG M) (SG M)) 32 0 Try.f32 (some 0) (z32 (M.map rowD) M.length o m) (roundD aeC 32 0 0) = bif fullB k (fM M) m then some (.norm, z32 (M.map rowD) M.length m (IntKind.wrap .i64 ((m : Int) - 1))) else some (.ret, ⟨[(2, .d (iD o))], [], []⟩) := by
  have hl := loop322 hM h5 (o := o) hm k 0 (by omega)
  rw [from_full h5] at hl
  cases hb : fullB k (fM M) m with
  | true =>
    rw [hb] at hl
    exact (startF_seg k32_0 ((t32_0 ..).trans (cnd_pos (by omega))) hl).trans (nextF_done k32_0 roundD_plain (t32_n ..))
  | false =>
    rw [hb] at hl
    exact (startF_seg k32_0 ((t32_0 ..).trans (cnd_pos (by omega))) hl).trans (nextF_done k32_0 roundD_plain (t32_nr ..))
theorem loop320 (hM : matB k M) (h5 : k ≤ 5) : ∀ (m : Nat) (o : Int), m ≤ 1000 → ∃ e s, LoopAt aeC (evG (okG M) (SG M)) 32 0 Try.f32 0 (z32 (M.map rowD) M.length o m) e s ∧ ((e = .exit 0 ∧ s = ⟨[(4, .d (iD (rmS k (fM M) m o)))], [], []⟩) ∨ (e = .ret ∧ s = ⟨[(2, .d (iD (rmS k (fM M) m o)))], [], []⟩))
  | 0, o, hm => by
    have hs := seg32 hM h5 o hm
    cases hb : fullB k (fM M) 0 with
    | true =>
      rw [hb] at hs
      have e : rmS k (fM M) 0 o = 0 := by unfold rmS; rw [hb]; rfl
      refine ⟨.exit 0, _, .nextF k32_0 hs (.out k32_0 (by simp) ((t32_0x ..).trans (cnd_neg (by decide)))), .inl ⟨rfl, ?_⟩⟩
      rw [e]; rfl
    | false =>
      rw [hb] at hs
      have e : rmS k (fM M) 0 o = o := by unfold rmS; rw [hb]; rfl
      exact ⟨.ret, _, .outF k32_0 (by simp) hs, .inr ⟨rfl, by rw [e]⟩⟩
  | m + 1, o, hm => by
    have hs := seg32 hM h5 o hm
    cases hb : fullB k (fM M) (m + 1) with
    | true =>
      rw [hb] at hs
      have hw : IntKind.wrap .i64 (((m + 1 : Nat) : Int) - 1) = (m : Int) := by rw [wrap64_o (by omega) (by omega)]; omega
      rw [hw] at hs
      obtain ⟨e, s, h1, h2⟩ := loop320 hM h5 m ((m + 1 : Nat) : Int) (by omega)
      have er : rmS k (fM M) (m + 1) o = rmS k (fM M) m ((m + 1 : Nat) : Int) := by
        show (bif fullB k (fM M) (m + 1) then _ else _) = _
        rw [hb]; rfl
      exact ⟨e, s, .nextF k32_0 hs h1, by rw [er]; exact h2⟩
    | false =>
      rw [hb] at hs
      have e : rmS k (fM M) (m + 1) o = o := by
        show (bif fullB k (fM M) (m + 1) then _ else _) = _
        rw [hb]; rfl
      exact ⟨.ret, _, .outF k32_0 (by simp) hs, .inr ⟨rfl, by rw [e]⟩⟩
theorem c32 (hM : matB k M) (h1 : 1 ≤ k) (h5 : k ≤ 5) : PureOK Try.prog 32 [matD M] (iD (rmS k (fM M) (mostN k + k) (-1))) := by
  have hm := mostN_le h1 h5
  have hh := t32_h (okG M) (SG M) (M.map rowD) M.length
  have hT : IntKind.wrap IntKind.i64 (IntKind.wrap IntKind.i64 (IntKind.wrap IntKind.i64 (IntKind.wrap IntKind.i64 ((M.length : Int) - 1) * IntKind.wrap IntKind.i64 ((M.length : Int) - 1)) + 1) + (M.length : Int)) = ((mostN k + k : Nat) : Int) := by
    rw [hM.1]
    rcases five h1 h5 with rfl | rfl | rfl | rfl | rfl <;> decide +kernel
  rw [hT] at hh
  obtain ⟨e, s, hl, he⟩ := loop320 hM h5 (mostN k + k) (-1) (by omega)
  refine ae_pure (evT_ok fun f ds => iD (SG M f ds)) (fn := Try.f32) k32 (by kernel_rfl) (by kernel_rfl) ?_
  rcases he with ⟨rfl, rfl⟩ | ⟨rfl, rfl⟩
  · exact (startF_seg k32 hh hl).trans (nextF_done k32 done_plain (t32_e ..))
  · exact (startF_seg k32 hh hl).trans (nextF_done k32 done_plain (t32_r ..))
end
end Go.Proofs.Ytjfopbpkophoeaa

/- Chapter 06: Wielandt's bound, in plain Lean. -/
namespace Go.Proofs.Ytjfopbpkophoeaa
open Go Go.AE
/-! ### Walks -/
def wk (k : Nat) (A : Nat → Nat → Bool) (j : Nat) : Nat → Nat → Bool
  | 0, i => Nat.beq i j
  | n + 1, i => (List.range k).any fun x => A i x && wk k A j n x
section
variable {k : Nat} {A : Nat → Nat → Bool}
theorem wk_zero {i j : Nat} : wk k A j 0 i = true ↔ i = j := ⟨fun h => Nat.eq_of_beq_eq_true h, fun h => by subst h; exact Nat.beq_refl i⟩
theorem wk_succ {n i j : Nat} : wk k A j (n + 1) i = true ↔ ∃ x, x < k ∧ A i x = true ∧ wk k A j n x = true := by
  simp only [wk, List.any_eq_true, List.mem_range, Bool.and_eq_true]
theorem wk_add {n j : Nat} : ∀ {m i x : Nat}, wk k A x m i = true → wk k A j n x = true → wk k A j (m + n) i = true
  | 0, i, x, h1, h2 => by rw [wk_zero.1 h1, Nat.zero_add]; exact h2
  | m + 1, i, x, h1, h2 => by
    obtain ⟨y, h3, h4, h5⟩ := wk_succ.1 h1
    rw [show m + 1 + n = (m + n) + 1 by omega]
    exact wk_succ.2 ⟨y, h3, h4, wk_add h5 h2⟩
theorem wk_split {n j : Nat} : ∀ {m i : Nat}, i < k → wk k A j (m + n) i = true → ∃ x, x < k ∧ wk k A x m i = true ∧ wk k A j n x = true
  | 0, i, hi, h => ⟨i, hi, wk_zero.2 rfl, by rw [Nat.zero_add] at h; exact h⟩
  | m + 1, i, hi, h => by
    rw [show m + 1 + n = (m + n) + 1 by omega] at h
    obtain ⟨y, h3, h4, h5⟩ := wk_succ.1 h
    obtain ⟨x, h6, h7, h8⟩ := wk_split h3 h5
    exact ⟨x, h6, wk_succ.2 ⟨y, h3, h4, h7⟩, h8⟩
theorem wk_one {i j : Nat} (hj : j < k) (h : A i j = true) : wk k A j 1 i = true := wk_succ.2 ⟨j, hj, h, wk_zero.2 rfl⟩
/-- The states on the way. -/
theorem wk_path {j : Nat} (hj : j < k) : ∀ {n i : Nat}, i < k → wk k A j n i = true → ∃ c : Nat → Nat, c 0 = i ∧ c n = j ∧ (∀ t, t < n → A (c t) (c (t + 1)) = true) ∧ ∀ t, c t < k
  | 0, i, hi, h => ⟨fun _ => i, rfl, wk_zero.1 h, fun t ht => absurd ht (Nat.not_lt_zero _), fun _ => hi⟩
  | n + 1, i, hi, h => by
    obtain ⟨x, h1, h2, h3⟩ := wk_succ.1 h
    obtain ⟨c, c1, c2, c3, c4⟩ := wk_path hj h1 h3
    refine ⟨fun t => match t with | 0 => i | t + 1 => c t, rfl, c2, fun t ht => ?_, fun t => ?_⟩
    · cases t with
      | zero => show A i (c 0) = true; rw [c1]; exact h2
      | succ t => exact c3 t (by omega)
    · cases t with
      | zero => exact hi
      | succ t => exact c4 t
theorem path_wk {c : Nat → Nat} {n : Nat} (c3 : ∀ t, t < n → A (c t) (c (t + 1)) = true) (c4 : ∀ t, c t < k) : ∀ (d a : Nat), a + d ≤ n → wk k A (c (a + d)) d (c a) = true
  | 0, a, _ => wk_zero.2 rfl
  | d + 1, a, h => by
    have ih := path_wk c3 c4 d (a + 1) (by omega)
    rw [show a + 1 + d = a + (d + 1) by omega] at ih
    exact wk_succ.2 ⟨c (a + 1), c4 _, c3 a (by omega), ih⟩
/-! ### How sets grow -/
theorem count_lt {p q : Nat → Bool} : ∀ {l : List Nat}, (∀ x, p x = true → q x = true) → (∃ x, x ∈ l ∧ p x = false ∧ q x = true) → l.countP p < l.countP q
  | [], _, h => by obtain ⟨x, hx, _⟩ := h; cases hx
  | y :: l, hpq, h => by
    obtain ⟨x, hx, h1, h2⟩ := h
    have hle : l.countP p ≤ l.countP q := List.countP_mono_left fun x _ hp => hpq x hp
    rcases List.mem_cons.1 hx with rfl | hx
    · rw [List.countP_cons_of_neg (by rw [h1]; simp), List.countP_cons_of_pos h2]; omega
    · have ih := count_lt hpq ⟨x, hx, h1, h2⟩
      cases hp : p y with
      | true => rw [List.countP_cons_of_pos hp, List.countP_cons_of_pos (hpq y hp)]; omega
      | false =>
        rw [List.countP_cons_of_neg (by rw [hp]; simp)]
        cases hq : q y with
        | true => rw [List.countP_cons_of_pos hq]; omega
        | false => rw [List.countP_cons_of_neg (by rw [hq]; simp)]; exact ih
theorem count_full {p : Nat → Bool} (h : k ≤ (List.range k).countP p) : ∀ x, x < k → p x = true := by
  intro x hx
  have h1 : (List.range k).countP p = (List.range k).length := Nat.le_antisymm List.countP_le_length (by rw [List.length_range]; exact h)
  exact List.countP_eq_length.1 h1 x (List.mem_range.2 hx)
/-- Sets that grow until they have all. -/
theorem grow_all {S : Nat → Nat → Bool} {c : Nat} (up : ∀ t x, x < k → S t x = true → S (t + 1) x = true) (st : ∀ t, (∀ x, x < k → S (t + 1) x = true → S t x = true) → ∀ x, x < k → S (t + 2) x = true → S (t + 1) x = true)
    (all : ∃ T, ∀ x, x < k → S T x = true) (h0 : c ≤ (List.range k).countP (S 0)) : ∀ t, k ≤ c + t → ∀ x, x < k → S t x = true := by
  obtain ⟨T, hT⟩ := all
  have upn : ∀ d t x, x < k → S t x = true → S (t + d) x = true := by
    intro d
    induction d with
    | zero => intro t x _ h; exact h
    | succ d ih => intro t x hx h; exact up (t + d) x hx (ih t x hx h)
  have key : ∀ t, (∀ x, x < k → S t x = true) ∨ c + t ≤ (List.range k).countP (S t) := by
    intro t
    induction t with
    | zero => exact .inr (by simpa using h0)
    | succ t ih =>
      rcases ih with ih | ih
      · exact .inl fun x hx => up t x hx (ih x hx)
      · by_cases hs : ∀ x, x < k → S (t + 1) x = true → S t x = true
        · -- nothing comes any more
          left
          have stay : ∀ d x, x < k → S (t + 1 + d) x = true → S (t + d) x = true := by
            intro d
            induction d with
            | zero => exact hs
            | succ d ihd =>
              intro x hx h
              exact st (t + d) (fun x hx h => ihd x hx (by rw [show t + 1 + d = t + d + 1 by omega]; exact h)) x hx (by rw [show t + d + 2 = t + 1 + (d + 1) by omega]; exact h)
          have back : ∀ d x, x < k → S (t + d) x = true → S t x = true := by
            intro d
            induction d with
            | zero => intro x _ h; exact h
            | succ d ihd => intro x hx h; exact ihd x hx (stay d x hx (by rw [show t + 1 + d = t + (d + 1) by omega]; exact h))
          intro x hx
          have h1 : S (t + T) x = true := by rw [Nat.add_comm]; exact upn t T x hx (hT x hx)
          exact up t x hx (back T x hx h1)
        · right
          have : ∃ x, x ∈ List.range k ∧ S t x = false ∧ S (t + 1) x = true := by
            apply Classical.byContradiction
            intro hc
            apply hs
            intro x hx h1
            cases h2 : S t x with
            | true => rfl
            | false => exact absurd ⟨x, List.mem_range.2 hx, h2, h1⟩ hc
          -- on the states alone
          have hlt : (List.range k).countP (fun x => decide (x < k) && S t x) < (List.range k).countP (fun x => decide (x < k) && S (t + 1) x) := by
            refine count_lt (fun x h => ?_) ?_
            · simp only [Bool.and_eq_true, decide_eq_true_eq] at h ⊢
              exact ⟨h.1, up t x h.1 h.2⟩
            · obtain ⟨x, hx, h1, h2⟩ := this
              exact ⟨x, hx, by simp [h1], by simp [h2, List.mem_range.1 hx]⟩
          have e : ∀ t, (List.range k).countP (fun x => decide (x < k) && S t x) = (List.range k).countP (S t) := fun t =>
            List.countP_congr fun x hx => by simp [List.mem_range.1 hx]
          rw [e, e] at hlt
          omega
  intro t ht x hx
  rcases key t with h | h
  · exact h x hx
  · exact count_full (by omega) x hx
theorem count_nodup : ∀ {l : List Nat}, l.Nodup → (∀ x, x ∈ l → x < k) → l.length ≤ (List.range k).countP fun x => decide (x ∈ l)
  | [], _, _ => Nat.zero_le _
  | y :: l, hn, hk => by
    obtain ⟨h1, h2⟩ := List.nodup_cons.1 hn
    have ih := count_nodup h2 fun x hx => hk x (List.mem_cons_of_mem _ hx)
    have hlt : ((List.range k).countP fun x => decide (x ∈ l)) < (List.range k).countP fun x => decide (x ∈ y :: l) :=
      count_lt (fun x h => by simp only [decide_eq_true_eq] at h ⊢; exact List.mem_cons_of_mem _ h) ⟨y, List.mem_range.2 (hk y (List.mem_cons_self ..)), by simpa using h1, by simp⟩
    simp only [List.length_cons]
    omega
/-! ### Wielandt's bound -/
def full (k : Nat) (A : Nat → Nat → Bool) (n : Nat) : Prop := ∀ i j, i < k → j < k → wk k A j n i = true
theorem full_succ {n : Nat} (h1 : 1 ≤ n) (h : full k A n) : full k A (n + 1) := by
  intro i j hi hj
  obtain ⟨m, rfl⟩ : ∃ m, n = m + 1 := ⟨n - 1, by omega⟩
  obtain ⟨x, h2, h3, _⟩ := wk_succ.1 (h i j hi hj)
  exact wk_succ.2 ⟨x, h2, h3, h x j h2 hj⟩
theorem full_le {n : Nat} (h1 : 1 ≤ n) (h : full k A n) : ∀ m, n ≤ m → full k A m := by
  intro m hm
  obtain ⟨d, rfl⟩ : ∃ d, m = n + d := ⟨m - n, by omega⟩
  clear hm
  induction d with
  | zero => exact h
  | succ d ih => exact full_succ (n := n + d) (by omega) ih
theorem least_cycle {n v : Nat} (h1 : 1 ≤ n) (hv : v < k) (h : wk k A v n v = true) : ∃ s u, 1 ≤ s ∧ u < k ∧ wk k A u s u = true ∧ ∀ s' u', 1 ≤ s' → s' < s → u' < k → wk k A u' s' u' = false := by
  induction n using Nat.strongRecOn generalizing v with
  | ind n ih =>
    by_cases hx : ∃ s' u', 1 ≤ s' ∧ s' < n ∧ u' < k ∧ wk k A u' s' u' = true
    · obtain ⟨s', u', a, b, c, d⟩ := hx
      exact ih s' b a c d
    · refine ⟨n, v, h1, hv, h, fun s' u' a b c => ?_⟩
      cases hw : wk k A u' s' u' with
      | false => rfl
      | true => exact absurd ⟨s', u', a, b, c, hw⟩ hx
/-- Mixing comes at (k - 1)^2 + 1 at the latest. -/
theorem wielandt {N : Nat} (h2 : 2 ≤ k) (hN : 1 ≤ N) (hF : full k A N) : full k A ((k - 1) * (k - 1) + 1) := by
  obtain ⟨s, u, hs1, hu, hsu, hmin⟩ := least_cycle hN (show 0 < k by omega) (hF 0 0 (by omega) (by omega))
  obtain ⟨c, c1, c2, c3, c4⟩ := wk_path hu hu hsu
  have hw : ∀ a b, a ≤ b → b ≤ s → wk k A (c b) (b - a) (c a) = true := fun a b hab hb => by
    have := path_wk c3 c4 (b - a) a (by omega)
    rw [show a + (b - a) = b by omega] at this
    exact this
  have hinj : ∀ a b, a < b → b < s → c a ≠ c b := fun a b hab hb e => by
    have h := hw a b (by omega) (by omega)
    rw [← e] at h
    rw [hmin (b - a) (c a) (by omega) (by omega) (c4 a)] at h
    cases h
  -- each state of the ring comes back to itself in s steps
  have hloop : ∀ a, a < s → wk k A (c a) s (c a) = true := fun a ha => by
    have h3 := hw a s (by omega) (Nat.le_refl _)
    have h4 := hw 0 a (by omega) (by omega)
    rw [c2, ← c1] at h3
    have := wk_add h3 h4
    rw [show s - a + (a - 0) = s by omega] at this
    exact this
  have hnd : ((List.range s).map c).Nodup := by
    rw [List.nodup_iff_pairwise_ne, List.pairwise_map]
    refine List.Pairwise.imp_of_mem ?_ (List.pairwise_lt_range (n := s))
    intro a b ha hb hab
    exact hinj a b hab (List.mem_range.1 hb)
  have hcard : s ≤ (List.range k).countP fun x => decide (x ∈ (List.range s).map c) := by
    have := count_nodup (k := k) hnd fun x hx => by
      obtain ⟨a, _, rfl⟩ := List.mem_map.1 hx
      exact c4 a
    simpa using this
  have hsk : s ≤ k := Nat.le_trans hcard (by have := List.countP_le_length (p := fun x => decide (x ∈ (List.range s).map c)) (l := List.range k); simpa using this)
  have hmem : ∀ x, x ∈ (List.range s).map c ↔ ∃ a, a < s ∧ c a = x := fun x => by simp [List.mem_map, List.mem_range]
  -- the ring is not of all states
  have hs : s ≤ k - 1 := by
    apply Classical.byContradiction
    intro hns
    have hk : s = k := by omega
    subst hk
    have hall : ∀ x, x < s → ∃ a, a < s ∧ c a = x := fun x hx => by
      have := count_full hcard x hx
      exact (hmem x).1 (by simpa using this)
    have edge : ∀ a b, a < s → b < s → A (c a) (c b) = true → (a + 1) % s = b := fun a b ha hb he => by
      have e1 := wk_one (A := A) (c4 b) he
      by_cases hab : b ≤ a
      · have h5 := wk_add (hw b a hab (by omega)) e1
        by_cases h6 : a - b + 1 < s
        · rw [hmin _ _ (by omega) h6 (c4 b)] at h5; cases h5
        · have : a = s - 1 ∧ b = 0 := by omega
          obtain ⟨rfl, rfl⟩ := this
          rw [show s - 1 + 1 = s by omega, Nat.mod_self]
      · have h3 := hw b s (by omega) (Nat.le_refl _)
        have h4 := hw 0 a (by omega) (by omega)
        rw [c2, ← c1] at h3
        have h5 := wk_add (wk_add h3 h4) e1
        by_cases h6 : s - b + (a - 0) + 1 < s
        · rw [hmin _ _ (by omega) h6 (c4 b)] at h5; cases h5
        · have : b = a + 1 := by omega
          subst this
          exact Nat.mod_eq_of_lt hb
    have turn : ∀ n a b, a < s → b < s → wk s A (c b) n (c a) = true → (a + n) % s = b := by
      intro n
      induction n with
      | zero =>
        intro a b ha hb h
        have e := wk_zero.1 h
        have : a = b := by
          rcases Nat.lt_trichotomy a b with h | h | h
          · exact absurd e (hinj a b h hb)
          · exact h
          · exact absurd e.symm (hinj b a h ha)
        subst this
        exact Nat.mod_eq_of_lt ha
      | succ n ih =>
        intro a b ha hb h
        obtain ⟨x, h3, h4, h5⟩ := wk_succ.1 h
        obtain ⟨d, hd, rfl⟩ := hall x h3
        have e1 := edge a d ha hd h4
        have e2 := ih d b hd hb h5
        rw [← e2, ← e1, Nat.mod_add_mod]
        congr 1; omega
    have t0 := turn N 0 0 (by omega) (by omega) (hF _ _ (c4 0) (c4 0))
    have t1 := turn N 0 1 (by omega) (by omega) (hF _ _ (c4 0) (c4 1))
    omega
  -- all states come to the ring in k - s steps
  have hin : ∀ x, x < k → ∃ a, a < s ∧ wk k A (c a) (k - s) x = true := by
    have := grow_all (k := k) (c := s) (S := fun t x => (List.range s).any fun a => wk k A (c a) t x) ?_ ?_ ⟨N, ?_⟩ ?_ (k - s) (by omega)
    · intro x hx
      have h := this x hx
      simp only [List.any_eq_true, List.mem_range] at h
      exact h
    · intro t x hx h
      simp only [List.any_eq_true, List.mem_range] at h ⊢
      obtain ⟨a, ha, h3⟩ := h
      have e1 := wk_one (A := A) (c4 (a + 1)) (c3 a ha)
      have h5 := wk_add h3 e1
      by_cases hl : a + 1 < s
      · exact ⟨a + 1, hl, h5⟩
      · have : a + 1 = s := by omega
        rw [this, c2, ← c1] at h5
        exact ⟨0, by omega, h5⟩
    · intro t hst x hx h
      simp only [List.any_eq_true, List.mem_range] at h ⊢ hst
      obtain ⟨a, ha, h3⟩ := h
      obtain ⟨y, h4, h5, h6⟩ := wk_succ.1 h3
      obtain ⟨b, hb, h7⟩ := hst y h4 ⟨a, ha, h6⟩
      exact ⟨b, hb, wk_succ.2 ⟨y, h4, h5, h7⟩⟩
    · intro x hx
      simp only [List.any_eq_true, List.mem_range]
      exact ⟨0, by omega, hF x (c 0) hx (c4 0)⟩
    · refine Nat.le_trans hcard (List.countP_mono_left fun x _ hx => ?_)
      obtain ⟨a, ha, rfl⟩ := (hmem x).1 (by simpa using hx)
      simp only [List.any_eq_true, List.mem_range]
      exact ⟨a, ha, wk_zero.2 rfl⟩
  -- from the ring all states are reached in s (k - 1) steps
  have hout : ∀ a, a < s → ∀ x, x < k → wk k A x (s * (k - 1)) (c a) = true := by
    intro a ha
    refine grow_all (k := k) (c := 1) (S := fun t x => wk k A x (s * t) (c a)) ?_ ?_ ⟨N, ?_⟩ ?_ (k - 1) (by omega)
    · intro t x hx h
      have := wk_add (hloop a ha) h
      rw [show s * (t + 1) = s + s * t by rw [Nat.mul_add, Nat.mul_one, Nat.add_comm]]
      exact this
    · intro t hst x hx h
      rw [show s * (t + 2) = s * (t + 1) + s by rw [show t + 2 = (t + 1) + 1 by omega, Nat.mul_add s (t + 1) 1, Nat.mul_one]] at h
      obtain ⟨y, h3, h4, h5⟩ := wk_split (c4 a) h
      have := wk_add (hst y h3 h4) h5
      rw [show s * (t + 1) = s * t + s by rw [Nat.mul_add, Nat.mul_one]]
      exact this
    · intro x hx
      exact full_le hN hF (s * N) (Nat.le_mul_of_pos_left N (by omega)) (c a) x (c4 a) hx
    · have : (List.range k).countP (fun x => decide (x ∈ [c a])) ≤ (List.range k).countP fun x => wk k A x (s * 0) (c a) := List.countP_mono_left fun x _ hx => by
        simp only [List.mem_singleton, decide_eq_true_eq] at hx
        subst hx
        exact wk_zero.2 rfl
      refine Nat.le_trans (count_nodup (k := k) (l := [c a]) (by simp) (fun x hx => ?_)) this
      simp only [List.mem_singleton] at hx
      subst hx; exact c4 a
  have hall : full k A (k - s + s * (k - 1)) := fun x y hx hy => by
    obtain ⟨a, ha, h3⟩ := hin x hx
    exact wk_add h3 (hout a ha y hy)
  refine full_le ?_ hall _ ?_
  · have : 1 ≤ k - s := by omega
    omega
  · obtain ⟨d, hd⟩ : ∃ d, k - 1 = s + d := ⟨k - 1 - s, by omega⟩
    rw [hd, show k - s = d + 1 by omega, Nat.add_mul s d (s + d)]
    have : d ≤ d * (s + d) := Nat.le_mul_of_pos_right d (by omega)
    omega
end
theorem reach_wk (k : Nat) (f : Nat → Int) (j : Nat) : ∀ n i, reach k f j n i = wk k (fun i x => decide (0 < f (5 * i + x))) j n i
  | 0, _ => rfl
  | n + 1, i => by
    unfold reach wk
    congr 1
    funext x
    rw [reach_wk k f j n x]
end Go.Proofs.Ytjfopbpkophoeaa

/- Chapter 06: law 6 (Mixes) on data. -/
namespace Go.Proofs.Ytjfopbpkophoeaa
open Go Go.AE
set_option maxRecDepth 100000
section
variable {k : Nat} {f : Nat → Int}
theorem fullB_full (h5 : k ≤ 5) (n : Nat) : fullB k f n = true ↔ full k (fun i x => decide (0 < f (5 * i + x))) n := by
  rw [fullB_iff h5]
  constructor
  · intro h i j hi hj
    rw [← reach_wk]; exact h i j hi hj
  · intro h i j hi hj
    rw [reach_wk]; exact h i j hi hj
theorem full_top (h1 : 1 ≤ k) (h5 : k ≤ 5) (h : fullB k f (mostN k + k) = true) : ∀ n, mostN k + 1 ≤ n → n ≤ mostN k + k → fullB k f n = true := by
  intro n hn hn2
  rcases Nat.lt_or_ge k 2 with q | q
  · have : k = 1 := by omega
    subst this
    have : n = mostN 1 + 1 := by omega
    subst this; exact h
  · have hw := wielandt q (show 1 ≤ mostN k + k by omega) ((fullB_full h5 _).1 h)
    exact (fullB_full h5 _).2 (full_le (by omega) hw n (by unfold mostN at hn; omega))
theorem full_up (h5 : k ≤ 5) (h1 : 1 ≤ k) (h : fullB k f (mostN k + 1) = true) : fullB k f (mostN k + k) = true :=
  (fullB_full h5 _).2 (full_le (by omega) ((fullB_full h5 _).1 h) _ (by omega))
theorem mixS_ok : ∀ n, ((mixS k f n).2 = true → ∃ L : Nat, (mixS k f n).1 = L ∧ L < n ∧ (∀ x, L ≤ x → x < n → fullB k f x = true) ∧ (L = 0 ∨ fullB k f (L - 1) = false)) ∧ ((mixS k f n).2 = false → n = 0 ∨ fullB k f (n - 1) = false)
  | 0 => ⟨fun h => by simp [mixS] at h, fun _ => .inl rfl⟩
  | n + 1 => by
    obtain ⟨i1, i2⟩ := mixS_ok n
    unfold mixS
    cases hf : fullB k f n with
    | false => exact ⟨fun h => by simp at h, fun _ => .inr hf⟩
    | true =>
      cases hb : (mixS k f n).2 with
      | false =>
        refine ⟨fun _ => ⟨n, rfl, by omega, fun x h1 h2 => ?_, ?_⟩, fun h => by simp at h⟩
        · have : x = n := by omega
          subst this; exact hf
        · rcases i2 hb with h | h
          · exact .inl h
          · exact .inr h
      | true =>
        obtain ⟨L, h1, h2, h3, h4⟩ := i1 hb
        refine ⟨fun _ => ⟨L, h1, by omega, fun x h5 h6 => ?_, h4⟩, fun h => ?_⟩
        · rcases Nat.lt_or_ge x n with q | q
          · exact h3 x h5 q
          · have : x = n := by omega
            subst this; exact hf
        · simp only [Bool.not_true, cond_false] at h
          rw [hb] at h; cases h
theorem rmS_ok : ∀ (m : Nat) (o : Int), (fullB k f m = false → rmS k f m o = o) ∧ (fullB k f m = true → ∃ L : Nat, rmS k f m o = L ∧ L ≤ m ∧ (∀ x, L ≤ x → x ≤ m → fullB k f x = true) ∧ (L = 0 ∨ fullB k f (L - 1) = false))
  | 0, o => by
    unfold rmS
    refine ⟨fun h => by rw [h]; rfl, fun h => ⟨0, by rw [h]; rfl, Nat.le_refl _, fun x h1 h2 => ?_, .inl rfl⟩⟩
    have : x = 0 := by omega
    subst this; exact h
  | m + 1, o => by
    obtain ⟨i1, i2⟩ := rmS_ok m ((m + 1 : Nat) : Int)
    unfold rmS
    refine ⟨fun h => by rw [h]; rfl, fun h => ?_⟩
    rw [h]
    simp only [cond_true]
    cases hf : fullB k f m with
    | false =>
      refine ⟨m + 1, i1 hf, Nat.le_refl _, fun x h1 h2 => ?_, .inr hf⟩
      have : x = m + 1 := by omega
      subst this; exact h
    | true =>
      obtain ⟨L, h1, h2, h3, h4⟩ := i2 hf
      refine ⟨L, h1, by omega, fun x h5 h6 => ?_, h4⟩
      rcases Nat.lt_or_ge m x with q | q
      · have : x = m + 1 := by omega
        subst this; exact h
      · exact h3 x h5 q
theorem mix_true (h1 : 1 ≤ k) (h5 : k ≤ 5) (h : (mixS k f (mostN k + 2)).2 = true) : rmS k f (mostN k + k) (-1) = (mixS k f (mostN k + 2)).1 ∧ 0 ≤ (mixS k f (mostN k + 2)).1 := by
  obtain ⟨L, a1, a2, a3, a4⟩ := (mixS_ok (k := k) (f := f) (mostN k + 2)).1 h
  have hP := a3 (mostN k + 1) (by omega) (by omega)
  have hT := full_up h5 h1 hP
  obtain ⟨L', b1, b2, b3, b4⟩ := (rmS_ok (k := k) (f := f) (mostN k + k) (-1)).2 hT
  have hall : ∀ x, L ≤ x → x ≤ mostN k + k → fullB k f x = true := fun x hx hx2 => by
    rcases Nat.lt_or_ge x (mostN k + 2) with q | q
    · exact a3 x hx q
    · exact full_top h1 h5 hT x (by omega) hx2
  have e : L = L' := by
    rcases Nat.lt_trichotomy L L' with q | q | q
    · rcases b4 with z | z
      · omega
      · rw [hall (L' - 1) (by omega) (by omega)] at z; cases z
    · exact q
    · rcases a4 with z | z
      · omega
      · rw [b3 (L - 1) (by omega) (by omega)] at z; cases z
  subst e
  rw [b1, a1]
  exact ⟨rfl, by omega⟩
theorem mix_false (h1 : 1 ≤ k) (h5 : k ≤ 5) (h : (mixS k f (mostN k + 2)).2 = false) : rmS k f (mostN k + k) (-1) = -1 := by
  have hP : fullB k f (mostN k + 1) = false := by
    rcases (mixS_ok (k := k) (f := f) (mostN k + 2)).2 h with z | z
    · omega
    · exact z
  refine (rmS_ok (k := k) (f := f) (mostN k + k) (-1)).1 ?_
  cases hT : fullB k f (mostN k + k) with
  | false => rfl
  | true =>
    rw [full_top h1 h5 hT (mostN k + 1) (Nat.le_refl _) (by omega)] at hP; cases hP
end
def i6 (A : List DV) (n : Nat) (h h2 mi : Bool) (bt be mx w g2 : Int) (f : Nat) (_ : List DV) : DV := bif Nat.beq f 14 then .sl A n 1 false false else bif Nat.beq f 29 then .tup [bD h, iD 0] else bif Nat.beq f 30 then .tup [iD bt, iD be] else bif Nat.beq f 31 then .tup [iD mx, bD mi, iD 0] else bif Nat.beq f 32 then iD w else bif Nat.beq f 33 then bD h2 else bif Nat.beq f 34 then iD g2 else bD true
theorem t6 (ok : Nat → List DV → Bool) (A : List DV) (n : Nat) (h h2 mi : Bool) (bt be mx w g2 : Int) (a : DV) : startS aeC (evT ok (i6 A n h h2 mi bt be mx w g2)) 6 0 Try.f6 none ⟨envOf 0 [.d a], [], []⟩ (doneE aeC Try.f6 0 fun v h => freezeV h 4 v) =
  bif ok 14 [a, iD 5] then (bif ok 29 [.sl A n 1 false false] then (bif ok 30 [.sl A n 1 false false] then (bif ok 31 [.sl A n 1 false false] then (bif ok 32 [.sl A n 1 false false] then (bif ok 33 [.sl A n 1 false false] then
    (bif !decide (h = h2) then some (bD false) else bif !decide (mi = decide (0 ≤ w)) then some (bD false) else bif !decide (mx = if 0 > w then 0 else w) then some (bD false) else
      bif !h2 then (bif decide (be = 4) then (bif decide (bt = 0) then (bif ok 21 [] then some (bD true) else none) else some (bD false)) else some (bD false)) else
      bif decide (be = 0) then (bif ok 34 [.sl A n 1 false false] then (bif decide (bt = g2) then (bif ok 21 [] then some (bD true) else none) else some (bD false)) else none) else some (bD false)) else none) else none) else none) else none) else none) else none := by kernel_rfl
theorem k6 : OkSeg Try.f6 none [] := ⟨by kernel_rfl, by kernel_rfl, by decide⟩
/-- Law 6 on data. -/
theorem mixes_pure (Y : List (List Int × Bool)) (c z : Bool) : PureOK Try.prog 6 [.sl (rowsD Y) Y.length 1 c z] (bD true) := by
  obtain ⟨k, M, h1, h5, hM, hc⟩ := c14 Y c z 5 (by decide) (by decide)
  let h := hangsB k (fM M)
  let bt : Int := bif hangsB k (fM M) then (gS k (fM M) (2 * k + 1) : Nat) else 0
  let be : Int := bif hangsB k (fM M) then 0 else 4
  let mi := (mixS k (fM M) (mostN k + 2)).2
  let mx : Int := bif mi then (mixS k (fM M) (mostN k + 2)).1 else 0
  let w := rmS k (fM M) (mostN k + k) (-1)
  let g2 : Int := (gS k (fM M) (2 * k + 1) : Nat)
  let sh := i6 (M.map rowD) M.length h h mi bt be mx w g2
  have g14 : okS sh 14 [.sl (rowsD Y) Y.length 1 c z, iD 5] = true := okS_is hc
  have g29 : okS sh 29 [matD M] = true := okS_is (c29 hM h1 h5)
  have g30 : okS sh 30 [matD M] = true := okS_is (by
    have := c30 hM h1 h5
    have e : sh 30 [matD M] = beatD k (fM M) := by
      show DV.tup [iD bt, iD be] = _
      unfold beatD
      show DV.tup [iD (bif hangsB k (fM M) then _ else _), iD (bif hangsB k (fM M) then _ else _)] = _
      cases hangsB k (fM M) <;> rfl
    rw [e]; exact this)
  have g31 : okS sh 31 [matD M] = true := okS_is (by
    have := c31 hM h1 h5
    have e : sh 31 [matD M] = mixD k (fM M) := by
      show DV.tup [iD mx, bD mi, iD 0] = _
      unfold mixD
      show DV.tup [iD (bif (mixS k (fM M) (mostN k + 2)).2 then _ else _), bD (mixS k (fM M) (mostN k + 2)).2, iD 0] = _
      cases (mixS k (fM M) (mostN k + 2)).2 <;> rfl
    rw [e]; exact this)
  have g32 : okS sh 32 [matD M] = true := okS_is (c32 hM h1 h5)
  have g33 : okS sh 33 [matD M] = true := okS_is (c33 hM h5)
  have g34 : okS sh 34 [matD M] = true := okS_is (c34 hM h5)
  have g21 : okS sh 21 [] = true := okS_is awake_ok
  have e1 : decide (mi = decide (0 ≤ w)) = true := by
    apply decide_eq_true
    show (mixS k (fM M) (mostN k + 2)).2 = _
    cases hb : (mixS k (fM M) (mostN k + 2)).2 with
    | true =>
      obtain ⟨a, b⟩ := mix_true h1 h5 hb
      exact (decide_eq_true (show 0 ≤ rmS k (fM M) (mostN k + k) (-1) by rw [a]; exact b)).symm
    | false => exact (decide_eq_false (show ¬ 0 ≤ rmS k (fM M) (mostN k + k) (-1) by rw [mix_false h1 h5 hb]; decide)).symm
  have e2 : decide (mx = if 0 > w then 0 else w) = true := by
    apply decide_eq_true
    show (bif (mixS k (fM M) (mostN k + 2)).2 then (mixS k (fM M) (mostN k + 2)).1 else 0) = if 0 > rmS k (fM M) (mostN k + k) (-1) then 0 else rmS k (fM M) (mostN k + k) (-1)
    cases hb : (mixS k (fM M) (mostN k + 2)).2 with
    | true =>
      obtain ⟨a, b⟩ := mix_true h1 h5 hb
      rw [a, if_neg (by omega)]; rfl
    | false => rw [mix_false h1 h5 hb]; rfl
  refine ae_pure (evT_ok sh) (fn := Try.f6) k6 (by kernel_rfl) (by kernel_rfl) (startF_done k6 done_plain ((t6 (okS sh) (M.map rowD) M.length h h mi bt be mx w g2 _).trans ?_))
  unfold matD at g29 g30 g31 g32 g33 g34
  rw [g14, g29, g30, g31, g32, g33, g34, g21, e1, e2, decide_eq_true (rfl : h = h)]
  have hbe : be = bif hangsB k (fM M) then 0 else 4 := rfl
  have hbt : bt = bif hangsB k (fM M) then ((gS k (fM M) (2 * k + 1) : Nat) : Int) else 0 := rfl
  have hh : h = hangsB k (fM M) := rfl
  have hg2 : g2 = ((gS k (fM M) (2 * k + 1) : Nat) : Int) := rfl
  rw [hbe, hbt, hh, hg2]
  cases hangsB k (fM M) with
  | true =>
    simp only [cond_true, Bool.not_true, cond_false, decide_true]
  | false => rfl
end Go.Proofs.Ytjfopbpkophoeaa
