/- Part 5 of what the law stands on: the abstract machine over the model, and what the functions answer. No condition. -/
import Derived.Test.YtjfopbpkophoeaaK4
set_option linter.unusedSimpArgs false
set_option linter.unusedVariables false

/- Chapter 06: matrices as 25 numbers; unit, product, power. -/
namespace Go.Proofs.Ytjfopbpkophoeaa
open Go Go.AE
set_option maxRecDepth 100000
def mx25 (k : Nat) (f : Nat → Int) : List DV := [iD k, iD (f 0), iD (f 1), iD (f 2), iD (f 3), iD (f 4), iD (f 5), iD (f 6), iD (f 7), iD (f 8), iD (f 9), iD (f 10), iD (f 11), iD (f 12), iD (f 13), iD (f 14), iD (f 15), iD (f 16), iD (f 17), iD (f 18), iD (f 19), iD (f 20), iD (f 21), iD (f 22), iD (f 23), iD (f 24)]
noncomputable def evM (ok : Nat → List DV → Bool) (k : Nat) (P : List DV → Nat → Int) : Ev := evT ok (fun _ ds => .agg (mx25 k (P ds)))
def unitF (k i : Nat) : Int := bif Nat.blt (i / 5) k && Nat.beq (i / 5) (i % 5) then 1 else 0
def sumW (f g : Nat → Int) (r c : Nat) : Nat → Int
  | 0 => 0
  | n + 1 => IntKind.wrap .i64 (sumW f g r c n + IntKind.wrap .i64 (f (5 * r + n) * g (5 * n + c)))
def mulF (k : Nat) (f g : Nat → Int) (i : Nat) : Int := bif Nat.blt (i / 5) k && Nat.blt (i % 5) k then sumW f g (i / 5) (i % 5) k else 0
/-- A power. -/
def pw (k : Nat) (f : Nat → Int) : Nat → Nat → Int
  | 0 => unitF k
  | n + 1 => mulF k f (pw k f n)
def dec (d : DV) (i : Nat) : Int := match d with
  | .agg l => (match nth l (i + 1) with | some (.int _ n) => n | _ => 0)
  | _ => 0
def P62 (k : Nat) (ds : List DV) : Nat → Int := match ds with
  | [a, b] => mulF k (dec a) (dec b)
  | _ => unitF k
theorem c66_1 : PureOK Try.prog 66 [iD 1] (.agg (mx25 1 (unitF 1))) := walkA (by kernel_rfl : tget aeF 66 = some Try.f66) (by kernel_rfl)
theorem c66_2 : PureOK Try.prog 66 [iD 2] (.agg (mx25 2 (unitF 2))) := walkA (by kernel_rfl : tget aeF 66 = some Try.f66) (by kernel_rfl)
theorem c66_3 : PureOK Try.prog 66 [iD 3] (.agg (mx25 3 (unitF 3))) := walkA (by kernel_rfl : tget aeF 66 = some Try.f66) (by kernel_rfl)
theorem c66_4 : PureOK Try.prog 66 [iD 4] (.agg (mx25 4 (unitF 4))) := walkA (by kernel_rfl : tget aeF 66 = some Try.f66) (by kernel_rfl)
theorem c66_5 : PureOK Try.prog 66 [iD 5] (.agg (mx25 5 (unitF 5))) := walkA (by kernel_rfl : tget aeF 66 = some Try.f66) (by kernel_rfl)
theorem c85_1 (f g : Nat → Int) : PureOK Try.prog 85 [.agg (mx25 1 f), .agg (mx25 1 g)] (.agg (mx25 1 (mulF 1 f g))) := walkA (by kernel_rfl : tget aeF 85 = some Try.f85) (by kernel_rfl)
theorem c85_2 (f g : Nat → Int) : PureOK Try.prog 85 [.agg (mx25 2 f), .agg (mx25 2 g)] (.agg (mx25 2 (mulF 2 f g))) := walkA (by kernel_rfl : tget aeF 85 = some Try.f85) (by kernel_rfl)
theorem c85_3 (f g : Nat → Int) : PureOK Try.prog 85 [.agg (mx25 3 f), .agg (mx25 3 g)] (.agg (mx25 3 (mulF 3 f g))) := walkA (by kernel_rfl : tget aeF 85 = some Try.f85) (by kernel_rfl)
theorem c85_4 (f g : Nat → Int) : PureOK Try.prog 85 [.agg (mx25 4 f), .agg (mx25 4 g)] (.agg (mx25 4 (mulF 4 f g))) := walkA (by kernel_rfl : tget aeF 85 = some Try.f85) (by kernel_rfl)
theorem c85_5 (f g : Nat → Int) : PureOK Try.prog 85 [.agg (mx25 5 f), .agg (mx25 5 g)] (.agg (mx25 5 (mulF 5 f g))) := walkA (by kernel_rfl : tget aeF 85 = some Try.f85) (by kernel_rfl)
theorem five {k : Nat} (h1 : 1 ≤ k) (h5 : k ≤ 5) : k = 1 ∨ k = 2 ∨ k = 3 ∨ k = 4 ∨ k = 5 := by omega
noncomputable abbrev okM (k : Nat) : Nat → List DV → Bool := okS fun _ ds => .agg (mx25 k (P62 k ds))
theorem g66 {k : Nat} (h1 : 1 ≤ k) (h5 : k ≤ 5) : okM k 66 [iD k] = true := okS_is (by
  rcases five h1 h5 with rfl | rfl | rfl | rfl | rfl
  · exact c66_1
  · exact c66_2
  · exact c66_3
  · exact c66_4
  · exact c66_5)
theorem mx_dec {k : Nat} (h1 : 1 ≤ k) (h5 : k ≤ 5) (f g : Nat → Int) : mx25 k (P62 k [.agg (mx25 k f), .agg (mx25 k g)]) = mx25 k (mulF k f g) := by
  rcases five h1 h5 with rfl | rfl | rfl | rfl | rfl
  · kernel_rfl
  · kernel_rfl
  · kernel_rfl
  · kernel_rfl
  · kernel_rfl
theorem c85 {k : Nat} (h1 : 1 ≤ k) (h5 : k ≤ 5) (f g : Nat → Int) : PureOK Try.prog 85 [.agg (mx25 k f), .agg (mx25 k g)] (.agg (mx25 k (mulF k f g))) := by
  rcases five h1 h5 with rfl | rfl | rfl | rfl | rfl
  · exact c85_1 f g
  · exact c85_2 f g
  · exact c85_3 f g
  · exact c85_4 f g
  · exact c85_5 f g
theorem g85 {k : Nat} (h1 : 1 ≤ k) (h5 : k ≤ 5) (f g : Nat → Int) : okM k 85 [.agg (mx25 k f), .agg (mx25 k g)] = true := okS_is (by rw [mx_dec h1 h5]; exact c85 h1 h5 f g)
def s62 (k : Nat) (f g : Nat → Int) (n i : Int) : St := ⟨[(4, AV.ref 0 0), (5, AV.ref 1 0), (6, .d (DV.fn 85 [DV.agg (mx25 k f)] [])), (12, .d (iD n)), (13, .d (iD i))], [.dc (List.replicate 26 (iD 0)), .dc (mx25 k g)], []⟩
theorem h62 (ok : Nat → List DV → Bool) (k : Nat) (P : List DV → Nat → Int) (f : Nat → Int) (n : Int) : startS aeC (evM ok k P) 62 0 Try.f62 none ⟨envOf 0 [.d (.agg (mx25 k f)), .d (iD n)], [], []⟩ (heldD aeC 62 0) = bif ok 66 [iD k] then some (0, s62 k f (P [iD k]) n 0) else none := by kernel_rfl
theorem r62 (ok : Nat → List DV → Bool) (k : Nat) (P : List DV → Nat → Int) (f g : Nat → Int) (n i : Int) : startS aeC (evM ok k P) 62 0 Try.f62 (some 0) (s62 k f g n i) (roundD aeC 62 0 0) =
  bif decide (i < n) then (bif ok 85 [.agg (mx25 k f), .agg (mx25 k g)] then some (Ex.norm, s62 k f (P [.agg (mx25 k f), .agg (mx25 k g)]) n (IntKind.wrap .i64 (i + 1))) else none)
  else some (Ex.exit 0, ⟨[(4, AV.ref 0 0), (5, AV.ref 1 0)], [.dc (List.replicate 26 (iD 0)), .dc (mx25 k g)], []⟩) := by kernel_rfl
theorem e62 (ok : Nat → List DV → Bool) (k : Nat) (P : List DV → Nat → Int) (g : Nat → Int) : nextS aeC (evM ok k P) 62 0 Try.f62 none 0 (.exit 0) ⟨[(4, AV.ref 0 0), (5, AV.ref 1 0)], [.dc (List.replicate 26 (iD 0)), .dc (mx25 k g)], []⟩ (doneE aeC Try.f62 0 fun v h => freezeV h 4 v) = some (.agg (mx25 k g)) := by kernel_rfl
theorem k62 : OkSeg Try.f62 none [0] := ⟨by kernel_rfl, by kernel_rfl, by decide⟩
theorem k62_0 : OkSeg Try.f62 (some 0) [] := ⟨by kernel_rfl, by kernel_rfl, by decide⟩
theorem s62_eq (k : Nat) (f : Nat → Int) {g g' : Nat → Int} (n i : Int) (h : mx25 k g = mx25 k g') : s62 k f g n i = s62 k f g' n i := by unfold s62; rw [h]
theorem loop62 {k : Nat} (h1 : 1 ≤ k) (h5 : k ≤ 5) (f : Nat → Int) (n : Nat) (hn : n ≤ 1000) : ∀ (t i : Nat), i + t = n →
    LoopAt aeC (evM (okM k) k (P62 k)) 62 0 Try.f62 0 (s62 k f (pw k f i) n i) (.exit 0) ⟨[(4, AV.ref 0 0), (5, AV.ref 1 0)], [.dc (List.replicate 26 (iD 0)), .dc (mx25 k (pw k f n))], []⟩
  | 0, i, hi => by
    have : i = n := by omega
    subst this
    exact .out k62_0 (by simp) ((r62 ..).trans (cnd_neg (by omega)))
  | t + 1, i, hi => by
    have hw : IntKind.wrap .i64 ((i : Int) + 1) = ((i + 1 : Nat) : Int) := by rw [wrap64_o (by omega) (by omega)]; rfl
    refine .next k62_0 ((r62 ..).trans ((cnd_pos (by omega)).trans ((cond_is' (g85 h1 h5 f (pw k f i))).trans ?_))) (loop62 h1 h5 f n hn t (i + 1) (by omega))
    rw [hw, s62_eq k f _ _ (mx_dec h1 h5 f (pw k f i))]
    rfl
theorem c62 {k : Nat} (h1 : 1 ≤ k) (h5 : k ≤ 5) (f : Nat → Int) (n : Nat) (hn : n ≤ 1000) : PureOK Try.prog 62 [.agg (mx25 k f), iD n] (.agg (mx25 k (pw k f n))) :=
  ae_pure (evT_ok fun _ ds => .agg (mx25 k (P62 k ds))) (fn := Try.f62) k62 (by kernel_rfl) (by kernel_rfl) ((startF_seg k62 ((h62 (okM k) k (P62 k) f n).trans (cond_is' (g66 h1 h5))) (loop62 h1 h5 f n hn n 0 (by omega))).trans (nextF_done k62 done_plain (e62 ..)))
/-- A matrix's numbers. -/
def fM (M : List (List Int)) (i : Nat) : Int := (M.getD (i / 5) []).getD (i % 5) 0
theorem mtx_mx {k : Nat} {M : List (List Int)} (hM : matB k M) (h1 : 1 ≤ k) (h5 : k ≤ 5) : mtx M = .agg (mx25 k (fM M)) := by
  rcases mat_forms hM h1 h5 with ⟨rfl, x00, rfl⟩ | ⟨rfl, x00, x01, x10, x11, rfl⟩ | ⟨rfl, x00, x01, x02, x10, x11, x12, x20, x21, x22, rfl⟩ | ⟨rfl, x00, x01, x02, x03, x10, x11, x12, x13, x20, x21, x22, x23, x30, x31, x32, x33, rfl⟩ | ⟨rfl, x00, x01, x02, x03, x04, x10, x11, x12, x13, x14, x20, x21, x22, x23, x24, x30, x31, x32, x33, x34, x40, x41, x42, x43, x44, rfl⟩
  · kernel_rfl
  · kernel_rfl
  · kernel_rfl
  · kernel_rfl
  · kernel_rfl
end Go.Proofs.Ytjfopbpkophoeaa

/- Chapter 06: trips in plain Lean: where a power is not 0; the first trip. -/
namespace Go.Proofs.Ytjfopbpkophoeaa
open Go Go.AE
/-- Whether there is a trip of a length from a state to j. -/
def reach (k : Nat) (f : Nat → Int) (j : Nat) : Nat → Nat → Bool
  | 0, i => Nat.beq i j
  | n + 1, i => (List.range k).any fun x => decide (0 < f (5 * i + x)) && reach k f j n x
def lst (p : Nat → Bool) : Nat → Nat
  | 0 => 0
  | n + 1 => bif Nat.blt (lst p n) n then lst p n else bif p n then n else n + 1
theorem lst_ok (p : Nat → Bool) : ∀ n, lst p n ≤ n ∧ (lst p n < n → p (lst p n) = true) ∧ ∀ y < lst p n, p y = false
  | 0 => ⟨Nat.le_refl _, fun h => absurd h (Nat.lt_irrefl _), fun y h => absurd h (Nat.not_lt_zero _)⟩
  | n + 1 => by
    obtain ⟨h1, h2, h3⟩ := lst_ok p n
    unfold lst
    cases hb : Nat.blt (lst p n) n with
    | true =>
      rw [Nat.blt_eq] at hb
      exact ⟨by simp only [cond_true]; omega, fun _ => h2 hb, h3⟩
    | false =>
      have he : lst p n = n := by
        have : ¬ lst p n < n := by rw [← Nat.blt_eq, hb]; simp
        omega
      rw [he] at h3
      cases hp : p n with
      | true => exact ⟨Nat.le_succ _, fun _ => hp, h3⟩
      | false =>
        refine ⟨Nat.le_refl _, fun h => absurd h (Nat.lt_irrefl _), fun y hy => ?_⟩
        simp only [cond_false] at hy
        rcases Nat.lt_or_ge y n with q | q
        · exact h3 y q
        · have : y = n := by omega
          subst this; exact hp
theorem lst_lt {p : Nat → Bool} {n x : Nat} (hx : x < n) (hp : p x = true) : lst p n < n := by
  rcases Nat.lt_or_ge (lst p n) n with q | q
  · exact q
  · have := (lst_ok p n).2.2 x (by omega)
    rw [hp] at this; cases this
def stepB (k : Nat) (f : Nat → Int) (j n i x : Nat) : Bool := decide (0 < f (5 * i + x)) && reach k f j n x
/-- The next state of the first trip. -/
def nxt (k : Nat) (f : Nat → Int) (j n i : Nat) : Nat := lst (stepB k f j n i) k
/-- The first trip, behind its first state. -/
def trip (k : Nat) (f : Nat → Int) (j : Nat) : Nat → Nat → List Nat
  | 0, _ => []
  | n + 1, i => nxt k f j n i :: trip k f j n (nxt k f j n i)
theorem trip_len (k : Nat) (f : Nat → Int) (j : Nat) : ∀ n i, (trip k f j n i).length = n
  | 0, _ => rfl
  | n + 1, i => by simp [trip, trip_len k f j n]
theorem reach_succ {k : Nat} {f : Nat → Int} {j n i : Nat} : reach k f j (n + 1) i = true ↔ ∃ x, x < k ∧ 0 < f (5 * i + x) ∧ reach k f j n x = true := by
  simp only [reach, List.any_eq_true, List.mem_range, Bool.and_eq_true, decide_eq_true_eq]
theorem nxt_ok {k : Nat} {f : Nat → Int} {j n i : Nat} (h : reach k f j (n + 1) i = true) : nxt k f j n i < k ∧ 0 < f (5 * i + nxt k f j n i) ∧ reach k f j n (nxt k f j n i) = true ∧ ∀ x < nxt k f j n i, stepB k f j n i x = false := by
  obtain ⟨x, h1, h2, h3⟩ := reach_succ.1 h
  have hp : stepB k f j n i x = true := by simp [stepB, h2, h3]
  have hl : nxt k f j n i < k := lst_lt h1 hp
  obtain ⟨_, g2, g3⟩ := lst_ok (stepB k f j n i) k
  have := g2 hl
  simp only [stepB, Bool.and_eq_true, decide_eq_true_eq] at this
  exact ⟨hl, this.1, this.2, g3⟩
/-! ### Powers -/
theorem sumW_ok {f g : Nat → Int} {r c : Nat} {B : Int} (hB0 : 0 ≤ B) (hB : B ≤ 100000000000000000) (hf : ∀ x < 5, 0 ≤ f (5 * r + x) ∧ f (5 * r + x) ≤ 9) : ∀ N : Nat, N ≤ 5 → (∀ x < N, 0 ≤ g (5 * x + c) ∧ g (5 * x + c) ≤ B) →
    0 ≤ sumW f g r c N ∧ sumW f g r c N ≤ 9 * B * N ∧ (sumW f g r c N ≠ 0 ↔ ∃ x, x < N ∧ 0 < f (5 * r + x) ∧ g (5 * x + c) ≠ 0)
  | 0, _, _ => ⟨Int.le_refl _, by simp [sumW], by simp [sumW]⟩
  | N + 1, hN, hg => by
    obtain ⟨i1, i2, i3⟩ := sumW_ok hB0 hB hf N (by omega) (fun x hx => hg x (by omega))
    obtain ⟨f1, f2⟩ := hf N (by omega)
    obtain ⟨g1, g2⟩ := hg N (by omega)
    have p1 : 0 ≤ f (5 * r + N) * g (5 * N + c) := Int.mul_nonneg f1 g1
    have p2 : f (5 * r + N) * g (5 * N + c) ≤ 9 * B := Int.mul_le_mul f2 g2 g1 (by omega)
    have p3 : f (5 * r + N) * g (5 * N + c) ≠ 0 ↔ 0 < f (5 * r + N) ∧ g (5 * N + c) ≠ 0 := by
      rw [Int.mul_ne_zero_iff]
      constructor
      · rintro ⟨a, b⟩; exact ⟨by omega, b⟩
      · rintro ⟨a, b⟩; exact ⟨by omega, b⟩
    have i4 : 9 * B * N ≤ 9 * B * 4 := Int.mul_le_mul_of_nonneg_left (by omega) (by omega)
    have i5 : 9 * B * ((N + 1 : Nat) : Int) = 9 * B * N + 9 * B := by
      rw [show ((N + 1 : Nat) : Int) = (N : Int) + 1 from rfl, Int.mul_add, Int.mul_one]
    generalize hq : f (5 * r + N) * g (5 * N + c) = q at p1 p2 p3
    have e : sumW f g r c (N + 1) = sumW f g r c N + q := by
      show IntKind.wrap .i64 (sumW f g r c N + IntKind.wrap .i64 (f (5 * r + N) * g (5 * N + c))) = _
      rw [hq, wrap64_o (n := q) (by omega) (by omega), wrap64_o (by omega) (by omega)]
    rw [e, i5]
    refine ⟨by omega, by omega, ?_⟩
    constructor
    · intro h
      by_cases hz : sumW f g r c N = 0
      · have : q ≠ 0 := by omega
        exact ⟨N, by omega, p3.1 this⟩
      · obtain ⟨x, hx, h1⟩ := i3.1 hz
        exact ⟨x, by omega, h1⟩
    · rintro ⟨x, hx, h1⟩
      by_cases hxN : x < N
      · have := i3.2 ⟨x, hxN, h1⟩; omega
      · have : x = N := by omega
        subst this
        have := p3.2 h1; omega
theorem idx5 {i j : Nat} (hj : j < 5) : (5 * i + j) / 5 = i ∧ (5 * i + j) % 5 = j := by omega
theorem pw_ok {k : Nat} (h5 : k ≤ 5) {f : Nat → Int} (hf : ∀ i < 25, 0 ≤ f i ∧ f i ≤ 9) {j : Nat} (hj : j < k) : ∀ (n : Nat), n ≤ 10 → ∀ i < k, 0 ≤ pw k f n (5 * i + j) ∧ pw k f n (5 * i + j) ≤ 45 ^ n ∧ (pw k f n (5 * i + j) ≠ 0 ↔ reach k f j n i = true)
  | 0, _, i, hi => by
    obtain ⟨q1, q2⟩ := idx5 (i := i) (show j < 5 by omega)
    have hb : Nat.blt i k = true := by rw [Nat.blt_eq]; exact hi
    show 0 ≤ unitF k (5 * i + j) ∧ unitF k (5 * i + j) ≤ 1 ∧ (unitF k (5 * i + j) ≠ 0 ↔ Nat.beq i j = true)
    unfold unitF
    rw [q1, q2, hb, Bool.true_and]
    cases Nat.beq i j <;> simp
  | n + 1, hn, i, hi => by
    obtain ⟨q1, q2⟩ := idx5 (i := i) (show j < 5 by omega)
    have hb : Nat.blt i k = true := by rw [Nat.blt_eq]; exact hi
    have hb2 : Nat.blt j k = true := by rw [Nat.blt_eq]; exact hj
    have e : pw k f (n + 1) (5 * i + j) = sumW f (pw k f n) i j k := by
      show mulF k f (pw k f n) (5 * i + j) = _
      unfold mulF
      rw [q1, q2, hb, hb2]; rfl
    have hB : (45 : Int) ^ n ≤ 45 ^ 9 := by
      have : n ≤ 9 := by omega
      exact_mod_cast Nat.pow_le_pow_right (show 0 < 45 by decide) this
    have hB0 : (0 : Int) ≤ 45 ^ n := Int.le_of_lt (Int.pow_pos (by decide))
    have h9 : (45 : Int) ^ 9 ≤ 100000000000000000 := by decide
    obtain ⟨s1, s2, s3⟩ := sumW_ok (f := f) (g := pw k f n) (r := i) (c := j) hB0 (by omega) (fun x hx => hf (5 * i + x) (by omega)) k h5 (fun x hx => by
      obtain ⟨a, b, _⟩ := pw_ok h5 hf hj n (by omega) x hx
      exact ⟨a, b⟩)
    have hk : 9 * (45 : Int) ^ n * k ≤ 9 * 45 ^ n * 5 := Int.mul_le_mul_of_nonneg_left (by omega) (by omega)
    have hs : (45 : Int) ^ (n + 1) = 9 * 45 ^ n * 5 := by rw [Int.pow_succ]; omega
    rw [e]
    refine ⟨s1, by omega, ?_⟩
    rw [s3, reach_succ]
    constructor
    · rintro ⟨x, h1, h2, h3⟩
      exact ⟨x, h1, h2, (pw_ok h5 hf hj n (by omega) x h1).2.2.1 h3⟩
    · rintro ⟨x, h1, h2, h3⟩
      exact ⟨x, h1, h2, (pw_ok h5 hf hj n (by omega) x h1).2.2.2 h3⟩
theorem fM_b {k : Nat} {M : List (List Int)} (hM : matB k M) (i : Nat) : 0 ≤ fM M i ∧ fM M i ≤ 9 := by
  unfold fM
  rw [List.getD_eq_getElem?_getD (l := M)]
  rcases Nat.lt_or_ge (i / 5) M.length with q | q
  · rw [List.getElem?_eq_getElem q, Option.getD_some]
    have h := hM.2 _ (List.getElem_mem q)
    rw [List.getD_eq_getElem?_getD]
    rcases Nat.lt_or_ge (i % 5) (M[i / 5]).length with p | p
    · rw [List.getElem?_eq_getElem p, Option.getD_some]
      exact smallB_at h.2 _ (List.getElem_mem p)
    · rw [List.getElem?_eq_none p]; simp
  · rw [List.getElem?_eq_none q]; simp
end Go.Proofs.Ytjfopbpkophoeaa

/- Chapter 06: law 10, round by round: a context in which rows in lists stay rows. Written by wip/tools/genE1.py. -/
namespace Go.Proofs.Ytjfopbpkophoeaa
open Go Go.AE
set_option maxRecDepth 100000
noncomputable def aeC6 : Ctx := { aeC.open' [78, 14] with settle := false }
theorem ae_fn6 {f : FuncId} {fn : Func} (h : tget aeF f = some fn) : FnOK Try.prog aeC6 f fn := (ae_fn h).same (show aeC6.plan = aeC.plan from rfl)
theorem ae_pure6 {E : Ev} (hE : EvOK Try.prog E) {f : FuncId} {fn : Func} {ids : List Nat} {ds : List DV} {d : DV} (ok : OkSeg fn none ids) (h : tget aeF f = some fn) (hb : (fn.body.isSome && Nat.ble ds.length fn.ntmps) = true)
    (e : startF aeC6 E f 0 fn none ⟨envOf 0 (ds.map .d), [], []⟩ (doneE aeC6 fn 0 fun v h => freezeV h 4 v) = some d) (hfr : freshF f = false := by rfl) : PureOK Try.prog f ds d :=
  pure_of_go (C := aeC6) ae_T ae_Q ae_mixed hE (ae_fn6 h) ok hb e hfr
theorem ae_call6 {E : Ev} (hE : EvOK Try.prog E) {f : FuncId} {fn : Func} {ids : List Nat} {xs : List AV} {h0 h' : List Blk} {v : AV} (ok : OkSeg fn none ids) (h : tget aeF f = some fn) (hb : (fn.body.isSome && Nat.ble xs.length fn.ntmps) = true)
    (e : startF aeC6 E f h0.length fn none ⟨envOf 0 xs, h0, []⟩ (doneE aeC6 fn h0.length fun v h => some (v, h)) = some (v, h')) : CallOK Try.prog f xs h0 v h' :=
  call_of_go (C := aeC6) ae_T ae_Q ae_mixed hE (ae_fn6 h) ok hb e
/-- What the functions answer that the law calls. -/
structure T10 where
  Y : List DV → List DV
  N : List DV → Nat
  Z : List DV → Nat
  L : List DV → Bool
  E : List DV → Int
  C : List DV → Bool
  V : List DV → List DV
  W : List DV → Nat
  X : List DV → Nat
  U : List DV → Bool
  O : List DV → Bool
  S : List DV → Bool
def s2 (k : Nat) (s : Int) : Int := IntKind.wrap IntKind.i64 (Int.tmod (IntKind.wrap IntKind.u64 s) (IntKind.wrap IntKind.u64 (IntKind.wrap IntKind.i64 ((k : Int) - 1))))
def t2 (k : Nat) (s t : Int) : Int := IntKind.wrap IntKind.i64 (IntKind.wrap IntKind.i64 (s2 k s + 1) + IntKind.wrap IntKind.i64 (Int.tmod (IntKind.wrap IntKind.u64 t) (IntKind.wrap IntKind.u64 (IntKind.wrap IntKind.i64 (IntKind.wrap IntKind.i64 ((k : Int) - 1) - s2 k s)))))

end Go.Proofs.Ytjfopbpkophoeaa
