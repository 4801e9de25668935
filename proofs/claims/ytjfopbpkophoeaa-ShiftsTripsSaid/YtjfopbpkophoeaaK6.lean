/- Part 6 of what the law stands on: the abstract machine over the model, and what the functions answer. No condition. -/
import Derived.Test.YtjfopbpkophoeaaK5
set_option linter.unusedSimpArgs false
set_option linter.unusedVariables false

/- Chapter 06: matrices as 25 numbers; unit, product, power. -/
namespace Go.Proofs.Ytjfopbpkophoeaa
open Go Go.AE
set_option maxRecDepth 100000
def mx25 (k : Nat) (f : Nat → Int) : List DV := [iD k, iD (f 0), iD (f 1), iD (f 2), iD (f 3), iD (f 4), iD (f 5), iD (f 6), iD (f 7), iD (f 8), iD (f 9), iD (f 10), iD (f 11), iD (f 12), iD (f 13), iD (f 14), iD (f 15), iD (f 16), iD (f 17), iD (f 18), iD (f 19), iD (f 20), iD (f 21), iD (f 22), iD (f 23), iD (f 24)]
noncomputable def evM (ok : Nat → List DV → Bool) (k : Nat) (P : List DV → Nat → Int) : Ev := evT ok (fun _ ds => .agg (mx25 k (P ds)))
def unitF (k i : Nat) : Int := bif Nat.blt (i / 5) k && Nat.beq (i / 5) (i % 5) then 1 else 0
def sumW (f g : Nat → Int) (r c : Nat) : Nat → Int
  | 0 => 0
  | n + 1 => IntKind.wrap .i64 (sumW f g r c n + IntKind.wrap .i64 (f (5 * r + n) * g (5 * n + c)))
def mulF (k : Nat) (f g : Nat → Int) (i : Nat) : Int := bif Nat.blt (i / 5) k && Nat.blt (i % 5) k then sumW f g (i / 5) (i % 5) k else 0
/-- A power. -/
def pw (k : Nat) (f : Nat → Int) : Nat → Nat → Int
  | 0 => unitF k
  | n + 1 => mulF k f (pw k f n)
def dec (d : DV) (i : Nat) : Int := match d with
  | .agg l => (match nth l (i + 1) with | some (.int _ n) => n | _ => 0)
  | _ => 0
def P62 (k : Nat) (ds : List DV) : Nat → Int := match ds with
  | [a, b] => mulF k (dec a) (dec b)
  | _ => unitF k
theorem c66_1 : PureOK Try.prog 66 [iD 1] (.agg (mx25 1 (unitF 1))) := walkA (by kernel_rfl : tget aeF 66 = some Try.f66) (by kernel_rfl)
theorem c66_2 : PureOK Try.prog 66 [iD 2] (.agg (mx25 2 (unitF 2))) := walkA (by kernel_rfl : tget aeF 66 = some Try.f66) (by kernel_rfl)
theorem c66_3 : PureOK Try.prog 66 [iD 3] (.agg (mx25 3 (unitF 3))) := walkA (by kernel_rfl : tget aeF 66 = some Try.f66) (by kernel_rfl)
theorem c66_4 : PureOK Try.prog 66 [iD 4] (.agg (mx25 4 (unitF 4))) := walkA (by kernel_rfl : tget aeF 66 = some Try.f66) (by kernel_rfl)
theorem c66_5 : PureOK Try.prog 66 [iD 5] (.agg (mx25 5 (unitF 5))) := walkA (by kernel_rfl : tget aeF 66 = some Try.f66) (by kernel_rfl)
theorem c85_1 (f g : Nat → Int) : PureOK Try.prog 85 [.agg (mx25 1 f), .agg (mx25 1 g)] (.agg (mx25 1 (mulF 1 f g))) := walkA (by kernel_rfl : tget aeF 85 = some Try.f85) (by kernel_rfl)
theorem c85_2 (f g : Nat → Int) : PureOK Try.prog 85 [.agg (mx25 2 f), .agg (mx25 2 g)] (.agg (mx25 2 (mulF 2 f g))) := walkA (by kernel_rfl : tget aeF 85 = some Try.f85) (by kernel_rfl)
theorem c85_3 (f g : Nat → Int) : PureOK Try.prog 85 [.agg (mx25 3 f), .agg (mx25 3 g)] (.agg (mx25 3 (mulF 3 f g))) := walkA (by kernel_rfl : tget aeF 85 = some Try.f85) (by kernel_rfl)
theorem c85_4 (f g : Nat → Int) : PureOK Try.prog 85 [.agg (mx25 4 f), .agg (mx25 4 g)] (.agg (mx25 4 (mulF 4 f g))) := walkA (by kernel_rfl : tget aeF 85 = some Try.f85) (by kernel_rfl)
theorem c85_5 (f g : Nat → Int) : PureOK Try.prog 85 [.agg (mx25 5 f), .agg (mx25 5 g)] (.agg (mx25 5 (mulF 5 f g))) := walkA (by kernel_rfl : tget aeF 85 = some Try.f85) (by kernel_rfl)
theorem five {k : Nat} (h1 : 1 ≤ k) (h5 : k ≤ 5) : k = 1 ∨ k = 2 ∨ k = 3 ∨ k = 4 ∨ k = 5 := by omega
noncomputable abbrev okM (k : Nat) : Nat → List DV → Bool := okS fun _ ds => .agg (mx25 k (P62 k ds))
theorem g66 {k : Nat} (h1 : 1 ≤ k) (h5 : k ≤ 5) : okM k 66 [iD k] = true := okS_is (by
  rcases five h1 h5 with rfl | rfl | rfl | rfl | rfl
  · exact c66_1
  · exact c66_2
  · exact c66_3
  · exact c66_4
  · exact c66_5)
theorem mx_dec {k : Nat} (h1 : 1 ≤ k) (h5 : k ≤ 5) (f g : Nat → Int) : mx25 k (P62 k [.agg (mx25 k f), .agg (mx25 k g)]) = mx25 k (mulF k f g) := by
  rcases five h1 h5 with rfl | rfl | rfl | rfl | rfl
  · kernel_rfl
  · kernel_rfl
  · kernel_rfl
  · kernel_rfl
  · kernel_rfl
theorem c85 {k : Nat} (h1 : 1 ≤ k) (h5 : k ≤ 5) (f g : Nat → Int) : PureOK Try.prog 85 [.agg (mx25 k f), .agg (mx25 k g)] (.agg (mx25 k (mulF k f g))) := by
  rcases five h1 h5 with rfl | rfl | rfl | rfl | rfl
  · exact c85_1 f g
  · exact c85_2 f g
  · exact c85_3 f g
  · exact c85_4 f g
  · exact c85_5 f g
theorem g85 {k : Nat} (h1 : 1 ≤ k) (h5 : k ≤ 5) (f g : Nat → Int) : okM k 85 [.agg (mx25 k f), .agg (mx25 k g)] = true := okS_is (by rw [mx_dec h1 h5]; exact c85 h1 h5 f g)
def s62 (k : Nat) (f g : Nat → Int) (n i : Int) : St := ⟨[(4, AV.ref 0 0), (5, AV.ref 1 0), (6, .d (DV.fn 85 [DV.agg (mx25 k f)] [])), (12, .d (iD n)), (13, .d (iD i))], [.dc (List.replicate 26 (iD 0)), .dc (mx25 k g)], []⟩
theorem h62 (ok : Nat → List DV → Bool) (k : Nat) (P : List DV → Nat → Int) (f : Nat → Int) (n : Int) : startS aeC (evM ok k P) 62 0 Try.f62 none ⟨envOf 0 [.d (.agg (mx25 k f)), .d (iD n)], [], []⟩ (heldD aeC 62 0) = bif ok 66 [iD k] then some (0, s62 k f (P [iD k]) n 0) else none := by kernel_rfl
theorem r62 (ok : Nat → List DV → Bool) (k : Nat) (P : List DV → Nat → Int) (f g : Nat → Int) (n i : Int) : startS aeC (evM ok k P) 62 0 Try.f62 (some 0) (s62 k f g n i) (roundD aeC 62 0 0) =
  bif decide (i < n) then (bif ok 85 [.agg (mx25 k f), .agg (mx25 k g)] then some (Ex.norm, s62 k f (P [.agg (mx25 k f), .agg (mx25 k g)]) n (IntKind.wrap .i64 (i + 1))) else none)
  else some (Ex.exit 0, ⟨[(4, AV.ref 0 0), (5, AV.ref 1 0)], [.dc (List.replicate 26 (iD 0)), .dc (mx25 k g)], []⟩) := by kernel_rfl
theorem e62 (ok : Nat → List DV → Bool) (k : Nat) (P : List DV → Nat → Int) (g : Nat → Int) : nextS aeC (evM ok k P) 62 0 Try.f62 none 0 (.exit 0) ⟨[(4, AV.ref 0 0), (5, AV.ref 1 0)], [.dc (List.replicate 26 (iD 0)), .dc (mx25 k g)], []⟩ (doneE aeC Try.f62 0 fun v h => freezeV h 4 v) = some (.agg (mx25 k g)) := by kernel_rfl
theorem k62 : OkSeg Try.f62 none [0] := ⟨by kernel_rfl, by kernel_rfl, by decide⟩
theorem k62_0 : OkSeg Try.f62 (some 0) [] := ⟨by kernel_rfl, by kernel_rfl, by decide⟩
theorem s62_eq (k : Nat) (f : Nat → Int) {g g' : Nat → Int} (n i : Int) (h : mx25 k g = mx25 k g') : s62 k f g n i = s62 k f g' n i := by unfold s62; rw [h]
theorem loop62 {k : Nat} (h1 : 1 ≤ k) (h5 : k ≤ 5) (f : Nat → Int) (n : Nat) (hn : n ≤ 1000) : ∀ (t i : Nat), i + t = n →
    LoopAt aeC (evM (okM k) k (P62 k)) 62 0 Try.f62 0 (s62 k f (pw k f i) n i) (.exit 0) ⟨[(4, AV.ref 0 0), (5, AV.ref 1 0)], [.dc (List.replicate 26 (iD 0)), .dc (mx25 k (pw k f n))], []⟩
  | 0, i, hi => by
    have : i = n := by omega
    subst this
    exact .out k62_0 (by simp) ((r62 ..).trans (cnd_neg (by omega)))
  | t + 1, i, hi => by
    have hw : IntKind.wrap .i64 ((i : Int) + 1) = ((i + 1 : Nat) : Int) := by rw [wrap64_o (by omega) (by omega)]; rfl
    refine .next k62_0 ((r62 ..).trans ((cnd_pos (by omega)).trans ((cond_is' (g85 h1 h5 f (pw k f i))).trans ?_))) (loop62 h1 h5 f n hn t (i + 1) (by omega))
    rw [hw, s62_eq k f _ _ (mx_dec h1 h5 f (pw k f i))]
    rfl
theorem c62 {k : Nat} (h1 : 1 ≤ k) (h5 : k ≤ 5) (f : Nat → Int) (n : Nat) (hn : n ≤ 1000) : PureOK Try.prog 62 [.agg (mx25 k f), iD n] (.agg (mx25 k (pw k f n))) :=
  ae_pure (evT_ok fun _ ds => .agg (mx25 k (P62 k ds))) (fn := Try.f62) k62 (by kernel_rfl) (by kernel_rfl) ((startF_seg k62 ((h62 (okM k) k (P62 k) f n).trans (cond_is' (g66 h1 h5))) (loop62 h1 h5 f n hn n 0 (by omega))).trans (nextF_done k62 done_plain (e62 ..)))
/-- A matrix's numbers. -/
def fM (M : List (List Int)) (i : Nat) : Int := (M.getD (i / 5) []).getD (i % 5) 0
theorem mtx_mx {k : Nat} {M : List (List Int)} (hM : matB k M) (h1 : 1 ≤ k) (h5 : k ≤ 5) : mtx M = .agg (mx25 k (fM M)) := by
  rcases mat_forms hM h1 h5 with ⟨rfl, x00, rfl⟩ | ⟨rfl, x00, x01, x10, x11, rfl⟩ | ⟨rfl, x00, x01, x02, x10, x11, x12, x20, x21, x22, rfl⟩ | ⟨rfl, x00, x01, x02, x03, x10, x11, x12, x13, x20, x21, x22, x23, x30, x31, x32, x33, rfl⟩ | ⟨rfl, x00, x01, x02, x03, x04, x10, x11, x12, x13, x14, x20, x21, x22, x23, x24, x30, x31, x32, x33, x34, x40, x41, x42, x43, x44, rfl⟩
  · kernel_rfl
  · kernel_rfl
  · kernel_rfl
  · kernel_rfl
  · kernel_rfl
end Go.Proofs.Ytjfopbpkophoeaa

/- Chapter 06: counting orbits, in plain Lean. -/
namespace Go.Proofs.Ytjfopbpkophoeaa
open Go Go.AE
/-! ### Numbers modulo 2 ^ 64 -/
abbrev W (n : Int) : Int := IntKind.wrap IntKind.i64 n
theorem W_def (n : Int) : W n = (n + 9223372036854775808) % 18446744073709551616 - 9223372036854775808 := by
  show IntKind.wrap .i64 n = _
  rw [IntKind.wrap_i64]
theorem W_mod (n : Int) : W n % 18446744073709551616 = n % 18446744073709551616 := by rw [W_def]; omega
theorem W_eq {a b : Int} (h : a % 18446744073709551616 = b % 18446744073709551616) : W a = W b := by rw [W_def, W_def]; omega
theorem W_W (n : Int) : W (W n) = W n := W_eq (W_mod n)
theorem W_addR (a b : Int) : W (a + W b) = W (a + b) := W_eq (by have := W_mod b; omega)
theorem W_addL (a b : Int) : W (W a + b) = W (a + b) := W_eq (by have := W_mod a; omega)
theorem W_subR (a b : Int) : W (a - W b) = W (a - b) := W_eq (by have := W_mod b; omega)
theorem W_subL (a b : Int) : W (W a - b) = W (a - b) := W_eq (by have := W_mod a; omega)
theorem W_mulL (a b : Int) : W (W a * b) = W (a * b) := W_eq (by rw [Int.mul_emod, W_mod, ← Int.mul_emod])
theorem W_mulR (a b : Int) : W (a * W b) = W (a * b) := W_eq (by rw [Int.mul_emod, W_mod, ← Int.mul_emod])
/-! ### Orbits -/
/-- What the shorter ones have. -/
def osum (g : Nat → Int) (d : Nat) : Nat → Int
  | 0 => 0
  | n + 1 => osum g d n + bif Nat.beq (d % (n + 1)) 0 then ((n + 1 : Nat) : Int) * g (n + 1) else 0
theorem osum_eq {g g' : Nat → Int} {d : Nat} : ∀ n, (∀ c, 1 ≤ c → c ≤ n → g c = g' c) → osum g d n = osum g' d n
  | 0, _ => rfl
  | n + 1, h => by
    unfold osum
    rw [osum_eq n fun c h1 h2 => h c h1 (by omega), h (n + 1) (by omega) (Nat.le_refl _)]
/-- Orbits, up to a length. -/
def orbN (t : Nat → Int) : Nat → Nat → Int
  | 0, _ => 0
  | n + 1, d => W (Int.tdiv (W (t d - osum (orbN t n) d (d - 1))) d)
theorem orbN_eq (t : Nat → Int) : ∀ n n' d, d ≤ n → d ≤ n' → 1 ≤ d → orbN t n d = orbN t n' d
  | 0, _, d, h, _, h1 => by omega
  | _ + 1, 0, d, _, h, h1 => by omega
  | n + 1, n' + 1, d, h, h', h1 => by
    unfold orbN
    rw [osum_eq (d - 1) fun c c1 c2 => orbN_eq t n n' c (by omega) (by omega) c1]
def orb (t : Nat → Int) (d : Nat) : Int := orbN t d d
theorem orb_eq (t : Nat → Int) {d : Nat} (h1 : 1 ≤ d) : orb t d = W (Int.tdiv (W (t d - osum (orb t) d (d - 1))) d) := by
  obtain ⟨n, rfl⟩ : ∃ n, d = n + 1 := ⟨d - 1, by omega⟩
  show orbN t (n + 1) (n + 1) = _
  conv => lhs; unfold orbN
  rw [osum_eq (g' := orb t) (n + 1 - 1) fun c c1 c2 => (orbN_eq t n c c (by omega) (Nat.le_refl _) c1 : orbN t n c = orb t c)]
/-! ### The divisors of a number, in order -/
def dvs (m : Nat) : Nat → List Nat
  | 0 => []
  | d + 1 => dvs m d ++ bif Nat.beq (m % (d + 1)) 0 then [d + 1] else []
theorem dvs_mem {m c : Nat} : ∀ {d : Nat}, c ∈ dvs m d ↔ 1 ≤ c ∧ c ≤ d ∧ m % c = 0
  | 0 => by simp [dvs]; omega
  | d + 1 => by
    unfold dvs
    rw [List.mem_append, dvs_mem]
    cases hb : Nat.beq (m % (d + 1)) 0 with
    | true =>
      rw [Nat.beq_eq] at hb
      simp only [cond_true, List.mem_singleton]
      constructor
      · rintro (⟨a, b, c⟩ | rfl)
        · exact ⟨a, by omega, c⟩
        · exact ⟨by omega, by omega, hb⟩
      · rintro ⟨a, b, e⟩
        by_cases q : c = d + 1
        · exact .inr q
        · exact .inl ⟨a, by omega, e⟩
    | false =>
      simp only [cond_false, List.not_mem_nil, or_false]
      constructor
      · rintro ⟨a, b, c⟩; exact ⟨a, by omega, c⟩
      · rintro ⟨a, b, e⟩
        refine ⟨a, ?_, e⟩
        by_cases q : c = d + 1
        · subst q
          have : Nat.beq (m % (d + 1)) 0 = true := by rw [Nat.beq_eq]; exact e
          rw [hb] at this; cases this
        · omega
/-- What a shorter one has at d. -/
def qd (g : Nat → Int) (d c : Nat) : Int := bif Nat.beq (d % c) 0 then (c : Int) * g c else 0
theorem sum_app (l l' : List Int) : (l ++ l').sum = l.sum + l'.sum := by
  induction l with
  | nil => simp
  | cons x l ih => simp only [List.cons_append, List.sum_cons, ih]; omega
theorem dvs_sum (g : Nat → Int) {m d : Nat} (hd : m % d = 0) : ∀ n, ((dvs m n).map (qd g d)).sum = osum g d n
  | 0 => rfl
  | n + 1 => by
    unfold dvs osum
    rw [List.map_append, sum_app, dvs_sum g hd n]
    congr 1
    cases hb : Nat.beq (m % (n + 1)) 0 with
    | true => simp [qd]
    | false =>
      have : Nat.beq (d % (n + 1)) 0 = false := by
        cases h2 : Nat.beq (d % (n + 1)) 0 with
        | false => rfl
        | true =>
          rw [Nat.beq_eq] at h2
          have : (n + 1) ∣ m := Nat.dvd_trans (Nat.dvd_of_mod_eq_zero h2) (Nat.dvd_of_mod_eq_zero hd)
          have h3 := Nat.mod_eq_zero_of_dvd this
          have : Nat.beq (m % (n + 1)) 0 = true := by rw [Nat.beq_eq]; exact h3
          rw [hb] at this; cases this
      rw [this]; simp
/-! ### What is left -/
def remL (q : Nat → Int) (seen : List Nat) : Nat → List Nat → Int
  | _, [] => 0
  | i, c :: cs => (bif seen.contains i then 0 else q c) + remL q seen (i + 1) cs
theorem remL_below (q : Nat → Int) (seen : List Nat) (j : Nat) : ∀ (cs : List Nat) (i0 : Nat), j < i0 → remL q (seen ++ [j]) i0 cs = remL q seen i0 cs
  | [], _, _ => rfl
  | c :: cs, i0, h => by
    unfold remL
    rw [remL_below q seen j cs (i0 + 1) (by omega)]
    have : (seen ++ [j]).contains i0 = seen.contains i0 := by
      rw [Bool.eq_iff_iff, List.contains_iff_mem, List.contains_iff_mem, List.mem_append, List.mem_singleton]
      constructor
      · rintro (h1 | h1)
        · exact h1
        · omega
      · exact .inl
    rw [this]
theorem remL_next (q : Nat → Int) (seen : List Nat) : ∀ (cs : List Nat) (i0 i c : Nat), nth cs i = some c → i0 + i ∉ seen → remL q (seen ++ [i0 + i]) i0 cs = remL q seen i0 cs - q c
  | [], _, i, c, h, _ => by cases i <;> simp [nth] at h
  | c0 :: cs, i0, 0, c, h, hs => by
    simp only [nth, Option.some.injEq] at h; subst h
    simp only [Nat.add_zero] at hs ⊢
    unfold remL
    rw [remL_below q seen i0 cs (i0 + 1) (by omega)]
    have h1 : (seen ++ [i0]).contains i0 = true := by rw [List.contains_iff_mem]; simp
    have h2 : seen.contains i0 = false := by rw [Bool.eq_false_iff, Ne, List.contains_iff_mem]; exact hs
    rw [h1, h2]
    simp only [cond_true, cond_false]
    omega
  | c0 :: cs, i0, i + 1, c, h, hs => by
    simp only [nth] at h
    unfold remL
    have e : i0 + (i + 1) = (i0 + 1) + i := by omega
    rw [e] at hs ⊢
    rw [remL_next q seen cs (i0 + 1) i c h hs]
    have : (seen ++ [i0 + 1 + i]).contains i0 = seen.contains i0 := by
      rw [Bool.eq_iff_iff, List.contains_iff_mem, List.contains_iff_mem, List.mem_append, List.mem_singleton]
      constructor
      · rintro (h1 | h1)
        · exact h1
        · omega
      · exact .inl
    rw [this]
    omega
theorem remL_all (q : Nat → Int) (seen : List Nat) : ∀ (cs : List Nat) (i0 : Nat), (∀ i, i < i0 + cs.length → i ∈ seen) → remL q seen i0 cs = 0
  | [], _, _ => rfl
  | c :: cs, i0, h => by
    unfold remL
    simp only [List.length_cons] at h
    rw [remL_all q seen cs (i0 + 1) fun i hi => h i (by omega)]
    have : seen.contains i0 = true := by rw [List.contains_iff_mem]; exact h i0 (by omega)
    rw [this]; rfl
theorem remL_nil (q : Nat → Int) : ∀ (cs : List Nat) (i0 : Nat), remL q [] i0 cs = (cs.map q).sum
  | [], _ => rfl
  | c :: cs, i0 => by
    unfold remL
    rw [remL_nil q cs (i0 + 1), List.map_cons, List.sum_cons]
    rfl
theorem remL_pos (seen : List Nat) : ∀ (cs : List Nat) (i0 : Nat), 0 ≤ remL (fun _ => 1) seen i0 cs
  | [], _ => Int.le_refl _
  | c :: cs, i0 => by
    unfold remL
    have := remL_pos seen cs (i0 + 1)
    cases seen.contains i0 <;> simp only [cond_true, cond_false] <;> omega
/-! ### Maps from numbers to numbers -/
def esF (g : Nat → Int) (cs : List Nat) : List (DV × DV) := cs.map fun (c : Nat) => (iD (c : Int), iD (g c))
theorem esF_len (g : Nat → Int) (cs : List Nat) : (esF g cs).length = cs.length := by simp [esF]
theorem esF_nth (g : Nat → Int) : ∀ (cs : List Nat) (i : Nat) (e : DV × DV), nth (esF g cs) i = some e → ∃ c, nth cs i = some c ∧ e = (iD c, iD (g c))
  | [], i, e, h => by cases i <;> simp [esF, nth] at h
  | c :: cs, 0, e, h => by simp only [esF, List.map_cons, nth, Option.some.injEq] at h; exact ⟨c, rfl, h.symm⟩
  | c :: cs, i + 1, e, h => by simp only [esF, List.map_cons, nth] at h; exact esF_nth g cs i e h
theorem key3 (a b : Int) : keyEq aeT 3 (iD a) (iD b) = some (decide (a = b)) := by kernel_rfl
theorem findM_not (g : Nat → Int) (a : Nat) : ∀ (cs : List Nat), a ∉ cs → findM aeT 3 (iD a) (esF g cs) = some none
  | [], _ => rfl
  | c :: cs, h => by
    simp only [List.mem_cons, not_or] at h
    show (keyEq aeT 3 (iD a) (iD c)).bind (fun b => cond b (some (some 0)) ((findM aeT 3 (iD a) (esF g cs)).map fun o => o.map (· + 1))) = _
    rw [key3, findM_not g a cs h.2, Option.bind_some, decide_eq_false (by omega)]
    rfl
theorem putM_not (g : Nat → Int) {a : Nat} {cs : List Nat} (h : a ∉ cs) : putM aeT 3 (iD a) (iD (g a)) (esF g cs) = some (esF g (cs ++ [a])) := by
  unfold putM
  rw [findM_not g a cs h]
  simp [esF]
theorem findV_mem (g : Nat → Int) (a : Nat) (z : DV) : ∀ (cs : List Nat), a ∈ cs → findV aeT 3 (iD a) z (esF g cs) = some (iD (g a))
  | [], h => by simp at h
  | c :: cs, h => by
    unfold findV
    show ((keyEq aeT 3 (iD a) (iD c)).bind (fun b => cond b (some (some 0)) ((findM aeT 3 (iD a) (esF g cs)).map fun o => o.map (· + 1)))).bind _ = _
    rw [key3, Option.bind_some]
    by_cases q : a = c
    · subst q
      rw [decide_eq_true rfl]
      rfl
    · rw [decide_eq_false (by omega)]
      have hm : a ∈ cs := by
        rcases List.mem_cons.1 h with h | h
        · exact absurd h q
        · exact h
      have ih := findV_mem g a z cs hm
      unfold findV at ih
      cases hf : findM aeT 3 (iD a) (esF g cs) with
      | none => rw [hf] at ih; cases ih
      | some o =>
        rw [hf] at ih
        cases o with
        | none =>
          -- a key that is there is found
          exfalso
          have : ∀ (cs : List Nat), a ∈ cs → findM aeT 3 (iD a) (esF g cs) ≠ some none := by
            intro cs
            induction cs with
            | nil => intro h; simp at h
            | cons c cs ih2 =>
              intro h e
              rw [show findM aeT 3 (iD a) (esF g (c :: cs)) = (keyEq aeT 3 (iD a) (iD c)).bind (fun b => cond b (some (some 0)) ((findM aeT 3 (iD a) (esF g cs)).map fun o => o.map (· + 1))) from rfl, key3, Option.bind_some] at e
              by_cases q : a = c
              · rw [decide_eq_true (by omega)] at e; cases e
              · rw [decide_eq_false (by omega)] at e
                have hm : a ∈ cs := by
                  rcases List.mem_cons.1 h with h | h
                  · exact absurd h q
                  · exact h
                cases hf : findM aeT 3 (iD a) (esF g cs) with
                | none => rw [hf] at e; cases e
                | some o => cases o with
                  | none => exact ih2 hm hf
                  | some x => rw [hf] at e; cases e
          exact this cs hm hf
        | some i => exact ih
end Go.Proofs.Ytjfopbpkophoeaa

/- Chapter 06: Orbits (17), a range over a map of several entries, in any order. -/
namespace Go.Proofs.Ytjfopbpkophoeaa
open Go Go.AE
set_option maxRecDepth 100000
noncomputable def b17 : Code := match Try.f17.body with | some c => c | none => .skip
theorem b17_is : Try.f17.body = some b17 := by kernel_rfl
/-- What 17 calls: a matrix's numbers, a power, a trace. -/
noncomputable def e17 (ok : Nat → List DV → Bool) (A X : List DV) (t : Int) : Ev := evT ok (fun f _ => bif Nat.beq f 61 then .tup [.agg A, iD 0] else bif Nat.beq f 62 then .agg X else iD t)
noncomputable abbrev res17 : List Nat := resTmps Try.f17.results.toList
noncomputable abbrev cE17 {X : Type} (E : Ev) (bid : Nat) (c : Code) (s : St) (D : Ex → St → Option X) : Option X := codeE aeC E 17 0 20 res17 (some 65) bid c s D
noncomputable abbrev cC17 {X : Type} (E : Ev) (bid : Nat) (cs : List Code) (F : St → Option X) (s : St) : Option X := chainE aeC E 17 0 20 res17 (some 65) bid cs F s
noncomputable abbrev td17 (bid : Nat) (s : St) : Option St := tidyP 0 (aeC.pol 17 bid) s
noncomputable def L17 : Code := kid 0 (back 5 b17)
noncomputable def B17 : Code := kid 0 (kid 0 (kid 1 L17))
noncomputable def bb17 : Code := kid 0 (kid 0 (kid 1 B17))
noncomputable def qq17 : Code := kid 1 (kid 1 bb17)
noncomputable def M17 : Code := kid 0 (kid 0 (kid 1 (kid 0 qq17)))
noncomputable def N17 : Code := kid 0 (kid 1 (kid 1 M17))
/-- At the outer loop; at the inner one. -/
def S17 (A : List DV) (m d : Int) (es : List (DV × DV)) : St := ⟨[(1, .d (iD m)), (6, .ref 0 0), (8, .mp 1), (9, .d (iD d))], [.dc A, .mp es], []⟩
def T17 (A : List DV) (m d t : Int) (es : List (DV × DV)) (seen : List Nat) : St := ⟨[(1, .d (iD m)), (6, .ref 0 0), (8, .mp 1), (9, .d (iD d)), (10, .d (iD t)), (42, .ref 2 0)], [.dc A, .mp es, .mit 1 es.length seen], []⟩
theorem p17_0 (ok : Nat → List DV → Bool) (k : Nat) (f : Nat → Int) (a : DV) (m : Int) : cC17 (e17 ok (mx25 k f) [] 0) 0 (spineC 5 b17) (cC17 (e17 ok (mx25 k f) [] 0) 0 (spineC 1 L17) (td17 0)) ⟨envOf 0 [.d a, .d (iD m)], [], []⟩ =
  bif ok 61 [a] then (bif decide (m < 1) then none else bif decide (10 < m) then none else some (S17 (mx25 k f) m 1 [])) else none := by kernel_rfl
def mid17 (A : List DV) (m d : Int) (es : List (DV × DV)) : St := ⟨[(30, .d (bD (decide (d ≤ m)))), (29, .d (iD m)), (28, .d (iD d)), (1, .d (iD m)), (6, .ref 0 0), (8, .mp 1), (9, .d (iD d))], [.dc A, .mp es], []⟩
def end17 (m : Int) (es : List (DV × DV)) : St := ⟨[(1, .d (iD m)), (8, .mp 0)], [.mp es], []⟩
noncomputable abbrev e0 : Ev := e17 (fun _ _ => false) [] [] 0
theorem p17_1 (A : List DV) (m d : Int) (es : List (DV × DV)) : cE17 e0 0 (kid 0 B17) (S17 A m d es) (fun ex s => some (ex, s)) =
  bif decide (d ≤ m) then some (Ex.norm, mid17 A m d es) else some (Ex.exit 0, end17 m es) := by kernel_rfl
def tst17 (A : List DV) (m d : Int) (es : List (DV × DV)) : St := ⟨[(36, .d (bD (decide (0 < Int.tmod m d)))), (35, .d (iD (Int.tmod m d))), (34, .d (iD d)), (33, .d (iD m)), (30, .d (bD (decide (d ≤ m)))), (29, .d (iD m)), (28, .d (iD d)), (1, .d (iD m)), (6, .ref 0 0), (8, .mp 1), (9, .d (iD d))], [.dc A, .mp es], []⟩
theorem p17_2 (A : List DV) (m d : Int) (es : List (DV × DV)) : cE17 e0 1 (kid 0 bb17) (mid17 A m d es) (fun ex s => some (ex, s)) =
  bif decide (d = 0) then none else bif decide (0 < Int.tmod m d) then some (Ex.exit 1, S17 A m d es) else some (Ex.norm, tst17 A m d es) := by kernel_rfl
theorem p17_3 (A : List DV) (m d : Int) (es : List (DV × DV)) : cE17 e0 0 (kid 1 (kid 1 B17)) (S17 A m d es) (nk (td17 0)) = some (S17 A m (IntKind.wrap .i64 (d + 1)) es) := by kernel_rfl
theorem p17_4 (ok : Nat → List DV → Bool) (k : Nat) (f : Nat → Int) (X : List DV) (t m d : Int) (es : List (DV × DV)) : cC17 (e17 ok [] X t) 1 (spineC 1 (kid 1 bb17)) (cC17 (e17 ok [] X t) 1 (spineC 1 (kid 0 qq17)) (td17 2)) (tst17 (mx25 k f) m d es) =
  bif ok 62 [.agg (mx25 k f), iD d] then (bif ok 60 [.agg X] then some (T17 (mx25 k f) m d t es []) else none) else none := by kernel_rfl
theorem p17_5 {R : Type} (K : List (Nat × AV) → List Blk → Option R) (A : List DV) (m d t : Int) (es : List (DV × DV)) (seen : List Nat) : runE aeC e0 (opsOf (kid 0 M17)) (opsOf (kid 0 M17)).tail (putE (some 43) (.d (.tup [.bool false])) (T17 A m d t es seen).env) (T17 A m d t es seen).heap K =
  K ((44, .d (bD false)) :: (43, .d (.tup [.bool false])) :: (T17 A m d t es seen).env) (T17 A m d t es seen).heap := by kernel_rfl
theorem p17_6 {R : Type} (K : List (Nat × AV) → List Blk → Option R) (A : List DV) (m d t : Int) (es : List (DV × DV)) (n : Nat) (seen : List Nat) (v1 v2 : DV) : runE aeC e0 (opsOf (kid 0 M17)) (opsOf (kid 0 M17)).tail (putE (some 43) (.d (.tup [.bool true, v1, v2])) (T17 A m d t es []).env) [.dc A, .mp es, .mit 1 n seen] K =
  K ((44, .d (bD true)) :: (43, .d (.tup [.bool true, v1, v2])) :: (T17 A m d t es []).env) [.dc A, .mp es, .mit 1 n seen] := by kernel_rfl
def out17 (A : List DV) (m d t : Int) (es : List (DV × DV)) : St := ⟨[(1, .d (iD m)), (6, .ref 0 0), (8, .mp 1), (9, .d (iD d)), (10, .d (iD t))], [.dc A, .mp es], []⟩
theorem p17_7 (A : List DV) (m d t : Int) (es : List (DV × DV)) (seen : List Nat) : cE17 e0 2 (kid 0 (kid 1 M17)) ⟨(44, .d (bD false)) :: (43, .d (.tup [.bool false])) :: (T17 A m d t es seen).env, (T17 A m d t es seen).heap, []⟩ (fun ex s => some (ex, s)) = some (Ex.exit 2, out17 A m d t es) := by kernel_rfl
theorem p17_8 (A : List DV) (m d t c v : Int) (es : List (DV × DV)) (n : Nat) (seen : List Nat) (v1 v2 : DV) : runE aeC e0 (opsOf (kid 0 N17)) (opsOf (kid 0 N17)).tail (putE (some 45) (.d (.tup [iD c, iD v])) ((44, .d (bD true)) :: (43, .d (.tup [.bool true, v1, v2])) :: (T17 A m d t es []).env)) [.dc A, .mp es, .mit 1 n seen] (fun env h => cE17 e0 3 (kid 1 N17) ⟨env, h, []⟩ (nk (td17 2))) =
  bif decide (c = 0) then none else bif decide (Int.tmod d c = 0) then some ⟨(T17 A m d (IntKind.wrap .i64 (t - IntKind.wrap .i64 (c * v))) es []).env, [.dc A, .mp es, .mit 1 n seen], []⟩ else some ⟨(T17 A m d t es []).env, [.dc A, .mp es, .mit 1 n seen], []⟩ := by kernel_rfl
theorem p17_9 (A : List DV) (m d t : Int) (es : List (DV × DV)) : cE17 e0 1 (kid 1 qq17) (out17 A m d t es) (nk fun s => cE17 e0 0 (kid 1 (kid 1 B17)) s (nk (td17 0))) =
  bif decide (d = 0) then none else (putM aeT 3 (iD d) (iD (IntKind.wrap .i64 (Int.tdiv t d))) es).bind fun es' => some (S17 A m (IntKind.wrap .i64 (d + 1)) es') := by kernel_rfl
theorem p17_a (m : Int) (es : List (DV × DV)) : cE17 e0 0 (back 6 b17) (end17 m es) (doneE aeC Try.f17 0 fun v h => freezeP 17 h v) =
  (findV aeT 3 (iD m) (iD 0) es).bind fun d => reveal aeT 2 d fun d' => some (.tup [d', iD 0]) := by kernel_rfl
end Go.Proofs.Ytjfopbpkophoeaa

/- Chapter 06: Orbits (17), joined. -/
namespace Go.Proofs.Ytjfopbpkophoeaa
open Go Go.AE
set_option maxRecDepth 100000
theorem evT_none (shape : Nat → List DV → DV) : EvOK Try.prog (evT (fun _ _ => false) shape) := by
  refine ⟨fun f ds d e => ?_, (by intro f xs h v h' e; simp [evT, Ev.nil, Tr.val] at e), (by intro f xs h v h' e; simp [evT, Ev.nil, Tr.val] at e), (by intro l xs h v h' e; simp [evT, Ev.nil, Tr.val] at e)⟩
  simp [evT, Tr.val] at e
theorem e0_ok : EvOK Try.prog e0 := evT_none _
theorem nt17 : Try.f17.ntmps = 65 := by kernel_rfl
theorem fn17 : tget aeF 17 = some Try.f17 := by kernel_rfl
noncomputable abbrev Sat17 (w : World) (σ : Sg) (c : Code) (s : St) (Post : Ex → St → Prop) : Prop := Sat Try.prog aeC 17 65 none 0 w σ [] c s Post
theorem ho17 : ∀ M, some 65 = some M → M = 65 ∧ (none : Option Nat) = none := fun M h => by cases h; exact ⟨rfl, rfl⟩
section
variable {w : World} {σ : Sg}
theorem Sat17.code {E : Ev} (hV : EvOK Try.prog E) (hi : HInv w σ []) {c : Code} (bid : Nat) {s : St} {X : Type} (D : Ex → St → Option X) {x : X} (h : cE17 E bid c s D = some x) : Sat17 w σ c s fun ex s' => D ex s' = some x :=
  Sat.code' ae_T ae_Q ae_mixed hV ho17 hi D h
theorem Sat17.spine {E : Ev} (hV : EvOK Try.prog E) (hi : HInv w σ []) {c : Code} (bid m : Nat) {s : St} {Post : Ex → St → Prop} {X : Type} {x : X} (F : St → Option X) (ha : allSeq m c = true) (h : cC17 E bid (spineC m c) F s = some x) (hF : ∀ s', F s' = some x → Sat17 w σ (back m c) s' Post) : Sat17 w σ c s Post :=
  Sat.spine ae_T ae_Q ae_mixed hV ho17 hi F m c s ha h hF
/-- The inner loop's rounds. -/
theorem in17 (hi : HInv w σ []) {A : List DV} {m d : Nat} (g : Nat → Int) (cs : List Nat) (hcs : ∀ c ∈ cs, 1 ≤ c) (left : Int) {s : St} (hs : td17 2 s = some (T17 A m d (W left) (esF g cs) [])) :
    Sat17 w σ (kid 1 (kid 0 qq17)) s fun ex s' => ex = .norm ∧ s' = out17 A m d (W (left - (cs.map (qd g d)).sum)) (esF g cs) := by
  have hb : isBlock 2 (kid 1 (kid 0 qq17)) = true := by kernel_rfl
  refine Sat.block' (Q1 := fun ex s' => ex = .exit 2 ∧ s' = out17 A m d (W (left - (cs.map (qd g d)).sum)) (esF g cs)) hb ?_ (fun s' h => by cases h.1) (fun s' h => by cases h.1) (fun i s' h => by
    obtain ⟨h1, h2⟩ := h
    cases h1
    exact ⟨rfl, h2⟩)
  have hl : isLoop (kid 0 (kid 1 (kid 0 qq17))) = true := by kernel_rfl
  refine Sat.loop' hi (bid := 2) hl (fun r s => ∃ seen, r = (remL (fun _ => 1) seen 0 cs).toNat ∧ td17 2 s = some (T17 A m d (W (left - (cs.map (qd g d)).sum + remL (qd g d) seen 0 cs)) (esF g cs) seen)) ?_ _ s ⟨[], rfl, ?_⟩
  rotate_left
  · rw [remL_nil, Int.sub_add_cancel]; exact hs
  rintro r s ⟨seen, rfl, ht⟩
  refine ⟨_, ht, ?_⟩
  show Sat17 w σ M17 _ _
  have hq : isSeq M17 = true := by kernel_rfl
  have hr : isReg (kid 0 M17) = true := by kernel_rfl
  obtain ⟨o, rest, e1, e2, e3, e4, e5⟩ : ∃ (o : Oper) (rest : List Oper), opsOf (kid 0 M17) = o :: rest ∧ o.op = .next (.tmp 42) false ∧ o.guard = none ∧ o.dst = some 43 ∧ rest = (opsOf (kid 0 M17)).tail := ⟨(opsOf (kid 0 M17)).headD default, (opsOf (kid 0 M17)).tail, by kernel_rfl, by kernel_rfl, by kernel_rfl, by kernel_rfl, by kernel_rfl⟩
  generalize htot : left - (cs.map (qd g d)).sum = tot
  generalize hll : W (tot + remL (qd g d) seen 0 cs) = ll
  refine Sat.seq' (Q1 := fun ex s' => ex = .norm ∧ (((∀ i, i < (esF g cs).length → i ∈ seen) ∧ s' = ⟨(44, .d (bD false)) :: (43, .d (.tup [.bool false])) :: (T17 A m d ll (esF g cs) seen).env, (T17 A m d ll (esF g cs) seen).heap, []⟩) ∨
      ∃ i e, i ∉ seen ∧ nth (esF g cs) i = some e ∧ s' = ⟨(44, .d (bD true)) :: (43, .d (.tup [.bool true, e.1, e.2])) :: (T17 A m d ll (esF g cs) []).env, [.dc A, .mp (esF g cs), .mit 1 (esF g cs).length (seen ++ [i])], []⟩)) hq
    (Sat.next' ae_T ae_Q e0_ok hr e1 e2 e3 (b := 2) (m := 1) (nn := (esF g cs).length) (seen := seen) (es := esF g cs) rfl rfl rfl rfl ?_) ?_ (fun ex s' hne h => absurd h.1 hne)
  · rintro v h' (⟨h1, rfl, rfl⟩ | ⟨i, e, h1, h2, h3, rfl, rfl⟩)
    · rw [e4, e5]
      exact (p17_5 ..).trans (ind_of ⟨rfl, .inl ⟨h1, rfl⟩⟩)
    · rw [e4, e5]
      exact (p17_6 (fun env h => ind _ .norm ⟨env, h, []⟩) A m d ll (esF g cs) (esF g cs).length (seen ++ [i]) e.1 e.2).trans (ind_of ⟨rfl, .inr ⟨i, e, h2, h3, rfl⟩⟩)
  rintro s' ⟨-, (⟨hall, rfl⟩ | ⟨i, e, hns, hne, rfl⟩)⟩
  · -- all have been seen
    refine Sat.seq' (by kernel_rfl) (Sat17.code e0_ok hi 2 _ (p17_7 A m d ll (esF g cs) seen)) (fun s' h => by cases h) fun ex s' hne h => ?_
    simp only [Option.some.injEq, Prod.mk.injEq] at h
    obtain ⟨rfl, rfl⟩ := h
    refine ⟨rfl, ?_⟩
    rw [← hll, remL_all _ _ _ _ (fun i hi => hall i (by rw [esF_len]; omega)), Int.add_zero]
  · -- an entry
    obtain ⟨c, hc, rfl⟩ := esF_nth g cs i e hne
    have hcm : c ∈ cs := by rw [nth_eq] at hc; exact List.mem_of_getElem? hc
    refine Sat.seq' (Q1 := fun ex s' => ex = .norm ∧ s' = ⟨(44, .d (bD true)) :: (43, .d (.tup [.bool true, iD c, iD (g c)])) :: (T17 A m d ll (esF g cs) []).env, [.dc A, .mp (esF g cs), .mit 1 (esF g cs).length (seen ++ [i])], []⟩) (by kernel_rfl)
      (Sat.cond' (b := true) (by kernel_rfl) (by
        have : opC (kid 0 (kid 1 M17)) = .tmp 44 := by kernel_rfl
        rw [this]; rfl) (Sat.skip' ⟨rfl, rfl⟩ (by kernel_rfl))) (fun s' h => ?_) (fun ex s' hne h => absurd h.1 hne)
    obtain ⟨-, rfl⟩ := h
    have hb3 : isBlock 3 (kid 1 (kid 1 M17)) = true := by kernel_rfl
    refine Sat.block' (Q1 := fun ex s' => ex = .norm ∧ ∃ m', m' < (remL (fun _ => 1) seen 0 cs).toNat ∧ ∃ seen', m' = (remL (fun _ => 1) seen' 0 cs).toNat ∧ td17 2 s' = some (T17 A m d (W (tot + remL (qd g d) seen' 0 cs)) (esF g cs) seen')) hb3 ?_ (fun s' h => h.2) (fun s' h => by cases h.1) (fun i s' h => by cases h.1)
    show Sat17 w σ N17 _ _
    obtain ⟨o, rest, f1, f2, f3, f4, f5⟩ : ∃ (o : Oper) (rest : List Oper), opsOf (kid 0 N17) = o :: rest ∧ o.op = .entry (.tmp 42) ∧ o.guard = none ∧ o.dst = some 45 ∧ rest = (opsOf (kid 0 N17)).tail := ⟨(opsOf (kid 0 N17)).headD default, (opsOf (kid 0 N17)).tail, by kernel_rfl, by kernel_rfl, by kernel_rfl, by kernel_rfl, by kernel_rfl⟩
    have hc1 := hcs c hcm
    have hstep := remL_next (qd g d) seen cs 0 i c hc (by simpa using hns)
    have hcnt := remL_next (fun _ => 1) seen cs 0 i c hc (by simpa using hns)
    have hpos := remL_pos (seen ++ [i]) cs 0
    rw [Nat.zero_add] at hstep hcnt
    refine Sat.seq' (Q1 := fun ex s' => nk (fun s => cE17 e0 3 (kid 1 N17) s (nk (td17 2))) ex s' = some (T17 A m d (W (tot + remL (qd g d) (seen ++ [i]) 0 cs)) (esF g cs) (seen ++ [i]))) (by kernel_rfl)
      (Sat.entry' ae_T ae_Q e0_ok (nk fun s => cE17 e0 3 (kid 1 N17) s (nk (td17 2))) (by kernel_rfl) f1 f2 f3 (b := 2) (m := 1) (i := i) (seen := seen ++ [i]) (es := esF g cs) (e := (iD c, iD (g c))) rfl rfl rfl (by simp) hne ?_)
      (fun s' h => ?_) (fun ex s' hne h => absurd (nk_some h).1 hne)
    · rw [f4, f5]
      refine (p17_8 A m d ll c (g c) (esF g cs) (esF g cs).length (seen ++ [i]) (iD c) (iD (g c))).trans ?_
      rw [decide_eq_false (show ¬ (c : Int) = 0 by omega)]
      rw [hstep, ← hll]
      have hmod : (decide (Int.tmod (d : Int) (c : Int) = 0)) = Nat.beq (d % c) 0 := by
        rw [← Int.ofNat_tmod, Bool.eq_iff_iff, decide_eq_true_iff, Nat.beq_eq]; omega
      rw [hmod]
      rw [show qd g d c = bif Nat.beq (d % c) 0 then (c : Int) * g c else 0 from rfl]
      cases Nat.beq (d % c) 0 with
      | true =>
        simp only [cond_true, cond_false]
        rw [show IntKind.wrap IntKind.i64 (W (tot + remL (qd g d) seen 0 cs) - IntKind.wrap IntKind.i64 (c * g c)) = W (tot + (remL (qd g d) seen 0 cs - c * g c)) from (W_subL _ _).trans ((W_subR _ _).trans (by rw [Int.add_sub_assoc]))]
        rfl
      | false =>
        simp only [cond_false, Int.sub_zero]
        rfl
    · have h2 := (nk_some h).2
      refine Sat.mono (Sat17.code e0_ok hi 3 _ h2) fun ex s' h3 => ?_
      obtain ⟨rfl, h4⟩ := nk_some h3
      exact ⟨rfl, _, by omega, seen ++ [i], rfl, h4⟩
end
end Go.Proofs.Ytjfopbpkophoeaa

/- Chapter 06: Orbits (17): the outer loop; the contract. -/
namespace Go.Proofs.Ytjfopbpkophoeaa
open Go Go.AE
set_option maxRecDepth 100000
def sh17 (A X : List DV) (t : Int) (f : Nat) (_ : List DV) : DV := bif Nat.beq f 61 then .tup [.agg A, iD 0] else bif Nat.beq f 62 then .agg X else iD t
theorem e17_ok (A X : List DV) (t : Int) : EvOK Try.prog (e17 (okS (sh17 A X t)) A X t) := evT_ok (sh17 A X t)
section
variable {w : World} {σ : Sg}
/-- The outer loop. -/
theorem out17L (hi : HInv w σ []) {k m : Nat} {f : Nat → Int} (hm1 : 1 ≤ m) (hm : m ≤ 10) (X : Nat → List DV) (t : Nat → Int)
    (h62 : ∀ d, d ≤ m → PureOK Try.prog 62 [.agg (mx25 k f), iD d] (.agg (X d))) (h60 : ∀ d, d ≤ m → PureOK Try.prog 60 [.agg (X d)] (iD (t d))) (hW : ∀ d, W (t d) = t d)
    {s : St} (hs : td17 0 s = some (S17 (mx25 k f) m 1 [])) : Sat17 w σ (kid 1 L17) s fun ex s' => ex = .norm ∧ s' = end17 m (esF (orb t) (dvs m m)) := by
  refine Sat.block' (Q1 := fun ex s' => ex = .exit 0 ∧ s' = end17 m (esF (orb t) (dvs m m))) (id := 0) (by kernel_rfl) ?_ (fun s' h => by cases h.1) (fun s' h => by cases h.1) (fun i s' h => by
    obtain ⟨h1, h2⟩ := h
    cases h1
    exact ⟨rfl, h2⟩)
  refine Sat.loop' hi (bid := 0) (by kernel_rfl) (fun r s => ∃ d : Nat, 1 ≤ d ∧ d ≤ m + 1 ∧ r = m + 1 - d ∧ td17 0 s = some (S17 (mx25 k f) m d (esF (orb t) (dvs m (d - 1))))) ?_ _ s ⟨1, Nat.le_refl _, by omega, rfl, hs⟩
  rintro r s ⟨d, hd1, hd, rfl, ht⟩
  refine ⟨_, ht, ?_⟩
  show Sat17 w σ B17 _ _
  by_cases hdm : d ≤ m
  rotate_left
  · -- the end
    have hdd : d = m + 1 := by omega
    subst hdd
    refine Sat.seq' (by kernel_rfl) (Sat17.code e0_ok hi 0 (fun ex s => some (ex, s)) ((p17_1 ..).trans (cnd_neg (by omega)))) (fun s' h => by cases h) fun ex s' hne h => ?_
    simp only [Option.some.injEq, Prod.mk.injEq] at h
    obtain ⟨rfl, rfl⟩ := h
    exact ⟨rfl, rfl⟩
  · refine Sat.seq' (by kernel_rfl) (Sat17.code e0_ok hi 0 (fun ex s => some (ex, s)) ((p17_1 ..).trans (cnd_pos (by omega)))) (fun s' h => ?_) fun ex s' hne h => by
      simp only [Option.some.injEq, Prod.mk.injEq] at h
      exact absurd h.1 hne
    simp only [Option.some.injEq, Prod.mk.injEq] at h
    obtain ⟨-, rfl⟩ := h
    have hw : IntKind.wrap .i64 ((d : Int) + 1) = ((d + 1 : Nat) : Int) := by rw [wrap64_o (by omega) (by omega)]; rfl
    -- behind the block: the next round
    refine Sat.seq' (Q1 := fun ex s' => ex = .norm ∧ cE17 e0 0 (kid 1 (kid 1 B17)) s' (nk (td17 0)) = some (S17 (mx25 k f) m ((d + 1 : Nat) : Int) (esF (orb t) (dvs m d)))) (by kernel_rfl) ?_ (fun s' h => ?_) (fun ex s' hne h => absurd h.1 hne)
    rotate_left
    · refine Sat.mono (Sat17.code e0_ok hi 0 _ h.2) fun ex s' h3 => ?_
      obtain ⟨rfl, h4⟩ := nk_some h3
      exact ⟨_, (by omega : m + 1 - (d + 1) < m + 1 - d), d + 1, by omega, by omega, rfl, h4⟩
    refine Sat.block' (Q1 := fun ex s' => (ex = .norm ∨ ex = .exit 1) ∧ cE17 e0 0 (kid 1 (kid 1 B17)) s' (nk (td17 0)) = some (S17 (mx25 k f) m ((d + 1 : Nat) : Int) (esF (orb t) (dvs m d)))) (id := 1) (by kernel_rfl) ?_ (fun s' h => ⟨rfl, h.2⟩) (fun s' h => by rcases h.1 with h | h <;> cases h) (fun i s' h => by
      rcases h.1 with h1 | h1
      · cases h1
      · cases h1; exact ⟨rfl, h.2⟩)
    show Sat17 w σ bb17 _ _
    have hmod : (Int.tmod (m : Int) (d : Int)) = ((m % d : Nat) : Int) := (Int.ofNat_tmod ..).symm
    have hdv : dvs m d = dvs m (d - 1) ++ bif Nat.beq (m % d) 0 then [d] else [] := by
      obtain ⟨n, rfl⟩ : ∃ n, d = n + 1 := ⟨d - 1, by omega⟩
      rfl
    have h2 := p17_2 (mx25 k f) m d (esF (orb t) (dvs m (d - 1)))
    rw [decide_eq_false (show ¬ (d : Int) = 0 by omega), hmod] at h2
    simp only [cond_false] at h2
    by_cases hz : m % d = 0
    · -- a divisor
      rw [decide_eq_false (show ¬ 0 < ((m % d : Nat) : Int) by omega)] at h2
      refine Sat.seq' (by kernel_rfl) (Sat17.code e0_ok hi 1 (fun ex s => some (ex, s)) h2) (fun s' h => ?_) fun ex s' hne h => by
        simp only [Option.some.injEq, Prod.mk.injEq] at h
        exact absurd h.1 hne
      simp only [Option.some.injEq, Prod.mk.injEq] at h
      obtain ⟨-, rfl⟩ := h
      have hok : okS (sh17 [] (X d) (t d)) 62 [.agg (mx25 k f), iD d] = true := okS_is (h62 d hdm)
      have hok0 : okS (sh17 [] (X d) (t d)) 60 [.agg (X d)] = true := okS_is (h60 d hdm)
      refine Sat17.spine (e17_ok [] (X d) (t d)) hi 1 1 _ (by kernel_rfl) ((p17_4 ..).trans ((cond_is' hok).trans (cond_is' hok0))) fun s1 h1 => ?_
      show Sat17 w σ qq17 s1 _
      have hsum : ((dvs m (d - 1)).map (qd (orb t) d)).sum = osum (orb t) d (d - 1) := dvs_sum (orb t) hz (d - 1)
      refine Sat.seq' (Q1 := fun ex s' => ex = .norm ∧ s' = out17 (mx25 k f) m d (W (t d - ((dvs m (d - 1)).map (qd (orb t) d)).sum)) (esF (orb t) (dvs m (d - 1)))) (by kernel_rfl) ?_ (fun s' h => ?_) (fun ex s' hne h => absurd h.1 hne)
      · refine Sat17.spine (e17_ok [] (X d) (t d)) hi 1 1 _ (by kernel_rfl) h1 fun s2 h2 => ?_
        refine in17 hi (orb t) (dvs m (d - 1)) (fun c hc => (dvs_mem.1 hc).1) (t d) (?_ : td17 2 s2 = _)
        rw [hW]; exact h2
      · obtain ⟨-, rfl⟩ := h
        rw [hsum]
        have h9 := p17_9 (mx25 k f) m d (W (t d - osum (orb t) d (d - 1))) (esF (orb t) (dvs m (d - 1)))
        rw [decide_eq_false (show ¬ (d : Int) = 0 by omega), show IntKind.wrap .i64 (Int.tdiv (W (t d - osum (orb t) d (d - 1))) d) = orb t d from (orb_eq t hd1).symm, putM_not (orb t) (fun h => by have := (dvs_mem.1 h).2.1; omega), hw] at h9
        simp only [cond_false, Option.bind_some] at h9
        refine Sat.mono (Sat17.code e0_ok hi 1 _ h9) fun ex s' h3 => ?_
        obtain ⟨rfl, h4⟩ := nk_some h3
        refine ⟨.inl rfl, ?_⟩
        rw [hdv, show Nat.beq (m % d) 0 = true by rw [Nat.beq_eq]; exact hz]
        exact h4
    · -- none
      rw [decide_eq_true (show 0 < ((m % d : Nat) : Int) by omega)] at h2
      refine Sat.seq' (by kernel_rfl) (Sat17.code e0_ok hi 1 (fun ex s => some (ex, s)) h2) (fun s' h => by cases h) fun ex s' hne h => ?_
      simp only [Option.some.injEq, Prod.mk.injEq] at h
      obtain ⟨rfl, rfl⟩ := h
      refine ⟨.inr rfl, ?_⟩
      rw [hdv, show Nat.beq (m % d) 0 = false by rw [Bool.eq_false_iff, Ne, Nat.beq_eq]; exact hz, p17_3, hw]
      simp
end
/-- Orbits of a matrix. -/
theorem c17_at {k m : Nat} {f : Nat → Int} {a : DV} (hm1 : 1 ≤ m) (hm : m ≤ 10) (X : Nat → List DV) (t : Nat → Int) (h61 : PureOK Try.prog 61 [a] (.tup [.agg (mx25 k f), iD 0]))
    (h62 : ∀ d, d ≤ m → PureOK Try.prog 62 [.agg (mx25 k f), iD d] (.agg (X d))) (h60 : ∀ d, d ≤ m → PureOK Try.prog 60 [.agg (X d)] (iD (t d))) (hW : ∀ d, W (t d) = t d) : PureOK Try.prog 17 [a, iD m] (.tup [iD (orb t m), iD 0]) := by
  refine pure_of_sat (C := aeC) (fid := 17) ae_T (ae_fn fn17) b17_is (by kernel_rfl) fun w σ hi => ?_
  rw [nt17]
  have hok : okS (sh17 (mx25 k f) [] 0) 61 [a] = true := okS_is h61
  refine Sat17.spine (e17_ok (mx25 k f) [] 0) hi 0 5 _ (by kernel_rfl) ((p17_0 ..).trans ((cond_is' hok).trans ((cnd_neg (by omega)).trans (cnd_neg (by omega))))) fun s1 h1 => ?_
  refine Sat.seq' (Q1 := fun ex s' => ex = .norm ∧ s' = end17 m (esF (orb t) (dvs m m))) (by kernel_rfl) ?_ (fun s' h => ?_) (fun ex s' hne h => absurd h.1 hne)
  · exact Sat17.spine (e17_ok (mx25 k f) [] 0) hi 0 1 _ (by kernel_rfl) h1 fun s2 h2 => out17L hi hm1 hm X t h62 h60 hW h2
  · obtain ⟨-, rfl⟩ := h
    refine Sat17.code e0_ok hi 0 (doneE aeC Try.f17 0 fun v h => freezeP 17 h v) ((p17_a ..).trans ?_)
    rw [findV_mem (orb t) m (iD 0) (dvs m m) (dvs_mem.2 ⟨hm1, Nat.le_refl _, Nat.mod_self m⟩), Option.bind_some]
    kernel_rfl
end Go.Proofs.Ytjfopbpkophoeaa

/- Chapter 06: powers from both sides, in plain Lean. -/
namespace Go.Proofs.Ytjfopbpkophoeaa
open Go Go.AE
/-! ### Sums -/
def sumI (F : Nat → Int) : Nat → Int
  | 0 => 0
  | n + 1 => sumI F n + F n
theorem sumI_eq {F F' : Nat → Int} : ∀ n, (∀ i < n, F i = F' i) → sumI F n = sumI F' n
  | 0, _ => rfl
  | n + 1, h => by simp only [sumI]; rw [sumI_eq n fun i hi => h i (by omega), h n (by omega)]
theorem sumI_add (F G : Nat → Int) : ∀ n, sumI (fun i => F i + G i) n = sumI F n + sumI G n
  | 0 => rfl
  | n + 1 => by simp only [sumI]; rw [sumI_add F G n]; omega
theorem sumI_mulR (F : Nat → Int) (c : Int) : ∀ n, sumI F n * c = sumI (fun i => F i * c) n
  | 0 => by simp [sumI]
  | n + 1 => by simp only [sumI]; rw [Int.add_mul, sumI_mulR F c n]
theorem sumI_mulL (F : Nat → Int) (c : Int) : ∀ n, c * sumI F n = sumI (fun i => c * F i) n
  | 0 => by simp [sumI]
  | n + 1 => by simp only [sumI]; rw [Int.mul_add, sumI_mulL F c n]
theorem sumI_zero : ∀ n, sumI (fun _ => 0) n = 0
  | 0 => rfl
  | n + 1 => by simp only [sumI]; rw [sumI_zero n]; rfl
theorem sumI_swap (F : Nat → Nat → Int) (m : Nat) : ∀ n, sumI (fun i => sumI (fun j => F i j) m) n = sumI (fun j => sumI (fun i => F i j) n) m
  | 0 => by simp only [sumI]; rw [sumI_zero]
  | n + 1 => by
    simp only [sumI]
    rw [sumI_swap F m n, ← sumI_add]
theorem W_sumR (F : Nat → Int) : ∀ n, W (sumI (fun i => W (F i)) n) = W (sumI F n)
  | 0 => rfl
  | n + 1 => by simp only [sumI]; rw [W_addR, ← W_addL, W_sumR F n, W_addL]
theorem W_sumE {F G : Nat → Int} : ∀ n, (∀ i < n, W (F i) = W (G i)) → W (sumI F n) = W (sumI G n)
  | n, h => by rw [← W_sumR F, ← W_sumR G, sumI_eq n h]
theorem sumW_sum (f g : Nat → Int) (r c : Nat) : ∀ n, sumW f g r c n = W (sumI (fun x => f (5 * r + x) * g (5 * x + c)) n)
  | 0 => rfl
  | n + 1 => by
    show W (sumW f g r c n + W (f (5 * r + n) * g (5 * n + c))) = _
    rw [sumW_sum f g r c n, W_addR, W_addL]
    rfl
/-- A product, by rows and columns. -/
theorem mulF_at {k r c : Nat} (f g : Nat → Int) (hr : r < k) (hc : c < k) (h5 : k ≤ 5) : mulF k f g (5 * r + c) = W (sumI (fun x => f (5 * r + x) * g (5 * x + c)) k) := by
  unfold mulF
  have e1 : (5 * r + c) / 5 = r := by omega
  have e2 : (5 * r + c) % 5 = c := by omega
  rw [e1, e2, show Nat.blt r k = true by simpa [Nat.blt_eq] using hr, show Nat.blt c k = true by simpa [Nat.blt_eq] using hc]
  simp only [Bool.and_self, cond_true]
  exact sumW_sum f g r c k
theorem mulF_out {k i : Nat} (f g : Nat → Int) (h : ¬ (i / 5 < k ∧ i % 5 < k)) : mulF k f g i = 0 := by
  unfold mulF
  have : (Nat.blt (i / 5) k && Nat.blt (i % 5) k) = false := by
    rw [Bool.eq_false_iff]
    simp only [ne_eq, Bool.and_eq_true, Nat.blt_eq]
    exact h
  rw [this]; rfl
/-- Where two tables of numbers are the same. -/
theorem mulF_cong {k : Nat} (h5 : k ≤ 5) {f f' g g' : Nat → Int} (hf : ∀ r c, r < k → c < k → f (5 * r + c) = f' (5 * r + c)) (hg : ∀ r c, r < k → c < k → g (5 * r + c) = g' (5 * r + c)) (i : Nat) : mulF k f g i = mulF k f' g' i := by
  by_cases h : i / 5 < k ∧ i % 5 < k
  · have e : i = 5 * (i / 5) + i % 5 := by omega
    rw [e, mulF_at f g h.1 h.2 h5, mulF_at f' g' h.1 h.2 h5]
    rw [sumI_eq k fun x hx => by rw [hf _ _ h.1 hx, hg _ _ hx h.2]]
  · rw [mulF_out f g h, mulF_out f' g' h]
theorem mulF_assoc {k : Nat} (h5 : k ≤ 5) (f g u : Nat → Int) (i : Nat) : mulF k (mulF k f g) u i = mulF k f (mulF k g u) i := by
  by_cases h : i / 5 < k ∧ i % 5 < k
  · generalize hr : i / 5 = r at h
    generalize hc : i % 5 = c at h
    have e : i = 5 * r + c := by omega
    rw [e, mulF_at _ u h.1 h.2 h5, mulF_at f _ h.1 h.2 h5]
    have h1 : W (sumI (fun x => mulF k f g (5 * r + x) * u (5 * x + c)) k) = W (sumI (fun x => sumI (fun y => f (5 * r + y) * g (5 * y + x) * u (5 * x + c)) k) k) := by
      refine W_sumE k fun x hx => ?_
      rw [mulF_at f g h.1 hx h5, W_mulL, sumI_mulR]
    have h2 : W (sumI (fun y => f (5 * r + y) * mulF k g u (5 * y + c)) k) = W (sumI (fun y => sumI (fun x => f (5 * r + y) * g (5 * y + x) * u (5 * x + c)) k) k) := by
      refine W_sumE k fun y hy => ?_
      rw [mulF_at g u hy h.2 h5, W_mulR, sumI_mulL]
      rw [sumI_eq k fun x _ => Int.mul_assoc ..]
    rw [h1, h2, sumI_swap]
  · rw [mulF_out _ u h, mulF_out f _ h]
theorem unitF_at {k r c : Nat} (hr : r < k) (hc : c < 5) : unitF k (5 * r + c) = if r = c then 1 else 0 := by
  unfold unitF
  have e1 : (5 * r + c) / 5 = r := by omega
  have e2 : (5 * r + c) % 5 = c := by omega
  rw [e1, e2, show Nat.blt r k = true by simpa [Nat.blt_eq] using hr]
  by_cases h : r = c
  · subst h; simp
  · rw [if_neg h, show Nat.beq r c = false by rw [Bool.eq_false_iff, Ne, Nat.beq_eq]; exact h]; rfl
theorem sumI_pick (F : Nat → Int) (a : Nat) : ∀ n, sumI (fun x => (if a = x then 1 else 0) * F x) n = if a < n then F a else 0
  | 0 => rfl
  | n + 1 => by
    simp only [sumI]
    rw [sumI_pick F a n]
    by_cases h : a = n
    · subst h; simp
    · rw [if_neg h]
      by_cases h2 : a < n
      · rw [if_pos h2, if_pos (by omega)]; omega
      · rw [if_neg h2, if_neg (by omega)]; omega
theorem unit_mul {k : Nat} (h5 : k ≤ 5) (f : Nat → Int) {r c : Nat} (hr : r < k) (hc : c < k) : mulF k (unitF k) f (5 * r + c) = W (f (5 * r + c)) := by
  rw [mulF_at _ f hr hc h5]
  rw [sumI_eq k fun x hx => by rw [unitF_at hr (by omega)], sumI_pick (fun x => f (5 * x + c)) r k, if_pos hr]
theorem mul_unit {k : Nat} (h5 : k ≤ 5) (f : Nat → Int) {r c : Nat} (hr : r < k) (hc : c < k) : mulF k f (unitF k) (5 * r + c) = W (f (5 * r + c)) := by
  rw [mulF_at f _ hr hc h5]
  rw [sumI_eq k (F' := fun x => (if c = x then 1 else 0) * f (5 * r + x)) fun x hx => by
    rw [unitF_at hx (by omega), Int.mul_comm]
    by_cases h : x = c
    · subst h; simp
    · rw [if_neg h, if_neg (Ne.symm h)], sumI_pick (fun x => f (5 * r + x)) c k, if_pos hc]
/-- Powers from the right. -/
def rp (k : Nat) (f : Nat → Int) : Nat → Nat → Int
  | 0 => unitF k
  | n + 1 => mulF k (rp k f n) f
theorem pw_comm {k : Nat} (h5 : k ≤ 5) (f : Nat → Int) : ∀ (n i : Nat), mulF k (pw k f n) f i = mulF k f (pw k f n) i
  | 0, i => by
    by_cases h : i / 5 < k ∧ i % 5 < k
    · have e : i = 5 * (i / 5) + i % 5 := by omega
      rw [e]
      exact (unit_mul h5 f h.1 h.2).trans (mul_unit h5 f h.1 h.2).symm
    · rw [mulF_out _ f h, mulF_out f _ h]
  | n + 1, i => by
    show mulF k (mulF k f (pw k f n)) f i = mulF k f (mulF k f (pw k f n)) i
    rw [mulF_assoc h5]
    exact mulF_cong h5 (fun _ _ _ _ => rfl) (fun r c _ _ => pw_comm h5 f n _) i
theorem rp_pw {k : Nat} (h5 : k ≤ 5) (f : Nat → Int) : ∀ (n i : Nat), rp k f n i = pw k f n i
  | 0, _ => rfl
  | n + 1, i => by
    show mulF k (rp k f n) f i = mulF k f (pw k f n) i
    rw [← pw_comm h5 f n]
    exact mulF_cong h5 (fun r c _ _ => rp_pw h5 f n _) (fun _ _ _ _ => rfl) i
end Go.Proofs.Ytjfopbpkophoeaa

/- Chapter 06: trips, round trips and orbits: the program's (15, 16, 17) and the document's (63, 18, 19, 20). -/
namespace Go.Proofs.Ytjfopbpkophoeaa
open Go Go.AE
set_option maxRecDepth 100000
def rowL (g : Nat → Int) (i : Nat) : Nat → List Int
  | 0 => []
  | n + 1 => rowL g i n ++ [g (5 * i + n)]
def allL (g : Nat → Int) (w : Nat) : Nat → List Int
  | 0 => []
  | n + 1 => allL g w n ++ rowL g n w
def dgL (g : Nat → Int) : Nat → List Int
  | 0 => []
  | n + 1 => dgL g n ++ [g (6 * n)]
def rowsG (g : Nat → Int) (w : Nat) : Nat → List DV
  | 0 => []
  | n + 1 => rowsG g w n ++ [.sl (ints (rowL g n w)) w 1 false false]
/-- A matrix of any numbers as rows. -/
def matF (k : Nat) (g : Nat → Int) : DV := .sl (rowsG g k k) k 1 false false
def wsum (a : Int) : List Int → Int
  | [] => a
  | x :: r => wsum (IntKind.wrap .i64 (a + x)) r
theorem wsum_W : ∀ (l : List Int) (s : Int), wsum (W s) l = W (s + l.sum)
  | [], s => by simp [wsum]
  | x :: l, s => by
    show wsum (W (W s + x)) l = _
    rw [W_addL, wsum_W l (s + x), List.sum_cons, Int.add_assoc]
theorem wsum_0 (l : List Int) : wsum 0 l = W l.sum := by
  have := wsum_W l 0
  rw [Int.zero_add] at this
  exact this
theorem rowL_pad {g : Nat → Int} {i k : Nat} : ∀ w, k ≤ w → (∀ j, k ≤ j → j < w → g (5 * i + j) = 0) → (rowL g i w).sum = (rowL g i k).sum
  | 0, h, _ => by rw [show k = 0 by omega]
  | w + 1, h, hz => by
    by_cases q : k = w + 1
    · rw [q]
    · rw [show rowL g i (w + 1) = rowL g i w ++ [g (5 * i + w)] from rfl, sum_app, rowL_pad w (by omega) (fun j h1 h2 => hz j h1 (by omega)), hz w (by omega) (by omega)]
      simp
theorem allL_pad {g : Nat → Int} {k w : Nat} (hk : k ≤ w) : ∀ n, (∀ i j, i < n → k ≤ j → j < w → g (5 * i + j) = 0) → (allL g w n).sum = (allL g k n).sum
  | 0, _ => rfl
  | n + 1, hz => by
    unfold allL
    rw [sum_app, sum_app, allL_pad hk n (fun i j h1 h2 h3 => hz i j (by omega) h2 h3), rowL_pad w hk (fun j h1 h2 => hz n j (by omega) h1 h2)]
theorem pw_out {k : Nat} (f : Nat → Int) : ∀ (n i : Nat), k ≤ i % 5 → pw k f n i = 0
  | 0, i, h => by
    show unitF k i = 0
    unfold unitF
    cases hb : (Nat.blt (i / 5) k && Nat.beq (i / 5) (i % 5)) with
    | false => rfl
    | true =>
      simp only [Bool.and_eq_true, Nat.blt_eq, Nat.beq_eq] at hb
      omega
  | n + 1, i, h => mulF_out f _ (by omega)
theorem rp_is {k : Nat} (h5 : k ≤ 5) (f : Nat → Int) (n : Nat) : rp k f n = pw k f n := funext (rp_pw h5 f n)
/-! ### The document's powers -/
def e630 (k : Nat) (A : DV) (m : Int) (g : Nat → Int) : St := ⟨[(0, .d A), (1, .d (iD m)), (5, .d (iD k)), (6, AV.row 0 0 k k 1 true)], .ac (refs k k) :: blks g k k, []⟩
where
  refs (k : Nat) : Nat → List AV
    | 0 => []
    | n + 1 => refs k n ++ [AV.row (n + 1) 0 k k 1 true]
  blks (g : Nat → Int) (k : Nat) : Nat → List Blk
    | 0 => []
    | n + 1 => blks g k n ++ [.dc (ints (rowL g n k))]
def s630 (k : Nat) (A : DV) (m : Int) : St := ⟨[(0, .d A), (1, .d (iD m)), (5, .d (iD k)), (6, AV.row 0 0 k k 1 true), (7, .d (iD 0))], [.dc (List.replicate k (DV.sl [] 0 0 false true))], []⟩
def s632 (k : Nat) (A : DV) (m n : Int) (g : Nat → Int) : St := ⟨[(0, .d A), (1, .d (iD m)), (5, .d (iD k)), (6, AV.row 0 0 k k 1 true), (8, .d (iD n))], .ac (e630.refs k k) :: e630.blks g k k, []⟩
def e632 (k : Nat) (g : Nat → Int) : St := ⟨[(6, AV.row 0 0 k k 1 true)], .ac (e630.refs k k) :: e630.blks g k k, []⟩
theorem t63h_1 (f : Nat → Int) (m : Int) : startS aeC Ev.nil 63 0 Try.f63 none ⟨envOf 0 [.d (matF 1 f), .d (iD m)], [], []⟩ (heldD aeC 63 0) = some (0, s630 1 (matF 1 f) m) := by kernel_rfl
theorem t63l_1 (f : Nat → Int) (m : Int) : inL aeC Ev.nil 63 0 Try.f63 20 0 (s630 1 (matF 1 f) m) (fun ex s => some (ex, s)) = some (Ex.exit 0, e630 1 (matF 1 f) m (unitF 1)) := by kernel_rfl
theorem t63n_1 (f g : Nat → Int) (m : Int) : nextS aeC Ev.nil 63 0 Try.f63 none 0 (.exit 0) (e630 1 (matF 1 f) m g) (heldD aeC 63 0) = some (2, s632 1 (matF 1 f) m 0 g) := by kernel_rfl
theorem t63r_1 (f g : Nat → Int) (m n : Int) : inR aeC Ev.nil 63 0 Try.f63 20 2 (s632 1 (matF 1 f) m n g) (roundD aeC 63 0 2) = bif decide (n < m) then some (Ex.norm, s632 1 (matF 1 f) m (IntKind.wrap IntKind.i64 (n + 1)) (mulF 1 g f)) else some (Ex.exit 2, e632 1 g) := by kernel_rfl
theorem t63e_1 (g : Nat → Int) : nextS aeC Ev.nil 63 0 Try.f63 none 2 (.exit 2) (e632 1 g) (doneE aeC Try.f63 0 fun v h => freezeP 63 h v) = some (matF 1 g) := by kernel_rfl
theorem t63h_2 (f : Nat → Int) (m : Int) : startS aeC Ev.nil 63 0 Try.f63 none ⟨envOf 0 [.d (matF 2 f), .d (iD m)], [], []⟩ (heldD aeC 63 0) = some (0, s630 2 (matF 2 f) m) := by kernel_rfl
theorem t63l_2 (f : Nat → Int) (m : Int) : inL aeC Ev.nil 63 0 Try.f63 20 0 (s630 2 (matF 2 f) m) (fun ex s => some (ex, s)) = some (Ex.exit 0, e630 2 (matF 2 f) m (unitF 2)) := by kernel_rfl
theorem t63n_2 (f g : Nat → Int) (m : Int) : nextS aeC Ev.nil 63 0 Try.f63 none 0 (.exit 0) (e630 2 (matF 2 f) m g) (heldD aeC 63 0) = some (2, s632 2 (matF 2 f) m 0 g) := by kernel_rfl
theorem t63r_2 (f g : Nat → Int) (m n : Int) : inR aeC Ev.nil 63 0 Try.f63 20 2 (s632 2 (matF 2 f) m n g) (roundD aeC 63 0 2) = bif decide (n < m) then some (Ex.norm, s632 2 (matF 2 f) m (IntKind.wrap IntKind.i64 (n + 1)) (mulF 2 g f)) else some (Ex.exit 2, e632 2 g) := by kernel_rfl
theorem t63e_2 (g : Nat → Int) : nextS aeC Ev.nil 63 0 Try.f63 none 2 (.exit 2) (e632 2 g) (doneE aeC Try.f63 0 fun v h => freezeP 63 h v) = some (matF 2 g) := by kernel_rfl
theorem t63h_3 (f : Nat → Int) (m : Int) : startS aeC Ev.nil 63 0 Try.f63 none ⟨envOf 0 [.d (matF 3 f), .d (iD m)], [], []⟩ (heldD aeC 63 0) = some (0, s630 3 (matF 3 f) m) := by kernel_rfl
theorem t63l_3 (f : Nat → Int) (m : Int) : inL aeC Ev.nil 63 0 Try.f63 20 0 (s630 3 (matF 3 f) m) (fun ex s => some (ex, s)) = some (Ex.exit 0, e630 3 (matF 3 f) m (unitF 3)) := by kernel_rfl
theorem t63n_3 (f g : Nat → Int) (m : Int) : nextS aeC Ev.nil 63 0 Try.f63 none 0 (.exit 0) (e630 3 (matF 3 f) m g) (heldD aeC 63 0) = some (2, s632 3 (matF 3 f) m 0 g) := by kernel_rfl
theorem t63r_3 (f g : Nat → Int) (m n : Int) : inR aeC Ev.nil 63 0 Try.f63 20 2 (s632 3 (matF 3 f) m n g) (roundD aeC 63 0 2) = bif decide (n < m) then some (Ex.norm, s632 3 (matF 3 f) m (IntKind.wrap IntKind.i64 (n + 1)) (mulF 3 g f)) else some (Ex.exit 2, e632 3 g) := by kernel_rfl
theorem t63e_3 (g : Nat → Int) : nextS aeC Ev.nil 63 0 Try.f63 none 2 (.exit 2) (e632 3 g) (doneE aeC Try.f63 0 fun v h => freezeP 63 h v) = some (matF 3 g) := by kernel_rfl
theorem t63h_4 (f : Nat → Int) (m : Int) : startS aeC Ev.nil 63 0 Try.f63 none ⟨envOf 0 [.d (matF 4 f), .d (iD m)], [], []⟩ (heldD aeC 63 0) = some (0, s630 4 (matF 4 f) m) := by kernel_rfl
theorem t63l_4 (f : Nat → Int) (m : Int) : inL aeC Ev.nil 63 0 Try.f63 20 0 (s630 4 (matF 4 f) m) (fun ex s => some (ex, s)) = some (Ex.exit 0, e630 4 (matF 4 f) m (unitF 4)) := by kernel_rfl
theorem t63n_4 (f g : Nat → Int) (m : Int) : nextS aeC Ev.nil 63 0 Try.f63 none 0 (.exit 0) (e630 4 (matF 4 f) m g) (heldD aeC 63 0) = some (2, s632 4 (matF 4 f) m 0 g) := by kernel_rfl
theorem t63r_4 (f g : Nat → Int) (m n : Int) : inR aeC Ev.nil 63 0 Try.f63 20 2 (s632 4 (matF 4 f) m n g) (roundD aeC 63 0 2) = bif decide (n < m) then some (Ex.norm, s632 4 (matF 4 f) m (IntKind.wrap IntKind.i64 (n + 1)) (mulF 4 g f)) else some (Ex.exit 2, e632 4 g) := by kernel_rfl
theorem t63e_4 (g : Nat → Int) : nextS aeC Ev.nil 63 0 Try.f63 none 2 (.exit 2) (e632 4 g) (doneE aeC Try.f63 0 fun v h => freezeP 63 h v) = some (matF 4 g) := by kernel_rfl
theorem t63h_5 (f : Nat → Int) (m : Int) : startS aeC Ev.nil 63 0 Try.f63 none ⟨envOf 0 [.d (matF 5 f), .d (iD m)], [], []⟩ (heldD aeC 63 0) = some (0, s630 5 (matF 5 f) m) := by kernel_rfl
theorem t63l_5 (f : Nat → Int) (m : Int) : inL aeC Ev.nil 63 0 Try.f63 20 0 (s630 5 (matF 5 f) m) (fun ex s => some (ex, s)) = some (Ex.exit 0, e630 5 (matF 5 f) m (unitF 5)) := by kernel_rfl
theorem t63n_5 (f g : Nat → Int) (m : Int) : nextS aeC Ev.nil 63 0 Try.f63 none 0 (.exit 0) (e630 5 (matF 5 f) m g) (heldD aeC 63 0) = some (2, s632 5 (matF 5 f) m 0 g) := by kernel_rfl
theorem t63r_5 (f g : Nat → Int) (m n : Int) : inR aeC Ev.nil 63 0 Try.f63 20 2 (s632 5 (matF 5 f) m n g) (roundD aeC 63 0 2) = bif decide (n < m) then some (Ex.norm, s632 5 (matF 5 f) m (IntKind.wrap IntKind.i64 (n + 1)) (mulF 5 g f)) else some (Ex.exit 2, e632 5 g) := by kernel_rfl
theorem t63e_5 (g : Nat → Int) : nextS aeC Ev.nil 63 0 Try.f63 none 2 (.exit 2) (e632 5 g) (doneE aeC Try.f63 0 fun v h => freezeP 63 h v) = some (matF 5 g) := by kernel_rfl
theorem k63 : OkSeg Try.f63 none [0, 2] := ⟨by kernel_rfl, by kernel_rfl, by decide⟩
theorem t63h {k : Nat} (h1 : 1 ≤ k) (h5 : k ≤ 5) (f : Nat → Int) (m : Int) : startS aeC Ev.nil 63 0 Try.f63 none ⟨envOf 0 [.d (matF k f), .d (iD m)], [], []⟩ (heldD aeC 63 0) = some (0, s630 k (matF k f) m) := by
  rcases five h1 h5 with rfl | rfl | rfl | rfl | rfl
  · exact t63h_1 f m
  · exact t63h_2 f m
  · exact t63h_3 f m
  · exact t63h_4 f m
  · exact t63h_5 f m
theorem t63l {k : Nat} (h1 : 1 ≤ k) (h5 : k ≤ 5) (f : Nat → Int) (m : Int) : inL aeC Ev.nil 63 0 Try.f63 20 0 (s630 k (matF k f) m) (fun ex s => some (ex, s)) = some (Ex.exit 0, e630 k (matF k f) m (unitF k)) := by
  rcases five h1 h5 with rfl | rfl | rfl | rfl | rfl
  · exact t63l_1 f m
  · exact t63l_2 f m
  · exact t63l_3 f m
  · exact t63l_4 f m
  · exact t63l_5 f m
theorem t63n {k : Nat} (h1 : 1 ≤ k) (h5 : k ≤ 5) (f g : Nat → Int) (m : Int) : nextS aeC Ev.nil 63 0 Try.f63 none 0 (.exit 0) (e630 k (matF k f) m g) (heldD aeC 63 0) = some (2, s632 k (matF k f) m 0 g) := by
  rcases five h1 h5 with rfl | rfl | rfl | rfl | rfl
  · exact t63n_1 f g m
  · exact t63n_2 f g m
  · exact t63n_3 f g m
  · exact t63n_4 f g m
  · exact t63n_5 f g m
theorem t63r {k : Nat} (h1 : 1 ≤ k) (h5 : k ≤ 5) (f g : Nat → Int) (m n : Int) : inR aeC Ev.nil 63 0 Try.f63 20 2 (s632 k (matF k f) m n g) (roundD aeC 63 0 2) = bif decide (n < m) then some (Ex.norm, s632 k (matF k f) m (IntKind.wrap IntKind.i64 (n + 1)) (mulF k g f)) else some (Ex.exit 2, e632 k g) := by
  rcases five h1 h5 with rfl | rfl | rfl | rfl | rfl
  · exact t63r_1 f g m n
  · exact t63r_2 f g m n
  · exact t63r_3 f g m n
  · exact t63r_4 f g m n
  · exact t63r_5 f g m n
theorem t63e {k : Nat} (h1 : 1 ≤ k) (h5 : k ≤ 5) (g : Nat → Int) : nextS aeC Ev.nil 63 0 Try.f63 none 2 (.exit 2) (e632 k g) (doneE aeC Try.f63 0 fun v h => freezeP 63 h v) = some (matF k g) := by
  rcases five h1 h5 with rfl | rfl | rfl | rfl | rfl
  · exact t63e_1 g
  · exact t63e_2 g
  · exact t63e_3 g
  · exact t63e_4 g
  · exact t63e_5 g
theorem loop63 {k : Nat} (h1 : 1 ≤ k) (h5 : k ≤ 5) (f : Nat → Int) (m : Nat) (hm : m ≤ 1000) : ∀ (t i : Nat), i + t = m → LoopAt aeC Ev.nil 63 0 Try.f63 2 (s632 k (matF k f) m i (rp k f i)) (.exit 2) (e632 k (rp k f m))
  | 0, i, hi => by
    have : i = m := by omega
    subst this
    exact .outI (k := 20) (by simp) ((t63r h1 h5 f _ _ _).trans (cnd_neg (by omega)))
  | t + 1, i, hi => by
    have hw : IntKind.wrap .i64 ((i : Int) + 1) = ((i + 1 : Nat) : Int) := by rw [wrap64_o (by omega) (by omega)]; rfl
    refine .nextI (k := 20) ((t63r h1 h5 f _ _ _).trans ((cnd_pos (by omega)).trans ?_)) (loop63 h1 h5 f m hm t (i + 1) (by omega))
    rw [hw]; rfl
theorem c63 {k : Nat} (h1 : 1 ≤ k) (h5 : k ≤ 5) (f : Nat → Int) (m : Nat) (hm : m ≤ 1000) : PureOK Try.prog 63 [matF k f, iD m] (matF k (pw k f m)) := by
  rw [← rp_is h5]
  refine ae_pure EvOK.nil (fn := Try.f63) k63 (by kernel_rfl) (by kernel_rfl) ((startF_seg k63 (t63h h1 h5 f m) (.inl (t63l h1 h5 f m))).trans ?_)
  exact (nextF_seg k63 (by decide) (exit_small (by decide)) (t63n h1 h5 f _ m) (loop63 h1 h5 f m hm m 0 (by omega))).trans (nextF_done k63 done_plain (t63e h1 h5 _))
theorem mat_F {k : Nat} {M : List (List Int)} (hM : matB k M) (h1 : 1 ≤ k) (h5 : k ≤ 5) : matD M = matF k (fM M) := by
  rcases mat_forms hM h1 h5 with ⟨rfl, x00, rfl⟩ | ⟨rfl, x00, x01, x10, x11, rfl⟩ | ⟨rfl, x00, x01, x02, x10, x11, x12, x20, x21, x22, rfl⟩ | ⟨rfl, x00, x01, x02, x03, x10, x11, x12, x13, x20, x21, x22, x23, x30, x31, x32, x33, rfl⟩ | ⟨rfl, x00, x01, x02, x03, x04, x10, x11, x12, x13, x14, x20, x21, x22, x23, x24, x30, x31, x32, x33, x34, x40, x41, x42, x43, x44, rfl⟩
  · kernel_rfl
  · kernel_rfl
  · kernel_rfl
  · kernel_rfl
  · kernel_rfl
/-! ### Trips and round trips -/
def shq (A X : List DV) (f : Nat) (_ : List DV) : DV := bif Nat.beq f 61 then .tup [.agg A, iD 0] else .agg X
def shR (X : DV) (_ : Nat) (_ : List DV) : DV := X
def W15 (ok : Nat → List DV → Bool) (a : DV) (A : List DV) (m : Int) (v : Int) : Option DV :=
  bif ok 61 [a] then (bif decide (m < 0) then some (.tup [iD 0, iD 1]) else bif decide (10 < m) then some (.tup [iD 0, iD 1]) else bif ok 62 [.agg A, iD m] then some (.tup [iD v, iD 0]) else none) else none
theorem t15_1 (ok : Nat → List DV → Bool) (f g : Nat → Int) (a : DV) (m : Int) : pureE aeC (evW [61, 62] ok (shq (mx25 1 f) (mx25 1 g))) 30 15 Try.f15 [a, iD m] = W15 ok a (mx25 1 f) m (wsum 0 (allL g 5 1)) := by kernel_rfl
theorem t16_1 (ok : Nat → List DV → Bool) (f g : Nat → Int) (a : DV) (m : Int) : pureE aeC (evW [61, 62] ok (shq (mx25 1 f) (mx25 1 g))) 30 16 Try.f16 [a, iD m] = W15 ok a (mx25 1 f) m (wsum 0 (dgL g 1)) := by kernel_rfl
theorem t18_1 (ok : Nat → List DV → Bool) (g : Nat → Int) (a : DV) (m : Int) : pureE aeC (evW [63] ok (shR (matF 1 g))) 30 18 Try.f18 [a, iD m] = bif ok 63 [a, iD m] then some (iD (wsum 0 (allL g 1 1))) else none := by kernel_rfl
theorem t19_1 (ok : Nat → List DV → Bool) (g : Nat → Int) (a : DV) (m : Int) : pureE aeC (evW [63] ok (shR (matF 1 g))) 30 19 Try.f19 [a, iD m] = bif ok 63 [a, iD m] then some (iD (wsum 0 (dgL g 1))) else none := by kernel_rfl
theorem t60_1 (g : Nat → Int) : PureOK Try.prog 60 [.agg (mx25 1 g)] (iD (wsum 0 (dgL g 1))) := walkA (by kernel_rfl : tget aeF 60 = some Try.f60) (by kernel_rfl)
theorem t15_2 (ok : Nat → List DV → Bool) (f g : Nat → Int) (a : DV) (m : Int) : pureE aeC (evW [61, 62] ok (shq (mx25 2 f) (mx25 2 g))) 30 15 Try.f15 [a, iD m] = W15 ok a (mx25 2 f) m (wsum 0 (allL g 5 2)) := by kernel_rfl
theorem t16_2 (ok : Nat → List DV → Bool) (f g : Nat → Int) (a : DV) (m : Int) : pureE aeC (evW [61, 62] ok (shq (mx25 2 f) (mx25 2 g))) 30 16 Try.f16 [a, iD m] = W15 ok a (mx25 2 f) m (wsum 0 (dgL g 2)) := by kernel_rfl
theorem t18_2 (ok : Nat → List DV → Bool) (g : Nat → Int) (a : DV) (m : Int) : pureE aeC (evW [63] ok (shR (matF 2 g))) 30 18 Try.f18 [a, iD m] = bif ok 63 [a, iD m] then some (iD (wsum 0 (allL g 2 2))) else none := by kernel_rfl
theorem t19_2 (ok : Nat → List DV → Bool) (g : Nat → Int) (a : DV) (m : Int) : pureE aeC (evW [63] ok (shR (matF 2 g))) 30 19 Try.f19 [a, iD m] = bif ok 63 [a, iD m] then some (iD (wsum 0 (dgL g 2))) else none := by kernel_rfl
theorem t60_2 (g : Nat → Int) : PureOK Try.prog 60 [.agg (mx25 2 g)] (iD (wsum 0 (dgL g 2))) := walkA (by kernel_rfl : tget aeF 60 = some Try.f60) (by kernel_rfl)
theorem t15_3 (ok : Nat → List DV → Bool) (f g : Nat → Int) (a : DV) (m : Int) : pureE aeC (evW [61, 62] ok (shq (mx25 3 f) (mx25 3 g))) 30 15 Try.f15 [a, iD m] = W15 ok a (mx25 3 f) m (wsum 0 (allL g 5 3)) := by kernel_rfl
theorem t16_3 (ok : Nat → List DV → Bool) (f g : Nat → Int) (a : DV) (m : Int) : pureE aeC (evW [61, 62] ok (shq (mx25 3 f) (mx25 3 g))) 30 16 Try.f16 [a, iD m] = W15 ok a (mx25 3 f) m (wsum 0 (dgL g 3)) := by kernel_rfl
theorem t18_3 (ok : Nat → List DV → Bool) (g : Nat → Int) (a : DV) (m : Int) : pureE aeC (evW [63] ok (shR (matF 3 g))) 30 18 Try.f18 [a, iD m] = bif ok 63 [a, iD m] then some (iD (wsum 0 (allL g 3 3))) else none := by kernel_rfl
theorem t19_3 (ok : Nat → List DV → Bool) (g : Nat → Int) (a : DV) (m : Int) : pureE aeC (evW [63] ok (shR (matF 3 g))) 30 19 Try.f19 [a, iD m] = bif ok 63 [a, iD m] then some (iD (wsum 0 (dgL g 3))) else none := by kernel_rfl
theorem t60_3 (g : Nat → Int) : PureOK Try.prog 60 [.agg (mx25 3 g)] (iD (wsum 0 (dgL g 3))) := walkA (by kernel_rfl : tget aeF 60 = some Try.f60) (by kernel_rfl)
theorem t15_4 (ok : Nat → List DV → Bool) (f g : Nat → Int) (a : DV) (m : Int) : pureE aeC (evW [61, 62] ok (shq (mx25 4 f) (mx25 4 g))) 30 15 Try.f15 [a, iD m] = W15 ok a (mx25 4 f) m (wsum 0 (allL g 5 4)) := by kernel_rfl
theorem t16_4 (ok : Nat → List DV → Bool) (f g : Nat → Int) (a : DV) (m : Int) : pureE aeC (evW [61, 62] ok (shq (mx25 4 f) (mx25 4 g))) 30 16 Try.f16 [a, iD m] = W15 ok a (mx25 4 f) m (wsum 0 (dgL g 4)) := by kernel_rfl
theorem t18_4 (ok : Nat → List DV → Bool) (g : Nat → Int) (a : DV) (m : Int) : pureE aeC (evW [63] ok (shR (matF 4 g))) 30 18 Try.f18 [a, iD m] = bif ok 63 [a, iD m] then some (iD (wsum 0 (allL g 4 4))) else none := by kernel_rfl
theorem t19_4 (ok : Nat → List DV → Bool) (g : Nat → Int) (a : DV) (m : Int) : pureE aeC (evW [63] ok (shR (matF 4 g))) 30 19 Try.f19 [a, iD m] = bif ok 63 [a, iD m] then some (iD (wsum 0 (dgL g 4))) else none := by kernel_rfl
theorem t60_4 (g : Nat → Int) : PureOK Try.prog 60 [.agg (mx25 4 g)] (iD (wsum 0 (dgL g 4))) := walkA (by kernel_rfl : tget aeF 60 = some Try.f60) (by kernel_rfl)
theorem t15_5 (ok : Nat → List DV → Bool) (f g : Nat → Int) (a : DV) (m : Int) : pureE aeC (evW [61, 62] ok (shq (mx25 5 f) (mx25 5 g))) 30 15 Try.f15 [a, iD m] = W15 ok a (mx25 5 f) m (wsum 0 (allL g 5 5)) := by kernel_rfl
theorem t16_5 (ok : Nat → List DV → Bool) (f g : Nat → Int) (a : DV) (m : Int) : pureE aeC (evW [61, 62] ok (shq (mx25 5 f) (mx25 5 g))) 30 16 Try.f16 [a, iD m] = W15 ok a (mx25 5 f) m (wsum 0 (dgL g 5)) := by kernel_rfl
theorem t18_5 (ok : Nat → List DV → Bool) (g : Nat → Int) (a : DV) (m : Int) : pureE aeC (evW [63] ok (shR (matF 5 g))) 30 18 Try.f18 [a, iD m] = bif ok 63 [a, iD m] then some (iD (wsum 0 (allL g 5 5))) else none := by kernel_rfl
theorem t19_5 (ok : Nat → List DV → Bool) (g : Nat → Int) (a : DV) (m : Int) : pureE aeC (evW [63] ok (shR (matF 5 g))) 30 19 Try.f19 [a, iD m] = bif ok 63 [a, iD m] then some (iD (wsum 0 (dgL g 5))) else none := by kernel_rfl
theorem t60_5 (g : Nat → Int) : PureOK Try.prog 60 [.agg (mx25 5 g)] (iD (wsum 0 (dgL g 5))) := walkA (by kernel_rfl : tget aeF 60 = some Try.f60) (by kernel_rfl)
theorem t15 {k : Nat} (h1 : 1 ≤ k) (h5 : k ≤ 5) (ok : Nat → List DV → Bool) (f g : Nat → Int) (a : DV) (m : Int) : pureE aeC (evW [61, 62] ok (shq (mx25 k f) (mx25 k g))) 30 15 Try.f15 [a, iD m] = W15 ok a (mx25 k f) m (wsum 0 (allL g 5 k)) := by
  rcases five h1 h5 with rfl | rfl | rfl | rfl | rfl
  · exact t15_1 ok f g a m
  · exact t15_2 ok f g a m
  · exact t15_3 ok f g a m
  · exact t15_4 ok f g a m
  · exact t15_5 ok f g a m
theorem t16 {k : Nat} (h1 : 1 ≤ k) (h5 : k ≤ 5) (ok : Nat → List DV → Bool) (f g : Nat → Int) (a : DV) (m : Int) : pureE aeC (evW [61, 62] ok (shq (mx25 k f) (mx25 k g))) 30 16 Try.f16 [a, iD m] = W15 ok a (mx25 k f) m (wsum 0 (dgL g k)) := by
  rcases five h1 h5 with rfl | rfl | rfl | rfl | rfl
  · exact t16_1 ok f g a m
  · exact t16_2 ok f g a m
  · exact t16_3 ok f g a m
  · exact t16_4 ok f g a m
  · exact t16_5 ok f g a m
theorem t18 {k : Nat} (h1 : 1 ≤ k) (h5 : k ≤ 5) (ok : Nat → List DV → Bool) (g : Nat → Int) (a : DV) (m : Int) : pureE aeC (evW [63] ok (shR (matF k g))) 30 18 Try.f18 [a, iD m] = bif ok 63 [a, iD m] then some (iD (wsum 0 (allL g k k))) else none := by
  rcases five h1 h5 with rfl | rfl | rfl | rfl | rfl
  · exact t18_1 ok g a m
  · exact t18_2 ok g a m
  · exact t18_3 ok g a m
  · exact t18_4 ok g a m
  · exact t18_5 ok g a m
theorem t19 {k : Nat} (h1 : 1 ≤ k) (h5 : k ≤ 5) (ok : Nat → List DV → Bool) (g : Nat → Int) (a : DV) (m : Int) : pureE aeC (evW [63] ok (shR (matF k g))) 30 19 Try.f19 [a, iD m] = bif ok 63 [a, iD m] then some (iD (wsum 0 (dgL g k))) else none := by
  rcases five h1 h5 with rfl | rfl | rfl | rfl | rfl
  · exact t19_1 ok g a m
  · exact t19_2 ok g a m
  · exact t19_3 ok g a m
  · exact t19_4 ok g a m
  · exact t19_5 ok g a m
theorem c60k {k : Nat} (h1 : 1 ≤ k) (h5 : k ≤ 5) (g : Nat → Int) : PureOK Try.prog 60 [.agg (mx25 k g)] (iD (wsum 0 (dgL g k))) := by
  rcases five h1 h5 with rfl | rfl | rfl | rfl | rfl
  · exact t60_1 g
  · exact t60_2 g
  · exact t60_3 g
  · exact t60_4 g
  · exact t60_5 g
/-- How many trips; how many are round. -/
def tripN (k : Nat) (f : Nat → Int) (m : Nat) : Int := wsum 0 (allL (pw k f m) 5 k)
def rndN (k : Nat) (f : Nat → Int) (m : Nat) : Int := wsum 0 (dgL (pw k f m) k)
theorem rnd_W (k : Nat) (f : Nat → Int) (m : Nat) : W (rndN k f m) = rndN k f m := by unfold rndN; rw [wsum_0, W_W]
theorem trip_R (k : Nat) (f : Nat → Int) (m : Nat) (h5 : k ≤ 5) : wsum 0 (allL (pw k f m) k k) = tripN k f m := by
  unfold tripN
  rw [wsum_0, wsum_0, allL_pad h5 k fun i j _ h1 h2 => pw_out f m (5 * i + j) (by omega)]
section
variable {k : Nat} {M : List (List Int)} (hM : matB k M) (h1 : 1 ≤ k) (h5 : k ≤ 5)
include hM h1 h5
theorem h61k (X : List DV) : okS (shq (mx25 k (fM M)) X) 61 [matD M] = true := okS_is (by
  show PureOK Try.prog 61 _ (.tup [.agg (mx25 k (fM M)), iD 0])
  rw [← mtx_mx hM h1 h5]; exact c61 hM h1 h5)
theorem c15_bad {m : Int} (hm : m < 0 ∨ 10 < m) : PureOK Try.prog 15 [matD M, iD m] (.tup [iD 0, iD 1]) ∧ PureOK Try.prog 16 [matD M, iD m] (.tup [iD 0, iD 1]) := by
  have h : ∀ v, W15 (okS (shq (mx25 k (fM M)) (mx25 k fun _ => 0))) (matD M) (mx25 k (fM M)) m v = some (.tup [iD 0, iD 1]) := fun v => by
    unfold W15
    rw [h61k hM h1 h5]
    simp only [cond_true]
    rcases hm with hm | hm
    · rw [decide_eq_true hm]; rfl
    · rw [decide_eq_false (show ¬ m < 0 by omega), decide_eq_true hm]; rfl
  exact ⟨walk (by kernel_rfl : tget aeF 15 = some Try.f15) ((t15 h1 h5 ..).trans (h _)), walk (by kernel_rfl : tget aeF 16 = some Try.f16) ((t16 h1 h5 ..).trans (h _))⟩
theorem c15_at {m : Nat} (hm : m ≤ 10) : PureOK Try.prog 15 [matD M, iD m] (.tup [iD (tripN k (fM M) m), iD 0]) ∧ PureOK Try.prog 16 [matD M, iD m] (.tup [iD (rndN k (fM M) m), iD 0]) := by
  have h62 : okS (shq (mx25 k (fM M)) (mx25 k (pw k (fM M) m))) 62 [.agg (mx25 k (fM M)), iD m] = true := okS_is (c62 h1 h5 (fM M) m (by omega))
  have h : ∀ v, W15 (okS (shq (mx25 k (fM M)) (mx25 k (pw k (fM M) m)))) (matD M) (mx25 k (fM M)) m v = some (.tup [iD v, iD 0]) := fun v => by
    unfold W15
    rw [h61k hM h1 h5, h62, decide_eq_false (show ¬ (m : Int) < 0 by omega), decide_eq_false (show ¬ (10 : Int) < m by omega)]
    rfl
  exact ⟨walk (by kernel_rfl : tget aeF 15 = some Try.f15) ((t15 h1 h5 ..).trans (h _)), walk (by kernel_rfl : tget aeF 16 = some Try.f16) ((t16 h1 h5 ..).trans (h _))⟩
theorem c18_at {m : Nat} (hm : m ≤ 10) : PureOK Try.prog 18 [matD M, iD m] (iD (tripN k (fM M) m)) ∧ PureOK Try.prog 19 [matD M, iD m] (iD (rndN k (fM M) m)) := by
  have h63 : okS (shR (matF k (pw k (fM M) m))) 63 [matD M, iD m] = true := okS_is (by rw [mat_F hM h1 h5]; exact c63 h1 h5 (fM M) m (by omega))
  refine ⟨walk (by kernel_rfl : tget aeF 18 = some Try.f18) ((t18 h1 h5 ..).trans ((cond_is' h63).trans ?_)), walk (by kernel_rfl : tget aeF 19 = some Try.f19) ((t19 h1 h5 ..).trans ((cond_is' h63).trans rfl))⟩
  rw [trip_R _ _ _ h5]
end
/-! ### Orbits -/
def argA (i : Nat) (ds : List DV) : Int := match nth ds i with
  | some (.int _ n) => n
  | _ => 0
def sh20 (T : Int) (g : Int → Int) (f : Nat) (ds : List DV) : DV := bif Nat.beq f 19 then iD T else iD (g (argA 1 ds))
def subL (g : Int → Int) (s : Int) : List Nat → Int
  | [] => s
  | d :: r => subL g (IntKind.wrap .i64 (s - IntKind.wrap .i64 ((d : Int) * g (d : Int)))) r
def chk20 (ok : Nat → List DV → Bool) (a : DV) (x : Option DV) : List Nat → Option DV
  | [] => x
  | d :: r => bif ok 20 [a, iD (d : Int)] then chk20 ok a x r else none
theorem t20_1 (ok : Nat → List DV → Bool) (T : Int) (g : Int → Int) (a : DV) : pureE aeC (evW [19, 20] ok (sh20 T g)) 30 20 Try.f20 [a, iD (1 : Nat)] = bif ok 19 [a, iD (1 : Nat)] then chk20 ok a (some (iD (IntKind.wrap .i64 (Int.tdiv (subL g T (dvs 1 0)) (1 : Nat))))) (dvs 1 0) else none := by kernel_rfl
theorem t20_2 (ok : Nat → List DV → Bool) (T : Int) (g : Int → Int) (a : DV) : pureE aeC (evW [19, 20] ok (sh20 T g)) 30 20 Try.f20 [a, iD (2 : Nat)] = bif ok 19 [a, iD (2 : Nat)] then chk20 ok a (some (iD (IntKind.wrap .i64 (Int.tdiv (subL g T (dvs 2 1)) (2 : Nat))))) (dvs 2 1) else none := by kernel_rfl
theorem t20_3 (ok : Nat → List DV → Bool) (T : Int) (g : Int → Int) (a : DV) : pureE aeC (evW [19, 20] ok (sh20 T g)) 30 20 Try.f20 [a, iD (3 : Nat)] = bif ok 19 [a, iD (3 : Nat)] then chk20 ok a (some (iD (IntKind.wrap .i64 (Int.tdiv (subL g T (dvs 3 2)) (3 : Nat))))) (dvs 3 2) else none := by kernel_rfl
theorem t20_4 (ok : Nat → List DV → Bool) (T : Int) (g : Int → Int) (a : DV) : pureE aeC (evW [19, 20] ok (sh20 T g)) 30 20 Try.f20 [a, iD (4 : Nat)] = bif ok 19 [a, iD (4 : Nat)] then chk20 ok a (some (iD (IntKind.wrap .i64 (Int.tdiv (subL g T (dvs 4 3)) (4 : Nat))))) (dvs 4 3) else none := by kernel_rfl
theorem t20_5 (ok : Nat → List DV → Bool) (T : Int) (g : Int → Int) (a : DV) : pureE aeC (evW [19, 20] ok (sh20 T g)) 30 20 Try.f20 [a, iD (5 : Nat)] = bif ok 19 [a, iD (5 : Nat)] then chk20 ok a (some (iD (IntKind.wrap .i64 (Int.tdiv (subL g T (dvs 5 4)) (5 : Nat))))) (dvs 5 4) else none := by kernel_rfl
theorem t20_6 (ok : Nat → List DV → Bool) (T : Int) (g : Int → Int) (a : DV) : pureE aeC (evW [19, 20] ok (sh20 T g)) 30 20 Try.f20 [a, iD (6 : Nat)] = bif ok 19 [a, iD (6 : Nat)] then chk20 ok a (some (iD (IntKind.wrap .i64 (Int.tdiv (subL g T (dvs 6 5)) (6 : Nat))))) (dvs 6 5) else none := by kernel_rfl
theorem t20_7 (ok : Nat → List DV → Bool) (T : Int) (g : Int → Int) (a : DV) : pureE aeC (evW [19, 20] ok (sh20 T g)) 30 20 Try.f20 [a, iD (7 : Nat)] = bif ok 19 [a, iD (7 : Nat)] then chk20 ok a (some (iD (IntKind.wrap .i64 (Int.tdiv (subL g T (dvs 7 6)) (7 : Nat))))) (dvs 7 6) else none := by kernel_rfl
theorem t20_8 (ok : Nat → List DV → Bool) (T : Int) (g : Int → Int) (a : DV) : pureE aeC (evW [19, 20] ok (sh20 T g)) 30 20 Try.f20 [a, iD (8 : Nat)] = bif ok 19 [a, iD (8 : Nat)] then chk20 ok a (some (iD (IntKind.wrap .i64 (Int.tdiv (subL g T (dvs 8 7)) (8 : Nat))))) (dvs 8 7) else none := by kernel_rfl
theorem t20_9 (ok : Nat → List DV → Bool) (T : Int) (g : Int → Int) (a : DV) : pureE aeC (evW [19, 20] ok (sh20 T g)) 30 20 Try.f20 [a, iD (9 : Nat)] = bif ok 19 [a, iD (9 : Nat)] then chk20 ok a (some (iD (IntKind.wrap .i64 (Int.tdiv (subL g T (dvs 9 8)) (9 : Nat))))) (dvs 9 8) else none := by kernel_rfl
theorem t20_10 (ok : Nat → List DV → Bool) (T : Int) (g : Int → Int) (a : DV) : pureE aeC (evW [19, 20] ok (sh20 T g)) 30 20 Try.f20 [a, iD (10 : Nat)] = bif ok 19 [a, iD (10 : Nat)] then chk20 ok a (some (iD (IntKind.wrap .i64 (Int.tdiv (subL g T (dvs 10 9)) (10 : Nat))))) (dvs 10 9) else none := by kernel_rfl
theorem t20 {m : Nat} (h1 : 1 ≤ m) (h : m ≤ 10) (ok : Nat → List DV → Bool) (T : Int) (g : Int → Int) (a : DV) : pureE aeC (evW [19, 20] ok (sh20 T g)) 30 20 Try.f20 [a, iD (m : Nat)] = bif ok 19 [a, iD (m : Nat)] then chk20 ok a (some (iD (IntKind.wrap .i64 (Int.tdiv (subL g T (dvs m (m - 1))) (m : Nat))))) (dvs m (m - 1)) else none := by
  have : m = 1 ∨ m = 2 ∨ m = 3 ∨ m = 4 ∨ m = 5 ∨ m = 6 ∨ m = 7 ∨ m = 8 ∨ m = 9 ∨ m = 10 := by omega
  rcases this with rfl | rfl | rfl | rfl | rfl | rfl | rfl | rfl | rfl | rfl
  · exact t20_1 ok T g a
  · exact t20_2 ok T g a
  · exact t20_3 ok T g a
  · exact t20_4 ok T g a
  · exact t20_5 ok T g a
  · exact t20_6 ok T g a
  · exact t20_7 ok T g a
  · exact t20_8 ok T g a
  · exact t20_9 ok T g a
  · exact t20_10 ok T g a
theorem subL_W {g : Nat → Int} {d : Nat} : ∀ (l : List Nat) (s : Int), (∀ c ∈ l, d % c = 0) → subL (fun z => g z.toNat) (W s) l = W (s - (l.map (qd g d)).sum)
  | [], s, _ => by simp [subL]
  | c :: l, s, h => by
    show subL _ (W (W s - W ((c : Int) * g (c : Int).toNat))) l = _
    rw [W_subR, W_subL, subL_W l _ fun x hx => h x (List.mem_cons_of_mem _ hx), List.map_cons, List.sum_cons, Int.toNat_natCast]
    have hc := h c (List.mem_cons_self ..)
    have hq : qd g d c = (c : Int) * g c := by
      unfold qd
      rw [show Nat.beq (d % c) 0 = true by rw [Nat.beq_eq]; exact hc]
      rfl
    rw [hq, Int.sub_sub]
theorem chk20_ok {ok : Nat → List DV → Bool} {a : DV} {x : Option DV} : ∀ {l : List Nat}, (∀ d ∈ l, ok 20 [a, iD (d : Int)] = true) → chk20 ok a x l = x
  | [], _ => rfl
  | d :: l, h => by
    unfold chk20
    rw [h d (List.mem_cons_self ..)]
    exact chk20_ok fun d hd => h d (List.mem_cons_of_mem _ hd)
section
variable {k : Nat} {M : List (List Int)} (hM : matB k M) (h1 : 1 ≤ k) (h5 : k ≤ 5)
include hM h1 h5
theorem c20_at : ∀ (n m : Nat), m ≤ n → 1 ≤ m → m ≤ 10 → PureOK Try.prog 20 [matD M, iD m] (iD (orb (rndN k (fM M)) m))
  | 0, m, h, h0, _ => by omega
  | n + 1, m, h, h0, hm => by
    let g : Int → Int := fun z => orb (rndN k (fM M)) z.toNat
    have h19 : okS (sh20 (rndN k (fM M) m) g) 19 [matD M, iD m] = true := okS_is (c18_at hM h1 h5 hm).2
    have h20 : ∀ d ∈ dvs m (m - 1), okS (sh20 (rndN k (fM M) m) g) 20 [matD M, iD (d : Int)] = true := fun d hd => okS_is (by
      show PureOK Try.prog 20 _ (iD (orb (rndN k (fM M)) ((d : Int)).toNat))
      rw [Int.toNat_natCast]
      have hd' := dvs_mem.1 hd
      exact c20_at n d (by omega) hd'.1 (by omega))
    refine walk (by kernel_rfl : tget aeF 20 = some Try.f20) ((t20 h0 hm ..).trans ((cond_is' h19).trans ((chk20_ok h20).trans ?_)))
    have hs : subL g (rndN k (fM M) m) (dvs m (m - 1)) = W (rndN k (fM M) m - osum (orb (rndN k (fM M))) m (m - 1)) := by
      conv => lhs; rw [← rnd_W]
      rw [subL_W (d := m) _ _ fun c hc => (dvs_mem.1 hc).2.2, dvs_sum _ (Nat.mod_self m)]
    rw [hs, orb_eq _ h0]
theorem c17_ok {m : Nat} (h0 : 1 ≤ m) (hm : m ≤ 10) : PureOK Try.prog 17 [matD M, iD m] (.tup [iD (orb (rndN k (fM M)) m), iD 0]) :=
  c17_at h0 hm (fun d => mx25 k (pw k (fM M) d)) (rndN k (fM M)) (by rw [← mtx_mx hM h1 h5]; exact c61 hM h1 h5) (fun d hd => c62 h1 h5 (fM M) d (by omega)) (fun d _ => c60k h1 h5 _) (rnd_W k (fM M))
end
theorem t17_b (ok : Nat → List DV → Bool) (k : Nat) (f : Nat → Int) (a : DV) (m : Int) : startS aeC (e17 ok (mx25 k f) [] 0) 17 0 Try.f17 none ⟨envOf 0 [.d a, .d (iD m)], [], []⟩ (doneE aeC Try.f17 0 fun v h => freezeP 17 h v) =
  bif ok 61 [a] then (bif decide (m < 1) then some (.tup [iD 0, iD 1]) else bif decide (10 < m) then some (.tup [iD 0, iD 1]) else none) else none := by kernel_rfl
theorem k17 : OkSeg Try.f17 none [0] := ⟨by kernel_rfl, by kernel_rfl, by decide⟩
theorem c17_bad {k : Nat} {M : List (List Int)} (hM : matB k M) (h1 : 1 ≤ k) (h5 : k ≤ 5) {m : Int} (hm : m < 1 ∨ 10 < m) : PureOK Try.prog 17 [matD M, iD m] (.tup [iD 0, iD 1]) := by
  have h61 : okS (sh17 (mx25 k (fM M)) [] 0) 61 [matD M] = true := okS_is (by
    show PureOK Try.prog 61 _ (.tup [.agg (mx25 k (fM M)), iD 0])
    rw [← mtx_mx hM h1 h5]; exact c61 hM h1 h5)
  refine ae_pure (e17_ok (mx25 k (fM M)) [] 0) (fn := Try.f17) k17 (by kernel_rfl) (by kernel_rfl) (startF_done k17 done_plain ((t17_b ..).trans ((cond_is' h61).trans ?_)))
  rcases hm with hm | hm
  · rw [decide_eq_true hm]; rfl
  · rw [decide_eq_false (show ¬ m < 1 by omega), decide_eq_true hm]; rfl
end Go.Proofs.Ytjfopbpkophoeaa

/- Chapter 06: law 3 (Trips) on data. -/
namespace Go.Proofs.Ytjfopbpkophoeaa
open Go Go.AE
set_option maxRecDepth 100000
def i3 (A : List DV) (n : Nat) (v e : Nat → Int → Int) (f : Nat) (ds : List DV) : DV := bif Nat.beq f 14 then .sl A n 1 false false else bif Nat.beq f 21 then bD true else bif Nat.ble f 17 then .tup [iD (v f (argA 1 ds)), iD (e f (argA 1 ds))] else iD (v f (argA 1 ds))
noncomputable def ev3 (ok : Nat → List DV → Bool) (A : List DV) (n : Nat) (v e : Nat → Int → Int) : Ev := evT ok (i3 A n v e)
def q3 (A : List DV) (n : Nat) (m r : Int) : St := ⟨[(1, .d (iD m)), (5, .d (.sl A n 1 false false)), (6, .d (iD r))], [], []⟩
def W3 {X : Type} (v e : Nat → Int → Int) (m : Int) (bad cont : Option X) : Option X :=
  bif !decide (e 15 m = 1) then bad else bif !decide (e 16 m = 1) then bad else bif !decide (e 17 m = 1) then bad else bif !decide (v 15 m = 0) then bad else bif !decide (v 16 m = 0) then bad else bif !decide (v 17 m = 0) then bad else cont
def Y3 {X : Type} (ok : Nat → List DV → Bool) (D : DV) (v e : Nat → Int → Int) (m : Int) (bad cont : Option X) : Option X :=
  bif decide (0 < m) then (bif !decide (e 17 m = 0) then bad else bif ok 20 [D, iD m] then (bif !decide (v 17 m = v 20 m) then bad else cont) else none) else cont
def Z3 {X : Type} (ok : Nat → List DV → Bool) (D : DV) (v e : Nat → Int → Int) (m : Int) (bad cont : Option X) : Option X :=
  bif !decide (e 15 m = 0) then bad else bif ok 18 [D, iD m] then (bif !decide (v 15 m = v 18 m) then bad else bif !decide (e 16 m = 0) then bad else bif ok 19 [D, iD m] then (bif !decide (v 16 m = v 19 m) then bad else
    bif decide (m = 0) then (bif !decide (e 17 m = 1) then bad else bif !decide (v 17 m = 0) then bad else Y3 ok D v e m bad cont) else Y3 ok D v e m bad cont) else none) else none
theorem t3_h (ok : Nat → List DV → Bool) (A : List DV) (n : Nat) (v e : Nat → Int → Int) (a : DV) (m : Int) : startS aeC (ev3 ok A n v e) 3 0 Try.f3 none ⟨envOf 0 [.d a, .d (iD m)], [], []⟩ (heldD aeC 3 0) = bif ok 14 [a, iD 5] then some (0, q3 A n m 0) else none := by kernel_rfl
theorem t3_0 (ok : Nat → List DV → Bool) (A : List DV) (n : Nat) (v e : Nat → Int → Int) (m r : Int) : startS aeC (ev3 ok A n v e) 3 0 Try.f3 (some 0) (q3 A n m r) (roundD aeC 3 0 0) =
  bif decide (r < 2) then (bif ok 15 [DV.sl A n 1 false false, iD m] then (bif ok 16 [DV.sl A n 1 false false, iD m] then (bif ok 17 [DV.sl A n 1 false false, iD m] then
    (bif decide (m < 0) then W3 v e m (some (Ex.ret, ⟨[(4, .d (bD false))], [], []⟩)) (some (Ex.norm, q3 A n (IntKind.wrap IntKind.i64 (Int.tmod (IntKind.wrap IntKind.u64 m) 11)) (IntKind.wrap IntKind.i64 (r + 1))))
    else bif decide (10 < m) then W3 v e m (some (Ex.ret, ⟨[(4, .d (bD false))], [], []⟩)) (some (Ex.norm, q3 A n (IntKind.wrap IntKind.i64 (Int.tmod (IntKind.wrap IntKind.u64 m) 11)) (IntKind.wrap IntKind.i64 (r + 1))))
    else Z3 ok (DV.sl A n 1 false false) v e m (some (Ex.ret, ⟨[(4, .d (bD false))], [], []⟩)) (some (Ex.norm, q3 A n (IntKind.wrap IntKind.i64 (Int.tmod (IntKind.wrap IntKind.u64 m) 11)) (IntKind.wrap IntKind.i64 (r + 1))))) else none) else none) else none)
  else some (Ex.exit 0, ⟨[], [], []⟩) := by kernel_rfl
theorem t3_e (ok : Nat → List DV → Bool) (A : List DV) (n : Nat) (v e : Nat → Int → Int) : nextS aeC (ev3 ok A n v e) 3 0 Try.f3 none 0 (.exit 0) ⟨[], [], []⟩ (doneE aeC Try.f3 0 fun v h => freezeP 3 h v) = bif ok 21 [] then some (bD true) else none := by kernel_rfl
theorem k3 : OkSeg Try.f3 none [0] := ⟨by kernel_rfl, by kernel_rfl, by decide⟩
theorem k3_0 : OkSeg Try.f3 (some 0) [] := ⟨by kernel_rfl, by kernel_rfl, by decide⟩
/-- What is answered. -/
def vN (k : Nat) (f : Nat → Int) (g : Nat) (m : Int) : Int :=
  bif decide (m < 0) || decide (10 < m) then 0 else bif Nat.beq g 15 || Nat.beq g 18 then tripN k f m.toNat else bif Nat.beq g 16 || Nat.beq g 19 then rndN k f m.toNat else bif decide (m = 0) then 0 else orb (rndN k f) m.toNat
def eN (g : Nat) (m : Int) : Int := bif decide (m < 0) || decide (10 < m) then 1 else bif Nat.beq g 17 && decide (m = 0) then 1 else 0
section
variable {k : Nat} {M : List (List Int)} (hM : matB k M) (h1 : 1 ≤ k) (h5 : k ≤ 5)
noncomputable abbrev ok3 (k : Nat) (M : List (List Int)) : Nat → List DV → Bool := okS (i3 (M.map rowD) M.length (vN k (fM M)) eN)
include hM h1 h5
theorem r3 (m r : Int) (hr : r < 2) : ∃ m', startS aeC (ev3 (ok3 k M) (M.map rowD) M.length (vN k (fM M)) eN) 3 0 Try.f3 (some 0) (q3 (M.map rowD) M.length m r) (roundD aeC 3 0 0) = some (Ex.norm, q3 (M.map rowD) M.length m' (IntKind.wrap IntKind.i64 (r + 1))) := by
  refine ⟨IntKind.wrap IntKind.i64 (Int.tmod (IntKind.wrap IntKind.u64 m) 11), (t3_0 ..).trans ((cnd_pos hr).trans ?_)⟩
  show (bif ok3 k M 15 [matD M, iD m] then (bif ok3 k M 16 [matD M, iD m] then (bif ok3 k M 17 [matD M, iD m] then (bif decide (m < 0) then _ else bif decide (10 < m) then _ else _) else none) else none) else none) = _
  by_cases hb : m < 0 ∨ 10 < m
  · have hv : ∀ g, vN k (fM M) g m = 0 := fun g => by
      unfold vN
      rw [show (decide (m < 0) || decide (10 < m)) = true by simpa using hb]; rfl
    have he : ∀ g, eN g m = 1 := fun g => by
      unfold eN
      rw [show (decide (m < 0) || decide (10 < m)) = true by simpa using hb]; rfl
    have i : ∀ g, Nat.ble g 17 = true → Nat.beq g 14 = false → Nat.beq g 21 = false → i3 (M.map rowD) M.length (vN k (fM M)) eN g [matD M, iD m] = .tup [iD 0, iD 1] := fun g a b c => by
      unfold i3
      rw [a, b, c]
      show DV.tup [iD (vN k (fM M) g m), iD (eN g m)] = _
      rw [hv, he]
    have g15 : ok3 k M 15 [matD M, iD m] = true := okS_is (by rw [i 15 rfl rfl rfl]; exact (c15_bad hM h1 h5 hb).1)
    have g16 : ok3 k M 16 [matD M, iD m] = true := okS_is (by rw [i 16 rfl rfl rfl]; exact (c15_bad hM h1 h5 hb).2)
    have g17 : ok3 k M 17 [matD M, iD m] = true := okS_is (by rw [i 17 rfl rfl rfl]; exact c17_bad hM h1 h5 (by omega))
    rw [g15, g16, g17]
    simp only [cond_true]
    have w : ∀ {X : Type} (bad cont : Option X), W3 (vN k (fM M)) eN m bad cont = cont := fun bad cont => by
      unfold W3
      simp only [hv, he]
      rfl
    rcases hb with hb | hb
    · rw [decide_eq_true hb]; exact w _ _
    · rw [decide_eq_false (show ¬ m < 0 by omega), decide_eq_true hb]; exact w _ _
  · obtain ⟨n, rfl⟩ : ∃ n : Nat, m = n := ⟨m.toNat, by omega⟩
    have hn : n ≤ 10 := by omega
    have hin : (decide ((n : Int) < 0) || decide ((10 : Int) < n)) = false := by simp; omega
    have v15 : vN k (fM M) 15 n = tripN k (fM M) n := by unfold vN; rw [hin]; rfl
    have v18 : vN k (fM M) 18 n = tripN k (fM M) n := by unfold vN; rw [hin]; rfl
    have v16 : vN k (fM M) 16 n = rndN k (fM M) n := by unfold vN; rw [hin]; rfl
    have v19 : vN k (fM M) 19 n = rndN k (fM M) n := by unfold vN; rw [hin]; rfl
    have e15 : eN 15 n = 0 := by unfold eN; rw [hin]; rfl
    have e16 : eN 16 n = 0 := by unfold eN; rw [hin]; rfl
    have e17 : eN 17 n = bif decide ((n : Int) = 0) then 1 else 0 := by unfold eN; rw [hin]; rfl
    have v17 : vN k (fM M) 17 n = bif decide ((n : Int) = 0) then 0 else orb (rndN k (fM M)) n := by unfold vN; rw [hin]; rfl
    have v20 : vN k (fM M) 20 n = bif decide ((n : Int) = 0) then 0 else orb (rndN k (fM M)) n := by unfold vN; rw [hin]; rfl
    have g15 : ok3 k M 15 [matD M, iD n] = true := okS_is (by
      show PureOK Try.prog 15 _ (.tup [iD (vN k (fM M) 15 n), iD (eN 15 n)])
      rw [v15, e15]; exact (c15_at hM h1 h5 hn).1)
    have g16 : ok3 k M 16 [matD M, iD n] = true := okS_is (by
      show PureOK Try.prog 16 _ (.tup [iD (vN k (fM M) 16 n), iD (eN 16 n)])
      rw [v16, e16]; exact (c15_at hM h1 h5 hn).2)
    have g18 : ok3 k M 18 [matD M, iD n] = true := okS_is (by
      show PureOK Try.prog 18 _ (iD (vN k (fM M) 18 n))
      rw [v18]; exact (c18_at hM h1 h5 hn).1)
    have g19 : ok3 k M 19 [matD M, iD n] = true := okS_is (by
      show PureOK Try.prog 19 _ (iD (vN k (fM M) 19 n))
      rw [v19]; exact (c18_at hM h1 h5 hn).2)
    have g17 : ok3 k M 17 [matD M, iD n] = true := okS_is (by
      show PureOK Try.prog 17 _ (.tup [iD (vN k (fM M) 17 n), iD (eN 17 n)])
      rw [v17, e17]
      by_cases h0 : n = 0
      · subst h0; exact c17_bad hM h1 h5 (.inl (by decide))
      · rw [decide_eq_false (show ¬ (n : Int) = 0 by omega)]; exact c17_ok hM h1 h5 (by omega) hn)
    rw [g15, g16, g17, decide_eq_false (show ¬ (n : Int) < 0 by omega), decide_eq_false (show ¬ (10 : Int) < n by omega)]
    simp only [cond_true, cond_false]
    unfold Z3
    show (bif !decide (eN 15 n = 0) then _ else bif ok3 k M 18 [matD M, iD n] then (bif !decide (vN k (fM M) 15 n = vN k (fM M) 18 n) then _ else bif !decide (eN 16 n = 0) then _ else bif ok3 k M 19 [matD M, iD n] then (bif !decide (vN k (fM M) 16 n = vN k (fM M) 19 n) then _ else
      bif decide ((n : Int) = 0) then (bif !decide (eN 17 n = 1) then _ else bif !decide (vN k (fM M) 17 n = 0) then _ else Y3 (ok3 k M) (matD M) (vN k (fM M)) eN n _ _) else Y3 (ok3 k M) (matD M) (vN k (fM M)) eN n _ _) else none) else none) = _
    rw [e15, e16, v15, v18, v16, v19, g18, g19]
    simp only [decide_true, Bool.not_true, cond_true, cond_false]
    unfold Y3
    by_cases h0 : n = 0
    · subst h0
      rw [e17, v17]
      rfl
    · have g20 : ok3 k M 20 [matD M, iD n] = true := okS_is (by
        show PureOK Try.prog 20 _ (iD (vN k (fM M) 20 n))
        rw [v20, decide_eq_false (show ¬ (n : Int) = 0 by omega)]
        exact c20_at hM h1 h5 n n (Nat.le_refl _) (by omega) hn)
      rw [e17, v17, v20, g20, decide_eq_false (show ¬ (n : Int) = 0 by omega), decide_eq_true (show (0 : Int) < n by omega)]
      simp only [decide_true, Bool.not_true, cond_true, cond_false]
end
/-- Law 3 on data. -/
theorem trips_pure (Y : List (List Int × Bool)) (c z : Bool) (m : Int) : PureOK Try.prog 3 [.sl (rowsD Y) Y.length 1 c z, iD m] (bD true) := by
  obtain ⟨k, M, h1, h5, hM, hc⟩ := c14 Y c z 5 (by decide) (by decide)
  have g14 : ok3 k M 14 [.sl (rowsD Y) Y.length 1 c z, iD 5] = true := okS_is hc
  have g21 : ok3 k M 21 [] = true := okS_is awake_ok
  obtain ⟨m1, e1⟩ := r3 hM h1 h5 m 0 (by decide)
  obtain ⟨m2, e2⟩ := r3 hM h1 h5 m1 1 (by decide)
  refine ae_pure (evT_ok (i3 (M.map rowD) M.length (vN k (fM M)) eN)) (fn := Try.f3) k3 (by kernel_rfl) (by kernel_rfl) ((startF_seg k3 ((t3_h (ok3 k M) (M.map rowD) M.length (vN k (fM M)) eN _ m).trans (cond_is' g14)) (.next k3_0 e1 (.next k3_0 e2 (.out k3_0 (by simp) ((t3_0 ..).trans (cnd_neg (by decide))))))).trans (nextF_done k3 done_plain ((t3_e ..).trans ?_)))
  rw [g21]; rfl
end Go.Proofs.Ytjfopbpkophoeaa
