/- Part 8 of what the law stands on: the abstract machine over the model, and what the functions answer. No condition. -/
import Derived.Test.YtjfopbpkophoeaaK7
set_option linter.unusedSimpArgs false
set_option linter.unusedVariables false

/- Chapter 06: hanging together with beat 1 is mixing, in plain Lean. -/
namespace Go.Proofs.Ytjfopbpkophoeaa
open Go Go.AE
section
variable {k : Nat} {A : Nat → Nat → Bool}
theorem conn_le {N : Nat} (hN : 1 ≤ N) (hF : full k A N) : ∀ i j, i < k → j < k → ∃ m, 1 ≤ m ∧ m ≤ k ∧ wk k A j m i = true := by
  intro i j hi hj
  obtain ⟨M, rfl⟩ : ∃ M, N = M + 1 := ⟨N - 1, by omega⟩
  obtain ⟨y, hy, hay, _⟩ := wk_succ.1 (hF i i hi hi)
  have := grow_all (k := k) (c := 1) (S := fun t x => (List.range (t + 1)).any fun m => wk k A x (m + 1) i) ?_ ?_ ⟨M, ?_⟩ ?_ (k - 1) (by omega) j hj
  · simp only [List.any_eq_true, List.mem_range] at this
    obtain ⟨m, h1, h2⟩ := this
    exact ⟨m + 1, by omega, by omega, h2⟩
  · intro t x hx h
    simp only [List.any_eq_true, List.mem_range] at h ⊢
    obtain ⟨m, h1, h2⟩ := h
    exact ⟨m, by omega, h2⟩
  · intro t hst x hx h
    simp only [List.any_eq_true, List.mem_range] at h hst ⊢
    obtain ⟨m, h1, h2⟩ := h
    rcases Nat.lt_or_ge m (t + 2) with q | q
    · exact ⟨m, by omega, h2⟩
    · have : m = t + 2 := by omega
      subst this
      obtain ⟨z, h3, h4, h5⟩ := wk_split (m := t + 2) (n := 1) hi h2
      obtain ⟨m', h6, h7⟩ := hst z h3 ⟨t + 1, by omega, h4⟩
      exact ⟨m' + 1, by omega, wk_add h7 h5⟩
  · intro x hx
    simp only [List.any_eq_true, List.mem_range]
    exact ⟨M, by omega, hF i x hi hx⟩
  · have : (List.range k).countP (fun x => decide (x ∈ [y])) ≤ (List.range k).countP fun x => (List.range (0 + 1)).any fun m => wk k A x (m + 1) i := List.countP_mono_left fun x _ hx => by
      simp only [List.mem_singleton, decide_eq_true_eq] at hx
      subst hx
      simp only [List.any_eq_true, List.mem_range]
      exact ⟨0, by omega, wk_one hy hay⟩
    refine Nat.le_trans (count_nodup (k := k) (l := [y]) (by simp) (fun x hx => ?_)) this
    simp only [List.mem_singleton] at hx
    subst hx; exact hy
theorem closed_dvd {g : Nat} (hg : ∀ m v, 1 ≤ m → m ≤ k → v < k → wk k A v m v = true → g ∣ m) : ∀ L v, v < k → wk k A v L v = true → g ∣ L := by
  intro L
  induction L using Nat.strongRecOn with
  | ind L ih =>
    intro v hv h
    rcases Nat.eq_zero_or_pos L with q | q
    · subst q; exact Nat.dvd_zero g
    rcases Nat.lt_or_ge k L with q2 | q2
    · obtain ⟨c, c1, c2, c3, c4⟩ := wk_path hv hv h
      have : ∃ a b, a < b ∧ b < L ∧ c a = c b := by
        apply Classical.byContradiction
        intro hno
        have hnd : ((List.range L).map c).Nodup := by
          rw [List.nodup_iff_pairwise_ne, List.pairwise_map]
          refine List.Pairwise.imp_of_mem ?_ (List.pairwise_lt_range (n := L))
          intro a b ha hb hab e
          exact hno ⟨a, b, hab, List.mem_range.1 hb, e⟩
        have h1 := count_nodup (k := k) hnd fun x hx => by
          obtain ⟨a, _, rfl⟩ := List.mem_map.1 hx
          exact c4 a
        have h2 := List.countP_le_length (p := fun x => decide (x ∈ (List.range L).map c)) (l := List.range k)
        simp only [List.length_map, List.length_range] at h1 h2
        omega
      obtain ⟨a, b, hab, hb, e⟩ := this
      have p1 := path_wk c3 c4 (b - a) a (by omega)
      rw [show a + (b - a) = b by omega, ← e] at p1
      have p2 := path_wk c3 c4 a 0 (by omega)
      have p3 := path_wk c3 c4 (L - b) b (by omega)
      rw [show 0 + a = a by omega, c1] at p2
      rw [show b + (L - b) = L by omega, c2, ← e] at p3
      have d1 := ih (b - a) (by omega) (c a) (c4 a) p1
      have d2 := ih (a + (L - b)) (by omega) v hv (wk_add p2 p3)
      have := Nat.dvd_add d1 d2
      rw [show b - a + (a + (L - b)) = L by omega] at this
      exact this
    · exact hg L v q q2 hv h
theorem least_of {p : Nat → Prop} {n : Nat} (h : p n) : ∃ m, p m ∧ ∀ x, x < m → ¬ p x := by
  induction n using Nat.strongRecOn with
  | ind n ih =>
    by_cases hx : ∃ m, m < n ∧ p m
    · obtain ⟨m, h1, h2⟩ := hx
      exact ih m h1 h2
    · exact ⟨n, h, fun x h1 h2 => hx ⟨x, h1, h2⟩⟩
theorem wk_mul {v x : Nat} (hx : wk k A v x v = true) : ∀ q : Nat, wk k A v (q * x) v = true
  | 0 => by rw [Nat.zero_mul]; exact wk_zero.2 rfl
  | q + 1 => by rw [Nat.succ_mul]; exact wk_add (wk_mul hx q) hx
/-- Hanging together with beat 1 comes to mixing. -/
theorem primitive (hk : 1 ≤ k) (hc : ∀ i j, i < k → j < k → ∃ m, 1 ≤ m ∧ m ≤ k ∧ wk k A j m i = true) (hg : ∀ d, (∀ m v, 1 ≤ m → m ≤ 2 * k → v < k → wk k A v m v = true → d ∣ m) → d = 1) : ∃ N, 1 ≤ N ∧ full k A N := by
  obtain ⟨m0, a1, a2, a3⟩ := hc 0 0 (by omega) (by omega)
  obtain ⟨d, ⟨d1, y, y1, y2⟩, dmin⟩ := least_of (p := fun d => 1 ≤ d ∧ ∃ y, wk k A 0 y 0 = true ∧ wk k A 0 (y + d) 0 = true) (n := m0) ⟨a1, 0, wk_zero.2 rfl, by rw [Nat.zero_add]; exact a3⟩
  have hdvd : ∀ x, wk k A 0 x 0 = true → d ∣ x := fun x hx => by
    apply Nat.dvd_of_mod_eq_zero
    apply Classical.byContradiction
    intro hr
    refine dmin (x % d) (Nat.mod_lt x (by omega)) ⟨by omega, (x / d) * (y + d), wk_mul y2 _, ?_⟩
    have h1 := wk_add hx (wk_mul y1 (x / d))
    have e : x + x / d * y = x / d * (y + d) + x % d := by
      have := Nat.div_add_mod x d
      rw [Nat.mul_add, Nat.mul_comm (x / d) d]; omega
    rw [e] at h1; exact h1
  have hd : d = 1 := hg d fun m v h1 h2 hv h => by
    obtain ⟨a, _, _, b3⟩ := hc 0 v (by omega) hv
    obtain ⟨b, _, _, c3⟩ := hc v 0 hv (by omega)
    have e1 := hdvd _ (wk_add b3 c3)
    have e2 := hdvd _ (wk_add (wk_add b3 h) c3)
    have e3 := Nat.dvd_sub e2 e1
    rw [show a + m + b - (a + b) = m by omega] at e3
    exact e3
  subst hd
  have hbig : ∀ n, y * y ≤ n → wk k A 0 n 0 = true := fun n hn => by
    rcases Nat.eq_zero_or_pos y with q | q
    · subst q
      have := wk_mul y2 n
      rw [show n * (0 + 1) = n by omega] at this; exact this
    · have h1 : y ≤ n / y := (Nat.le_div_iff_mul_le q).2 hn
      have h2 := Nat.mod_lt n q
      have h3 := Nat.div_add_mod n y
      have h4 := wk_add (wk_mul y1 (n / y - n % y)) (wk_mul y2 (n % y))
      have e : (n / y - n % y) * y + n % y * (y + 1) = n := by
        rw [Nat.mul_add, Nat.mul_one, Nat.sub_mul]
        have h5 : n % y * y ≤ n / y * y := Nat.mul_le_mul_right y (by omega)
        rw [Nat.mul_comm y (n / y)] at h3
        omega
      rw [e] at h4; exact h4
  refine ⟨2 * k + y * y + 1, by omega, fun i j hi hj => ?_⟩
  obtain ⟨a, _, b2, b3⟩ := hc i 0 hi (by omega)
  obtain ⟨b, _, c2, c3⟩ := hc 0 j (by omega) hj
  have := wk_add (wk_add b3 (hbig (2 * k + y * y + 1 - a - b) (by omega))) c3
  rw [show a + (2 * k + y * y + 1 - a - b) + b = 2 * k + y * y + 1 by omega] at this
  exact this
end
end Go.Proofs.Ytjfopbpkophoeaa

/- Chapter 06: law 9 (Wielandt) on data. -/
namespace Go.Proofs.Ytjfopbpkophoeaa
open Go Go.AE
set_option maxRecDepth 100000
section
variable {k : Nat} {f : Nat → Int}
theorem mix_b (n : Nat) : (mixS k f (n + 1)).2 = fullB k f n := by
  unfold mixS
  cases fullB k f n with
  | false => rfl
  | true => cases h : (mixS k f n).2 <;> simp [h]
/-- Full at one length is full at the bound. -/
theorem full_most (h1 : 1 ≤ k) (h5 : k ≤ 5) {N : Nat} (hN : 1 ≤ N) (h : full k (fun i x => decide (0 < f (5 * i + x))) N) : fullB k f (mostN k) = true := by
  rcases Nat.lt_or_ge k 2 with q | q
  · have : k = 1 := by omega
    subst this
    obtain ⟨n, rfl⟩ : ∃ n, N = n + 1 := ⟨N - 1, by omega⟩
    obtain ⟨x, h3, h4, _⟩ := wk_succ.1 (h 0 0 (by decide) (by decide))
    have hx : x = 0 := by omega
    subst hx
    refine (fullB_full h5 _).2 ?_
    show full 1 _ 1
    intro i j hi hj
    have hi0 : i = 0 := by omega
    have hj0 : j = 0 := by omega
    subst hi0; subst hj0
    exact wk_one (by decide) h4
  · exact (fullB_full h5 _).2 (wielandt q hN h)
theorem most_next (h5 : k ≤ 5) (h : fullB k f (mostN k) = true) : fullB k f (mostN k + 1) = true :=
  (fullB_full h5 _).2 (full_succ (by unfold mostN; omega) ((fullB_full h5 _).1 h))
theorem mixes_iff (h1 : 1 ≤ k) (h5 : k ≤ 5) : fullB k f (mostN k + 1) = (hangsB k f && decide (gS k f (2 * k + 1) = 1)) := by
  rw [Bool.eq_iff_iff, Bool.and_eq_true, decide_eq_true_eq]
  constructor
  · intro h
    have hF := (fullB_full h5 _).1 h
    refine ⟨(hangsB_iff h5).2 fun i j hi hj => ?_, ?_⟩
    · obtain ⟨m, a, b, c⟩ := conn_le (by omega) hF i j hi hj
      exact ⟨m, a, b, by rw [reach_wk]; exact c⟩
    · have hg : ∀ m v, 1 ≤ m → m ≤ k → v < k → wk k (fun i x => decide (0 < f (5 * i + x))) v m v = true → gS k f (2 * k + 1) ∣ m := fun m v a b c d => by
        refine (dvd_gS f (gS k f (2 * k + 1)) (2 * k + 1)).1 (Nat.dvd_refl _) m (by omega) ?_
        simp only [ringB, List.any_eq_true, List.mem_range]
        exact ⟨v, c, by rw [reach_wk]; exact d⟩
      have e1 := closed_dvd hg (mostN k + 1) 0 (by omega) (hF 0 0 (by omega) (by omega))
      have e2 := closed_dvd hg (mostN k + 1 + 1) 0 (by omega) (full_succ (by omega) hF 0 0 (by omega) (by omega))
      have e3 := Nat.dvd_sub e2 e1
      rw [show mostN k + 1 + 1 - (mostN k + 1) = 1 by omega] at e3
      exact Nat.dvd_one.1 e3
  · rintro ⟨h, hg⟩
    have hc := (hangsB_iff h5).1 h
    obtain ⟨N, n1, n2⟩ := primitive (A := fun i x => decide (0 < f (5 * i + x))) h1 (fun i j hi hj => by
      obtain ⟨m, a, b, c⟩ := hc i j hi hj
      exact ⟨m, a, b, by rw [← reach_wk]; exact c⟩) (fun d hd => by
      have : d ∣ gS k f (2 * k + 1) := (dvd_gS f d (2 * k + 1)).2 fun m hm hr => by
        rcases Nat.eq_zero_or_pos m with q | q
        · subst q; exact Nat.dvd_zero d
        · simp only [ringB, List.any_eq_true, List.mem_range] at hr
          obtain ⟨v, hv, h3⟩ := hr
          exact hd m v q (by omega) hv (by rw [← reach_wk]; exact h3)
      rw [hg] at this
      exact Nat.dvd_one.1 this)
    exact most_next h5 (full_most h1 h5 n1 n2)
/-- From where on it mixes. -/
theorem mix_at (h1 : 1 ≤ k) (h5 : k ≤ 5) (h : (mixS k f (mostN k + 2)).2 = true) : ∃ L : Nat, (mixS k f (mostN k + 2)).1 = L ∧ L ≤ mostN k ∧ fullB k f L = true ∧ (L = 0 ∨ fullB k f (L - 1) = false) := by
  obtain ⟨L, a1, a2, a3, a4⟩ := (mixS_ok (k := k) (f := f) (mostN k + 2)).1 h
  have hP := a3 (mostN k + 1) (by omega) (by omega)
  have hm := full_most h1 h5 (by omega) ((fullB_full h5 _).1 hP)
  refine ⟨L, a1, ?_, a3 L (Nat.le_refl _) a2, a4⟩
  rcases Nat.lt_or_ge (mostN k) L with q | q
  · have : L = mostN k + 1 := by omega
    subst this
    rcases a4 with z | z
    · omega
    · rw [show mostN k + 1 - 1 = mostN k by omega, hm] at z; cases z
  · exact q
def bad9 (k : Nat) (f : Nat → Int) (m i j : Nat) : Bool := !Nat.beq m 0 && !reach k f j (m - 1) i
def orJ (k : Nat) (f : Nat → Int) (m i j : Nat) : Nat → Bool
  | 0 => false
  | t + 1 => bad9 k f m i j || orJ k f m i (j + 1) t
def orA (k : Nat) (f : Nat → Int) (m i : Nat) : Nat → Bool
  | 0 => false
  | t + 1 => orJ k f m i 0 k || orA k f m (i + 1) t
theorem orJ_of {m i : Nat} : ∀ (t j : Nat) {x : Nat}, j ≤ x → x < j + t → bad9 k f m i x = true → orJ k f m i j t = true
  | 0, j, x, h1, h2, _ => by omega
  | t + 1, j, x, h1, h2, h => by
    unfold orJ
    rw [Bool.or_eq_true]
    rcases Nat.eq_or_lt_of_le h1 with q | q
    · subst q; exact .inl h
    · exact .inr (orJ_of t (j + 1) q (by omega) h)
theorem orA_of {m : Nat} : ∀ (t i : Nat) {x : Nat}, i ≤ x → x < i + t → orJ k f m x 0 k = true → orA k f m i t = true
  | 0, i, x, h1, h2, _ => by omega
  | t + 1, i, x, h1, h2, h => by
    unfold orA
    rw [Bool.or_eq_true]
    rcases Nat.eq_or_lt_of_le h1 with q | q
    · subst q; exact .inl h
    · exact .inr (orA_of t (i + 1) q (by omega) h)
theorem less_ok (h5 : k ≤ 5) {m : Nat} (h : m = 0 ∨ fullB k f (m - 1) = false) : (decide ((m : Int) = 0) || orA k f m 0 k) = true := by
  rcases Nat.eq_zero_or_pos m with q | q
  · subst q; rfl
  · rcases h with h | h
    · omega
    · rw [Bool.or_eq_true]
      right
      have : ∃ i j, i < k ∧ j < k ∧ reach k f j (m - 1) i = false := by
        apply Classical.byContradiction
        intro hc
        have : fullB k f (m - 1) = true := (fullB_iff h5).2 fun i j hi hj => by
          cases hr : reach k f j (m - 1) i with
          | true => rfl
          | false => exact absurd ⟨i, j, hi, hj, hr⟩ hc
        rw [h] at this; cases this
      obtain ⟨i, j, hi, hj, hr⟩ := this
      have hb : bad9 k f m i j = true := by
        unfold bad9
        rw [hr]
        have : Nat.beq m 0 = false := by cases m with | zero => omega | succ m => rfl
        rw [this]; rfl
      exact orA_of k 0 (Nat.zero_le i) (by omega) (orJ_of k 0 (Nat.zero_le j) (by omega) hb)
end
def i9 (A : List DV) (n : Nat) (h mi : Bool) (bt be mx : Int) (T : T7) (f : Nat) (ds : List DV) : DV := bif Nat.beq f 14 then .sl A n 1 false false else bif Nat.beq f 29 then .tup [bD h, iD 0] else bif Nat.beq f 30 then .tup [iD bt, iD be] else bif Nat.beq f 31 then .tup [iD mx, bD mi, iD 0] else bif Nat.beq f 35 then .tup [.sl (T.Y ds) (T.N ds) (T.Z ds) (T.C ds) (T.L ds), bD (T.I ds), iD (T.E ds)] else bD true
def z9 (A : List DV) (n : Nat) (mx : Int) (al ls : Bool) (i : Int) : St := ⟨[(3, .d (DV.sl A n 1 false false)), (4, .d (iD (n : Int))), (9, .d (iD mx)), (12, .d (bD al)), (13, .d (bD ls)), (14, .d (iD i))], [], []⟩
def z92 (A : List DV) (n : Nat) (mx : Int) (al ls : Bool) (i j : Int) : St := ⟨[(3, .d (DV.sl A n 1 false false)), (4, .d (iD (n : Int))), (9, .d (iD mx)), (12, .d (bD al)), (13, .d (bD ls)), (14, .d (iD i)), (15, .d (iD j))], [], []⟩
def Q9t {X : Type} (ok : Nat → List DV → Bool) (n : Nat) (mi : Bool) (mx : Int) (yes loop bad : Option X) : Option X :=
  bif decide (mx < 0) then bad else bif decide (IntKind.wrap IntKind.i64 (IntKind.wrap IntKind.i64 (IntKind.wrap IntKind.i64 ((n : Int) - 1) * IntKind.wrap IntKind.i64 ((n : Int) - 1)) + 1) < mx) then bad else bif !mi then (bif ok 21 [] then yes else none) else bif decide (10 < mx) then (bif ok 21 [] then yes else none) else loop
def Q9 {X : Type} (ok : Nat → List DV → Bool) (a : DV) (A : List DV) (n : Nat) (h mi : Bool) (bt be mx : Int) (yes loop bad : Option X) : Option X :=
  bif ok 14 [a, iD 5] then (bif ok 29 [.sl A n 1 false false] then (bif ok 30 [.sl A n 1 false false] then (bif ok 31 [.sl A n 1 false false] then
    (bif !decide (h = decide (be = 0)) then bad else bif h then (bif !decide (mi = decide (bt = 1)) then bad else Q9t ok n mi mx yes loop bad) else bif !decide (mi = false) then bad else Q9t ok n mi mx yes loop bad) else none) else none) else none) else none
theorem t9_h (ok : Nat → List DV → Bool) (A : List DV) (n : Nat) (h mi : Bool) (bt be mx : Int) (T : T7) (a : DV) : startS aeC (evT ok (i9 A n h mi bt be mx T)) 9 0 Try.f9 none ⟨envOf 0 [.d a], [], []⟩ (heldD aeC 9 0) = Q9 ok a A n h mi bt be mx none (some (0, z9 A n mx true (decide (mx = 0)) 0)) none := by kernel_rfl
theorem t9_d (ok : Nat → List DV → Bool) (A : List DV) (n : Nat) (h mi : Bool) (bt be mx : Int) (T : T7) (a : DV) : startS aeC (evT ok (i9 A n h mi bt be mx T)) 9 0 Try.f9 none ⟨envOf 0 [.d a], [], []⟩ (doneE aeC Try.f9 0 fun v h => freezeV h 4 v) = Q9 ok a A n h mi bt be mx (some (bD true)) none (some (bD false)) := by kernel_rfl
theorem t9_0 (ok : Nat → List DV → Bool) (A : List DV) (n : Nat) (h mi : Bool) (bt be mx : Int) (T : T7) (al ls : Bool) (i : Int) : startS aeC (evT ok (i9 A n h mi bt be mx T)) 9 0 Try.f9 (some 0) (z9 A n mx al ls i) (heldD aeC 9 0) = bif decide (i < (n : Int)) then some (2, z92 A n mx al ls i 0) else none := by kernel_rfl
theorem t9_0x (ok : Nat → List DV → Bool) (A : List DV) (n : Nat) (h mi : Bool) (bt be mx : Int) (T : T7) (al ls : Bool) (i : Int) : startS aeC (evT ok (i9 A n h mi bt be mx T)) 9 0 Try.f9 (some 0) (z9 A n mx al ls i) (roundD aeC 9 0 0) = bif decide (i < (n : Int)) then none else some (Ex.exit 0, ⟨[(12, .d (bD al)), (13, .d (bD ls))], [], []⟩) := by kernel_rfl
def Q92t {X : Type} (ok : Nat → List DV → Bool) (T : T7) (A : List DV) (n : Nat) (mx i j : Int) (ls : Bool) (nx : Bool → Bool → Option X) (al : Bool) : Option X :=
  bif decide (0 < mx) then (bif ok 35 [.sl A n 1 false false, iD i, iD j, iD (IntKind.wrap IntKind.i64 (mx - 1))] then (bif T.L [.sl A n 1 false false, iD i, iD j, iD (IntKind.wrap IntKind.i64 (mx - 1))] || Nat.beq (T.Z [.sl A n 1 false false, iD i, iD j, iD (IntKind.wrap IntKind.i64 (mx - 1))]) 1 then
    (bif ls then nx al true else bif !T.I [.sl A n 1 false false, iD i, iD j, iD (IntKind.wrap IntKind.i64 (mx - 1))] then nx al (decide (T.E [.sl A n 1 false false, iD i, iD j, iD (IntKind.wrap IntKind.i64 (mx - 1))] = 0)) else nx al false) else none) else none) else nx al ls
def Q92 {X : Type} (ok : Nat → List DV → Bool) (T : T7) (A : List DV) (n : Nat) (mx i j : Int) (ls : Bool) (nx : Bool → Bool → Option X) : Option X :=
  bif ok 35 [.sl A n 1 false false, iD i, iD j, iD mx] then (bif T.L [.sl A n 1 false false, iD i, iD j, iD mx] || Nat.beq (T.Z [.sl A n 1 false false, iD i, iD j, iD mx]) 1 then
    (bif T.I [.sl A n 1 false false, iD i, iD j, iD mx] then Q92t ok T A n mx i j ls nx (decide (T.E [.sl A n 1 false false, iD i, iD j, iD mx] = 0)) else Q92t ok T A n mx i j ls nx false) else none) else none
theorem t9_2 (ok : Nat → List DV → Bool) (A : List DV) (n : Nat) (h mi : Bool) (bt be mx : Int) (T : T7) (ls : Bool) (i j : Int) : startS aeC (evT ok (i9 A n h mi bt be mx T)) 9 0 Try.f9 (some 2) (z92 A n mx true ls i j) (roundD aeC 9 0 2) =
  bif decide (j < (n : Int)) then Q92 ok T A n mx i j ls (fun al ls => some (Ex.norm, z92 A n mx al ls i (IntKind.wrap IntKind.i64 (j + 1)))) else some (Ex.exit 2, z9 A n mx true ls i) := by kernel_rfl
theorem t9_n (ok : Nat → List DV → Bool) (A : List DV) (n : Nat) (h mi : Bool) (bt be mx : Int) (T : T7) (al ls : Bool) (i : Int) : nextS aeC (evT ok (i9 A n h mi bt be mx T)) 9 0 Try.f9 (some 0) 2 (.exit 2) (z9 A n mx al ls i) (roundD aeC 9 0 0) = some (Ex.norm, z9 A n mx al ls (IntKind.wrap IntKind.i64 (i + 1))) := by kernel_rfl
theorem t9_e (ok : Nat → List DV → Bool) (A : List DV) (n : Nat) (h mi : Bool) (bt be mx : Int) (T : T7) (al ls : Bool) : nextS aeC (evT ok (i9 A n h mi bt be mx T)) 9 0 Try.f9 none 0 (.exit 0) ⟨[(12, .d (bD al)), (13, .d (bD ls))], [], []⟩ (doneE aeC Try.f9 0 fun v h => freezeV h 4 v) = bif al then (bif ls then (bif ok 21 [] then some (bD true) else none) else some (bD false)) else some (bD false) := by kernel_rfl
theorem k9 : OkSeg Try.f9 none [0] := ⟨by kernel_rfl, by kernel_rfl, by decide⟩
theorem k9_0 : OkSeg Try.f9 (some 0) [2] := ⟨by kernel_rfl, by kernel_rfl, by decide⟩
theorem k9_2 : OkSeg Try.f9 (some 2) [] := ⟨by kernel_rfl, by kernel_rfl, by decide⟩
section
variable {k : Nat} {M : List (List Int)} {h mi : Bool} {bt be : Int}
theorem i9_35 (mx : Int) (i j m : Int) : i9 (M.map rowD) M.length h mi bt be mx (tb7 M) 35 [matD M, iD i, iD j, iD m] = tripD M i j m := i35 i j m
noncomputable abbrev ok9 (M : List (List Int)) (h mi : Bool) (bt be mx : Int) : Nat → List DV → Bool := okS (i9 (M.map rowD) M.length h mi bt be mx (tb7 M))
theorem g9_35 (hM : matB k M) (h1 : 1 ≤ k) (h5 : k ≤ 5) (mx i j m : Int) : ok9 M h mi bt be mx 35 [matD M, iD i, iD j, iD m] = true := okS_is (by rw [i9_35]; exact c35 hM h1 h5 i j m)
theorem good_at (hM : matB k M) {i j m : Nat} (hi : i < k) (hj : j < k) (hm : m ≤ 10) : badW M.length (i : Int) (j : Int) (m : Int) = false ∧ good7 M (i : Int) (j : Int) (m : Int) = reach k (fM M) j m i := by
  have hb : badW M.length (i : Int) (j : Int) (m : Int) = false := by
    rw [hM.1]
    simp only [badW, Bool.or_eq_false_iff, decide_eq_false_iff_not]
    omega
  refine ⟨hb, ?_⟩
  unfold good7
  rw [hb, hM.1, Int.toNat_natCast, Int.toNat_natCast, Int.toNat_natCast]
  rfl
theorem Q92t_ok {X : Type} (hM : matB k M) (h1 : 1 ≤ k) (h5 : k ≤ 5) {m i j : Nat} (hm : m ≤ 10) (hi : i < k) (hj : j < k) (ls : Bool) (nx : Bool → Bool → Option X) (al : Bool) : Q92t (ok9 M h mi bt be (m : Int)) (tb7 M) (M.map rowD) M.length (m : Int) (i : Int) (j : Int) ls nx al = nx al (ls || bad9 k (fM M) m i j) := by
  unfold Q92t
  cases m with
  | zero =>
    have : bad9 k (fM M) 0 i j = false := rfl
    rw [this, Bool.or_false]; rfl
  | succ m =>
    rw [wm1 (by omega), decide_eq_true (show (0 : Int) < ((m + 1 : Nat) : Int) by omega)]
    have g := g9_35 (h := h) (mi := mi) (bt := bt) (be := be) hM h1 h5 ((m + 1 : Nat) : Int) (i : Int) (j : Int) (m : Int)
    unfold matD at g
    rw [g]
    obtain ⟨b1, b2⟩ := good_at hM (i := i) (j := j) (m := m) hi hj (by omega)
    have hL : (tb7 M).L [.sl (M.map rowD) M.length 1 false false, iD (i : Int), iD (j : Int), iD (m : Int)] = !good7 M i j m := rfl
    have hZ : (tb7 M).Z [.sl (M.map rowD) M.length 1 false false, iD (i : Int), iD (j : Int), iD (m : Int)] = bif good7 M i j m then 1 else 0 := rfl
    have hI : (tb7 M).I [.sl (M.map rowD) M.length 1 false false, iD (i : Int), iD (j : Int), iD (m : Int)] = good7 M i j m := rfl
    have hE : (tb7 M).E [.sl (M.map rowD) M.length 1 false false, iD (i : Int), iD (j : Int), iD (m : Int)] = bif badW M.length i j m then 1 else 0 := rfl
    rw [hL, hZ, hI, hE, b1, b2]
    have hbad : bad9 k (fM M) (m + 1) i j = !reach k (fM M) j m i := rfl
    rw [hbad]
    cases reach k (fM M) j m i <;> cases ls <;> rfl
theorem Q92_ok {X : Type} (hM : matB k M) (h1 : 1 ≤ k) (h5 : k ≤ 5) {m i j : Nat} (hm : m ≤ 10) (hi : i < k) (hj : j < k) (hr : reach k (fM M) j m i = true) (ls : Bool) (nx : Bool → Bool → Option X) : Q92 (ok9 M h mi bt be (m : Int)) (tb7 M) (M.map rowD) M.length (m : Int) (i : Int) (j : Int) ls nx = nx true (ls || bad9 k (fM M) m i j) := by
  unfold Q92
  have g := g9_35 (h := h) (mi := mi) (bt := bt) (be := be) hM h1 h5 (m : Int) (i : Int) (j : Int) (m : Int)
  unfold matD at g
  rw [g]
  obtain ⟨b1, b2⟩ := good_at hM (i := i) (j := j) (m := m) hi hj hm
  have hL : (tb7 M).L [.sl (M.map rowD) M.length 1 false false, iD (i : Int), iD (j : Int), iD (m : Int)] = !good7 M i j m := rfl
  have hZ : (tb7 M).Z [.sl (M.map rowD) M.length 1 false false, iD (i : Int), iD (j : Int), iD (m : Int)] = bif good7 M i j m then 1 else 0 := rfl
  have hI : (tb7 M).I [.sl (M.map rowD) M.length 1 false false, iD (i : Int), iD (j : Int), iD (m : Int)] = good7 M i j m := rfl
  have hE : (tb7 M).E [.sl (M.map rowD) M.length 1 false false, iD (i : Int), iD (j : Int), iD (m : Int)] = bif badW M.length i j m then 1 else 0 := rfl
  rw [hL, hZ, hI, hE, b1, b2, hr]
  exact Q92t_ok hM h1 h5 hm hi hj ls nx true
theorem loop92 (hM : matB k M) (h1 : 1 ≤ k) (h5 : k ≤ 5) {m i : Nat} (hm : m ≤ 10) (hi : i < k) (hr : ∀ j, j < k → reach k (fM M) j m i = true) : ∀ (t j : Nat) (ls : Bool), j + t = k →
    LoopAt aeC (evT (ok9 M h mi bt be (m : Int)) (i9 (M.map rowD) M.length h mi bt be (m : Int) (tb7 M))) 9 0 Try.f9 2 (z92 (M.map rowD) M.length m true ls i j) (.exit 2) (z9 (M.map rowD) M.length m true (ls || orJ k (fM M) m i j t) i)
  | 0, j, ls, hj => by
    rw [show (ls || orJ k (fM M) m i j 0) = ls by show (ls || false) = ls; rw [Bool.or_false]]
    exact .out k9_2 (by simp) ((t9_2 ..).trans (cnd_neg (by have := hM.1; omega)))
  | t + 1, j, ls, hj => by
    have hl := hM.1
    have ih := loop92 hM h1 h5 hm hi hr t (j + 1) (ls || bad9 k (fM M) m i j) (by omega)
    rw [show (ls || orJ k (fM M) m i j (t + 1)) = (ls || bad9 k (fM M) m i j || orJ k (fM M) m i (j + 1) t) by show (ls || (bad9 k (fM M) m i j || orJ k (fM M) m i (j + 1) t)) = _; rw [Bool.or_assoc]]
    refine .next k9_2 ((t9_2 ..).trans ((cnd_pos (by omega)).trans ((Q92_ok hM h1 h5 hm hi (by omega) (hr j (by omega)) ls _).trans ?_))) ih
    rw [wr1 (by omega)]
theorem loop90 (hM : matB k M) (h1 : 1 ≤ k) (h5 : k ≤ 5) {m : Nat} (hm : m ≤ 10) (hr : ∀ i j, i < k → j < k → reach k (fM M) j m i = true) : ∀ (t i : Nat) (ls : Bool), i + t = k →
    LoopAt aeC (evT (ok9 M h mi bt be (m : Int)) (i9 (M.map rowD) M.length h mi bt be (m : Int) (tb7 M))) 9 0 Try.f9 0 (z9 (M.map rowD) M.length m true ls i) (.exit 0) ⟨[(12, .d (bD true)), (13, .d (bD (ls || orA k (fM M) m i t)))], [], []⟩
  | 0, i, ls, hi => by
    rw [show (ls || orA k (fM M) m i 0) = ls by show (ls || false) = ls; rw [Bool.or_false]]
    exact .out k9_0 (by simp) ((t9_0x ..).trans (cnd_neg (by have := hM.1; omega)))
  | t + 1, i, ls, hi => by
    have hl := hM.1
    have ih := loop90 hM h1 h5 hm hr t (i + 1) (ls || orJ k (fM M) m i 0 k) (by omega)
    rw [show (ls || orA k (fM M) m i (t + 1)) = (ls || orJ k (fM M) m i 0 k || orA k (fM M) m (i + 1) t) by show (ls || (orJ k (fM M) m i 0 k || orA k (fM M) m (i + 1) t)) = _; rw [Bool.or_assoc]]
    have hn := t9_n (ok9 M h mi bt be (m : Int)) (M.map rowD) M.length h mi bt be m (tb7 M) true (ls || orJ k (fM M) m i 0 k) i
    rw [wr1 (by omega)] at hn
    exact .nextF k9_0 ((startF_seg k9_0 ((t9_0 ..).trans (cnd_pos (by omega))) (loop92 hM h1 h5 hm (show i < k by omega) (fun j hj => hr i j (by omega) hj) k 0 ls (by omega))).trans (nextF_done k9_0 roundD_plain hn)) ih
end
/-- Law 9 on data. -/
theorem wielandt_pure (Y : List (List Int × Bool)) (c z : Bool) : PureOK Try.prog 9 [.sl (rowsD Y) Y.length 1 c z] (bD true) := by
  obtain ⟨k, M, h1, h5, hM, hc⟩ := c14 Y c z 5 (by decide) (by decide)
  obtain ⟨h, hh⟩ : ∃ h, h = hangsB k (fM M) := ⟨_, rfl⟩
  obtain ⟨bt, hbt⟩ : ∃ bt : Int, bt = bif h then ((gS k (fM M) (2 * k + 1) : Nat) : Int) else 0 := ⟨_, rfl⟩
  obtain ⟨be, hbe⟩ : ∃ be : Int, be = bif h then 0 else 4 := ⟨_, rfl⟩
  obtain ⟨mi, hmi⟩ : ∃ mi, mi = (mixS k (fM M) (mostN k + 2)).2 := ⟨_, rfl⟩
  obtain ⟨mx, hmx⟩ : ∃ mx : Int, mx = bif mi then (mixS k (fM M) (mostN k + 2)).1 else 0 := ⟨_, rfl⟩
  have g14 : ok9 M h mi bt be mx 14 [.sl (rowsD Y) Y.length 1 c z, iD 5] = true := okS_is hc
  have g29 : ok9 M h mi bt be mx 29 [matD M] = true := okS_is (by
    have := c29 hM h1 h5
    rw [← hh] at this; exact this)
  have g30 : ok9 M h mi bt be mx 30 [matD M] = true := okS_is (by
    have h3 := c30 hM h1 h5
    have e : DV.tup [iD bt, iD be] = beatD k (fM M) := by
      unfold beatD
      rw [hbt, hbe, hh]
      cases hangsB k (fM M) <;> rfl
    rw [← e] at h3; exact h3)
  have g31 : ok9 M h mi bt be mx 31 [matD M] = true := okS_is (by
    have h3 := c31 hM h1 h5
    have e : DV.tup [iD mx, bD mi, iD 0] = mixD k (fM M) := by
      unfold mixD
      rw [hmx, hmi]
      cases (mixS k (fM M) (mostN k + 2)).2 <;> rfl
    rw [← e] at h3; exact h3)
  have g21 : ok9 M h mi bt be mx 21 [] = true := okS_is awake_ok
  have e1 : h = decide (be = 0) := by rw [hbe]; cases h <;> rfl
  have e2 : mi = (h && decide (gS k (fM M) (2 * k + 1) = 1)) := by rw [hmi, mix_b, mixes_iff h1 h5, hh]
  have hmostI : IntKind.wrap IntKind.i64 (IntKind.wrap IntKind.i64 (IntKind.wrap IntKind.i64 ((M.length : Int) - 1) * IntKind.wrap IntKind.i64 ((M.length : Int) - 1)) + 1) = ((mostN k : Nat) : Int) := by
    rw [hM.1]
    rcases five h1 h5 with rfl | rfl | rfl | rfl | rfl <;> decide +kernel
  have hrange : ¬ mx < 0 ∧ ¬ ((mostN k : Nat) : Int) < mx := by
    cases hb : mi with
    | false => rw [hmx, hb]; simp
    | true =>
      obtain ⟨L, a1, a2, _, _⟩ := mix_at (k := k) (f := fM M) h1 h5 (by rw [← hmi]; exact hb)
      rw [hmx, hb]
      simp only [cond_true]
      rw [a1]; omega
  have head : ∀ {X : Type} (yes loop bad : Option X), Q9 (ok9 M h mi bt be mx) (.sl (rowsD Y) Y.length 1 c z) (M.map rowD) M.length h mi bt be mx yes loop bad = bif !mi then yes else bif decide (10 < mx) then yes else loop := fun {X} yes loop bad => by
    have tail : Q9t (ok9 M h mi bt be mx) M.length mi mx yes loop bad = bif !mi then yes else bif decide (10 < mx) then yes else loop := by
      unfold Q9t
      rw [hmostI, decide_eq_false hrange.1, decide_eq_false hrange.2, g21]
      rfl
    unfold Q9
    have g29' := g29
    have g30' := g30
    have g31' := g31
    unfold matD at g29' g30' g31'
    rw [g14, g29', g30', g31', decide_eq_true e1]
    simp only [cond_true, Bool.not_true, cond_false]
    cases hb : h with
    | true =>
      have e3 : mi = decide (bt = 1) := by
        rw [e2, hbt, hb, Bool.true_and]
        simp only [cond_true]
        by_cases q : gS k (fM M) (2 * k + 1) = 1
        · rw [decide_eq_true q, decide_eq_true (by rw [q]; rfl)]
        · rw [decide_eq_false q, decide_eq_false (by omega)]
      have e4 : decide (mi = decide (bt = 1)) = true := decide_eq_true e3
      rw [hb] at tail
      rw [e4]; exact tail
    | false =>
      have e3 : mi = false := by rw [e2, hb, Bool.false_and]
      have e4 : decide (mi = false) = true := decide_eq_true e3
      rw [hb] at tail
      rw [e4]; exact tail
  have short : (mi = false ∨ 10 < mx) → PureOK Try.prog 9 [.sl (rowsD Y) Y.length 1 c z] (bD true) := fun hs => by
    refine ae_pure (evT_ok (i9 (M.map rowD) M.length h mi bt be mx (tb7 M))) (fn := Try.f9) k9 (by kernel_rfl) (by kernel_rfl) (startF_done k9 done_plain ((t9_d (ok9 M h mi bt be mx) (M.map rowD) M.length h mi bt be mx (tb7 M) _).trans ((head _ _ _).trans ?_)))
    rcases hs with q | q
    · rw [q]; rfl
    · rw [decide_eq_true q]; cases mi <;> rfl
  cases hb : mi with
  | false => exact short (.inl hb)
  | true =>
    by_cases hq : 10 < mx
    · exact short (.inr hq)
    · obtain ⟨L, a1, a2, a3, a4⟩ := mix_at (k := k) (f := fM M) h1 h5 (by rw [← hmi]; exact hb)
      have hL : mx = (L : Int) := by rw [hmx, hb]; exact a1
      have hl10 : L ≤ 10 := by omega
      have hd := (t9_h (ok9 M h mi bt be mx) (M.map rowD) M.length h mi bt be mx (tb7 M) (.sl (rowsD Y) Y.length 1 c z)).trans (head none (some (0, z9 (M.map rowD) M.length mx true (decide (mx = 0)) 0)) none)
      rw [decide_eq_false hq, hb] at hd
      have hr : ∀ i j, i < k → j < k → reach k (fM M) j L i = true := (fullB_iff h5).1 a3
      have hless := less_ok h5 a4
      subst hL
      rw [hb] at g21
      have hlo := loop90 (h := h) (mi := true) (bt := bt) (be := be) hM h1 h5 hl10 hr k 0 (decide ((L : Int) = 0)) (by omega)
      rw [hless] at hlo
      refine ae_pure (evT_ok (i9 (M.map rowD) M.length h true bt be (L : Int) (tb7 M))) (fn := Try.f9) k9 (by kernel_rfl) (by kernel_rfl) ((startF_seg k9 hd hlo).trans (nextF_done k9 done_plain ((t9_e ..).trans ?_)))
      rw [g21]; rfl
end Go.Proofs.Ytjfopbpkophoeaa
