/- Part 5 of what the law stands on: the abstract machine over the model, and what the functions answer. No condition. -/
import Derived.Test.YtigijjinlalnaaaK4
set_option linter.unusedSimpArgs false
set_option linter.unusedVariables false

/- Chapter 04: Rings 14, ints 17. -/
namespace Go.Proofs.Ytigijjinlalnaaa
open Go Go.AE
set_option maxRecDepth 100000
/-! ### Lists are the same -/
def s17 (A B : List DV) (a b : Nat) (c z c' z' : Bool) (i : Int) : St := ⟨[(0, .d (.sl A a 1 c z)), (1, .d (.sl B b 1 c' z')), (5, .d (iD i))], [], []⟩
theorem t17_h (A B : List DV) (a b : Nat) (c z c' z' : Bool) : startS aeC Ev.nil 17 0 Try.f17 none ⟨envOf 0 [.d (.sl A a 1 c z), .d (.sl B b 1 c' z')], [], []⟩ (heldD aeC 17 0) = bif !decide ((a : Int) = (b : Int)) then none else some (0, s17 A B a b c z c' z' 0) := by kernel_rfl
theorem t17_0 (A B : List DV) (a b : Nat) (c z c' z' : Bool) (i : Int) : startS aeC Ev.nil 17 0 Try.f17 (some 0) (s17 A B a b c z c' z' i) (roundD aeC 17 0 0) =
  bif decide (i < (a : Int)) then (bif inRange i a then (getI (nth A (Int.toNat i * 1)) fun x0 => bif inRange i b then (getI (nth B (Int.toNat i * 1)) fun x1 => bif !decide (x0 = x1) then some (Ex.ret, ⟨[(4, .d (bD false))], [], []⟩) else some (Ex.norm, s17 A B a b c z c' z' (IntKind.wrap IntKind.i64 (i + 1)))) else none) else none) else some (Ex.exit 0, ⟨[], [], []⟩) := by kernel_rfl
theorem t17_e : nextS aeC Ev.nil 17 0 Try.f17 none 0 (.exit 0) ⟨[], [], []⟩ (doneE aeC Try.f17 0 fun v h => freezeP 17 h v) = some (bD true) := by kernel_rfl
theorem k17 : OkSeg Try.f17 none [0] := ⟨by kernel_rfl, by kernel_rfl, by decide⟩
theorem k17_0 : OkSeg Try.f17 (some 0) [] := ⟨by kernel_rfl, by kernel_rfl, by decide⟩
theorem loop17 (l : List Int) (hl : l.length ≤ 1000) (c z c' z' : Bool) : ∀ (r : List Int) (i : Nat), l.drop i = r → LoopAt aeC Ev.nil 17 0 Try.f17 0 (s17 (ints l) (ints l) l.length l.length c z c' z' i) (.exit 0) ⟨[], [], []⟩
  | [], i, hd => by
    have := drop_nil_o hd
    exact .out k17_0 (by simp) ((t17_0 ..).trans (cnd_neg (by omega)))
  | x :: r, i, hd => by
    obtain ⟨h1, h2, h3⟩ := drop_cons_o (d := 0) hd
    have hr : startS aeC Ev.nil 17 0 Try.f17 (some 0) (s17 (ints l) (ints l) l.length l.length c z c' z' i) (roundD aeC 17 0 0) = some (Ex.norm, s17 (ints l) (ints l) l.length l.length c z c' z' ((i + 1 : Nat) : Int)) := by
      refine (t17_0 ..).trans ((cnd_pos (by omega)).trans ((inR_pos (by omega) (by omega)).trans ?_))
      rw [Int.toNat_natCast, Nat.mul_one, nth_ints_o h1, getI_some]
      refine (inR_pos (by omega) (by omega)).trans ?_
      rw [getI_some, decide_eq_true rfl, wr1 (by omega)]; rfl
    exact .next k17_0 hr (loop17 l hl c z c' z' r (i + 1) h3)
theorem ints_same (l : List Int) (hl : l.length ≤ 1000) (c z c' z' : Bool) : PureOK Try.prog 17 [.sl (ints l) l.length 1 c z, .sl (ints l) l.length 1 c' z'] (bD true) :=
  ae_pure EvOK.nil (fn := Try.f17) k17 (by kernel_rfl) (by kernel_rfl) (startF_one k17 done_plain ((t17_h ..).trans (by rw [decide_eq_true rfl]; rfl)) (loop17 l hl c z c' z' l 0 (List.drop_zero ..)) t17_e)
/-! ### Rings of two rounds -/
theorem insI_len (x : Int) (l : List Int) : (insI x l).length = l.length + 1 := by
  unfold insI
  have h := congrArg List.length (List.takeWhile_append_dropWhile (p := fun y => decide (y ≤ x)) (l := l))
  rw [List.length_append] at h
  rw [List.length_append, List.length_cons]; omega
theorem sortI_len (l : List Int) : (sortI l).length = l.length := by
  have : ∀ (l o : List Int), (l.foldl (fun o x => insI x o) o).length = o.length + l.length := by
    intro l
    induction l with
    | nil => intro o; simp
    | cons x l ih => intro o; rw [List.foldl_cons, ih, insI_len, List.length_cons]; omega
  unfold sortI
  rw [this]; simp
/-- The numbers of a round's opponents are pairs. -/
theorem inv_of {n : Nat} (hev : n % 2 = 0) (h10 : n ≤ 10) {l : List (Int × Int)} (h : roundB n l = true) : Inv n (atA (ofS n l).1) ∧ (ofS n l).1.length = 10 ∧ ∀ x : Int, 0 ≤ x → x < n → (homeS l x).2 = atA (ofS n l).1 x := by
  have hro := round_opp hev h
  have hlen : (ofS n l).1.length = 10 := by
    unfold ofS
    cases decide ((l.length : Int) = Int.tdiv n 2) with
    | true => rw [cond_true, ofR_len]; rfl
    | false => rfl
  simp only [roundB, Bool.and_eq_true, decide_eq_true_eq] at h
  have hat : ∀ x : Int, 0 ≤ x → x < n → atA (ofS n l).1 x = (oppS l x).getD 0 := by
    intro x h0 h1
    obtain ⟨t, rfl⟩ : ∃ t : Nat, x = t := ⟨x.toNat, by omega⟩
    unfold atA ofS
    rw [decide_eq_true h.2, cond_true, Int.toNat_natCast, ofR_at (by omega) h.1 (by rfl) t]
    obtain ⟨u, hu, _⟩ := hro t h0 h1
    rw [hu]; rfl
  refine ⟨?_, hlen, ?_⟩
  · intro x h0 h1
    obtain ⟨u, hu, u0, u1, u2, u3⟩ := hro x h0 h1
    rw [hat x h0 h1, hu]
    show 0 ≤ u ∧ u < n ∧ u ≠ x ∧ atA (ofS n l).1 u = x
    rw [hat u u0 u1, u3]
    exact ⟨u0, u1, u2, rfl⟩
  · intro x h0 h1
    obtain ⟨u, hu, _⟩ := hro x h0 h1
    rw [hat x h0 h1, home_opp, hu]; rfl
def ringS (n : Nat) (l r : List (Int × Int)) : List Int := sortI (ringsL (atA (ofS n l).1) (atA (ofS n r).1) n 0 [])
structure T14 where
  b : Int → Bool
  o : List DV → List DV
  e : List DV → Bool
  Q : List DV → List DV
  k : List DV → Nat
def j14 (T : T14) (f : Nat) (ds : List DV) : DV := bif Nat.beq f 51 then bD (T.b (argD 0 ds)) else bif Nat.beq f 52 then .tup [.agg (T.o ds), bD (T.e ds)] else .sl (T.Q ds) (T.k ds) 1 false false
def cp14 {X : Type} (A : List DV) (K : Option X) : Option X := bif Nat.beq (A.map AV.d).length 10 then (bif Nat.ble (0 + A.length) 10 then K else none) else none
theorem u14 (ok : Nat → List DV → Bool) (T : T14) (n : Int) (x y : DV) : pureE aeC (evT ok (j14 T)) 30 14 Try.f14 [iD n, x, y] =
  bif ok 51 [iD n] then (bif !T.b (argD 0 [iD n]) then some (.tup [.sl [] 0 0 false true, iD 1]) else bif ok 52 [iD n, x] then cp14 (T.o [iD n, x]) (bif ok 52 [iD n, y] then cp14 (T.o [iD n, y]) (
    bif !T.e [iD n, x] then some (.tup [.sl [] 0 0 false true, iD 40]) else bif !T.e [iD n, y] then some (.tup [.sl [] 0 0 false true, iD 40]) else
    (takeN 10 (List.drop 0 (setMany z10 0 (T.o [iD n, x])))).bind fun v0 => (takeN 10 (List.drop 0 (setMany z10 0 (T.o [iD n, y])))).bind fun v1 => bif ok 53 [iD n, .agg v0, .agg v1] then some (.tup [.sl (T.Q [iD n, .agg v0, .agg v1]) (T.k [iD n, .agg v0, .agg v1]) 1 false false, iD 0]) else none) else none) else none) else none := by kernel_rfl
def T14v : T14 := ⟨teamB, fun ds => ints (ofS (argD 0 ds) (unPr (slL 1 ds))).1, fun ds => (ofS (argD 0 ds) (unPr (slL 1 ds))).2, fun ds => ints (sortI (ringsL (atA (unI (aggD 1 ds))) (atA (unI (aggD 2 ds))) (argD 0 ds).toNat 0 [])), fun ds => (ringsL (atA (unI (aggD 1 ds))) (atA (unI (aggD 2 ds))) (argD 0 ds).toNat 0 []).length⟩
theorem teamB_iff {n : Int} : teamB n = true ↔ ∃ k : Nat, n = k ∧ 2 ≤ k ∧ k ≤ 10 ∧ k % 2 = 0 := by
  simp only [teamB, Bool.and_eq_true, decide_eq_true_eq]
  constructor
  · rintro ⟨h1, h2, h3⟩
    refine ⟨n.toNat, by omega, by omega, by omega, ?_⟩
    rw [Int.tmod_eq_emod_of_nonneg (by omega)] at h3
    omega
  · rintro ⟨k, rfl, h1, h2, h3⟩
    rw [Int.tmod_eq_emod_of_nonneg (by omega)]
    omega
def err14 (n : Int) (l r : List (Int × Int)) : Int := bif !teamB n then 1 else bif !roundB n l then 40 else bif !roundB n r then 40 else 0
def out14 (n : Int) (l r : List (Int × Int)) : DV := bif !teamB n then .sl [] 0 0 false true else bif !roundB n l then .sl [] 0 0 false true else bif !roundB n r then .sl [] 0 0 false true else .sl (ints (ringS n.toNat l r)) (ringS n.toNat l r).length 1 false false
theorem rings14_ok (n : Int) (l r : List (Int × Int)) (c z c' z' : Bool) : PureOK Try.prog 14 [iD n, .sl (edD l) l.length 2 c z, .sl (edD r) r.length 2 c' z'] (.tup [out14 n l r, iD (err14 n l r)]) := by
  have hE : EvOK Try.prog (evT (okS (j14 T14v)) (j14 T14v)) := evT_ok _
  refine ae_direct hE 30 (by kernel_rfl : tget aeF 14 = some Try.f14) ((u14 ..).trans ?_)
  have o51 : okS (j14 T14v) 51 [iD n] = true := isP_iff.2 (isT51 n)
  rw [o51, cond_true]
  show (bif !teamB n then _ else _) = _
  unfold out14 err14
  cases ht : teamB n with
  | false => rfl
  | true =>
    obtain ⟨k, rfl, h2, h10, hev⟩ := teamB_iff.1 ht
    have o52 : ∀ (l : List (Int × Int)) (c z : Bool), okS (j14 T14v) 52 [iD (k : Int), .sl (edD l) l.length 2 c z] = true := by
      intro l c z
      refine isP_iff.2 ?_
      show PureOK Try.prog 52 _ (.tup [.agg (ints (ofS k (unPr (edD l))).1), bD (ofS k (unPr (edD l))).2])
      rw [unPr_ed]
      exact of_ok (by omega) (by omega) l c z
    have v52 : ∀ (l : List (Int × Int)) (c z : Bool), T14v.o [iD (k : Int), .sl (edD l) l.length 2 c z] = ints (ofS k l).1 ∧ T14v.e [iD (k : Int), .sl (edD l) l.length 2 c z] = roundB k l := by
      intro l c z
      refine ⟨?_, ?_⟩
      · show ints (ofS k (unPr (edD l))).1 = _
        rw [unPr_ed]
      · show (ofS k (unPr (edD l))).2 = _
        rw [unPr_ed, of_round]
    have hlen : ∀ l : List (Int × Int), (ofS k l).1.length = 10 := by
      intro l
      unfold ofS
      cases decide ((l.length : Int) = Int.tdiv k 2) with
      | true => rw [cond_true, ofR_len]; rfl
      | false => rfl
    have hcp : ∀ (l : List (Int × Int)) (K : Option DV), cp14 (ints (ofS k l).1) K = K := by
      intro l K
      unfold cp14
      rw [List.length_map, len_ints, hlen]; rfl
    rw [o52, o52, (v52 l c z).1, (v52 r c' z').1, (v52 l c z).2, (v52 r c' z').2, hcp, hcp]
    simp only [Bool.not_true, cond_false, cond_true]
    cases hl : roundB k l with
    | false => rfl
    | true =>
      cases hr : roundB k r with
      | false => rfl
      | true =>
        obtain ⟨f1, f2, _⟩ := inv_of hev h10 hl
        obtain ⟨g1, g2, _⟩ := inv_of hev h10 hr
        have tk : ∀ A : List Int, A.length = 10 → takeN 10 (List.drop 0 (setMany z10 0 (ints A))) = some (ints A) := by
          intro A hA
          rw [setMany_all (by rw [len_ints, hA]; rfl), List.drop_zero, takeN_all _ _ (by rw [len_ints, hA])]
        rw [tk _ f2, tk _ g2]
        simp only [Option.bind_some, Bool.not_true, cond_false]
        have o53 : okS (j14 T14v) 53 [iD (k : Int), .agg (ints (ofS k l).1), .agg (ints (ofS k r).1)] = true := by
          refine isP_iff.2 ?_
          show PureOK Try.prog 53 _ (.sl (ints (sortI (ringsL (atA (unI (ints (ofS k l).1))) (atA (unI (ints (ofS k r).1))) (Int.toNat (k : Int)) 0 []))) (ringsL (atA (unI (ints (ofS k l).1))) (atA (unI (ints (ofS k r).1))) (Int.toNat (k : Int)) 0 []).length 1 false false)
          rw [unI_ints, unI_ints, Int.toNat_natCast]
          exact rings_ok h10 f2 g2 f1 g1 h2
        rw [o53, cond_true]
        show some (DV.tup [.sl (ints (sortI (ringsL (atA (unI (ints (ofS k l).1))) (atA (unI (ints (ofS k r).1))) (Int.toNat (k : Int)) 0 []))) (ringsL (atA (unI (ints (ofS k l).1))) (atA (unI (ints (ofS k r).1))) (Int.toNat (k : Int)) 0 []).length 1 false false, iD 0]) = _
        rw [unI_ints, unI_ints, Int.toNat_natCast]
        unfold ringS
        rw [sortI_len]
end Go.Proofs.Ytigijjinlalnaaa

/- Chapter 04: law 3 (Rings), on data. -/
namespace Go.Proofs.Ytigijjinlalnaaa
open Go Go.AE
set_option maxRecDepth 100000
/-! ### Empty lists -/
theorem nil_sz {w : World} {G : Nat → Prop} {s s' : Nat} {c c' : Bool} {v : Value} (h : DRel w G (.sl [] 0 s c true) v) : DRel w G (.sl [] 0 s' c' true) v := by
  simp only [DRel, cond_true] at h ⊢
  exact ⟨by simp, h.2⟩
theorem PureOK.res {f : FuncId} {ds : List DV} {d d' : DV} (h : PureOK Try.prog f ds d) (hd : ∀ (w : World) (G : Nat → Prop) (v : Value), DRel w G d v → DRel w G d' v) : PureOK Try.prog f ds d' := by
  refine ⟨h.1, fun w G vs hG hg hv => ?_⟩
  refine (h.2 w G vs hG hg hv).mono ?_
  rintro e w' ⟨v, rfl, h1, h2⟩
  exact ⟨v, rfl, h1, hd _ _ _ h2⟩
theorem tup_fst {w : World} {G : Nat → Prop} {a a' : DV} {r : List DV} {v : Value} (ha : ∀ v, DRel w G a v → DRel w G a' v) (h : DRel w G (.tup (a :: r)) v) : DRel w G (.tup (a' :: r)) v := by
  simp only [DRel] at h ⊢
  obtain ⟨vs, e, u, t, h1, h2, h3⟩ := h
  exact ⟨vs, e, u, t, h1, ha _ h2, h3⟩
theorem PureOK.weaken {f : FuncId} {ds ds' : List DV} {d : DV} (h : ∀ (w : World) (G : Nat → Prop) l, DVals w G ds' l → DVals w G ds l) (hp : PureOK Try.prog f ds d) : PureOK Try.prog f ds' d :=
  ⟨hp.1, fun w G vs hG hg q => hp.2 w G vs hG hg (h w G _ q)⟩
/-- Data that is a list of games. -/
def GD (d : DV) (l : List (Int × Int)) : Prop := ∃ sz nl, d = .sl (edD l) l.length sz false nl ∧ (sz = 2 ∨ (l = [] ∧ nl = true)) ∧ l.length ≤ 100
theorem GD.len {d : DV} {l : List (Int × Int)} (h : GD d l) : l.length ≤ 100 := by obtain ⟨_, _, _, _, h⟩ := h; exact h
theorem GD.cells {d : DV} {l : List (Int × Int)} (h : GD d l) (a : DV) (r : List DV) : unPr (slL 1 (a :: d :: r)) = l := by
  obtain ⟨sz, nl, rfl, _⟩ := h
  exact unPr_ed l
theorem GD.cells2 {d : DV} {l : List (Int × Int)} (h : GD d l) (a b : DV) (r : List DV) : unPr (slL 2 (a :: b :: d :: r)) = l := by
  obtain ⟨sz, nl, rfl, _⟩ := h
  exact unPr_ed l
theorem GD.val {d : DV} {l : List (Int × Int)} (h : GD d l) : ∃ nl, ∀ (w : World) (G : Nat → Prop) v, DRel w G d v → DRel w G (.sl (edD l) l.length 2 false nl) v := by
  obtain ⟨sz, nl, rfl, h | ⟨rfl, rfl⟩, _⟩ := h
  · subst h; exact ⟨nl, fun _ _ _ q => q⟩
  · exact ⟨true, fun _ _ _ q => nil_sz q⟩
theorem round_gd {n : Int} (h2 : 2 ≤ n) (h10 : n ≤ 10) {d : DV} {l : List (Int × Int)} (h : GD d l) : PureOK Try.prog 16 [iD n, d] (bD (roundB n l)) := by
  obtain ⟨nl, hv⟩ := h.val
  refine PureOK.weaken ?_ (round_ok h2 h10 l (by have := h.len; omega) false nl)
  rintro w G _ ⟨v1, r1, rfl, h1, v2, r2, rfl, h2, h3⟩
  exact ⟨v1, _, rfl, h1, v2, _, rfl, hv _ _ _ h2, h3⟩
def outP (n : Int) (l r : List (Int × Int)) : List Int := bif teamB n && (roundB n l && roundB n r) then ringS n.toNat l r else []
def outZ (n : Int) (l r : List (Int × Int)) : Bool := !(teamB n && (roundB n l && roundB n r))
theorem rings_gd (n : Int) {c d : DV} {l r : List (Int × Int)} (hc : GD c l) (hd : GD d r) : PureOK Try.prog 14 [iD n, c, d] (.tup [.sl (ints (outP n l r)) (outP n l r).length 1 false (outZ n l r), iD (err14 n l r)]) := by
  obtain ⟨nl, hv⟩ := hc.val
  obtain ⟨nl2, hv2⟩ := hd.val
  have h := rings14_ok n l r false nl false nl2
  have h' : PureOK Try.prog 14 [iD n, .sl (edD l) l.length 2 false nl, .sl (edD r) r.length 2 false nl2] (.tup [.sl (ints (outP n l r)) (outP n l r).length 1 false (outZ n l r), iD (err14 n l r)]) := by
    unfold out14 at h
    unfold outP outZ
    cases ht : teamB n with
    | false =>
      rw [ht] at h
      exact PureOK.res h fun w G v => tup_fst fun v => nil_sz
    | true =>
      cases hl : roundB n l with
      | false =>
        rw [ht, hl] at h
        exact PureOK.res h fun w G v => tup_fst fun v => nil_sz
      | true =>
        cases hr : roundB n r with
        | false =>
          rw [ht, hl, hr] at h
          exact PureOK.res h fun w G v => tup_fst fun v => nil_sz
        | true =>
          rw [ht, hl, hr] at h
          exact h
  refine PureOK.weaken ?_ h'
  rintro w G _ ⟨v1, r1, rfl, h1, v2, r2, rfl, h2, v3, r3, rfl, h3, h4⟩
  exact ⟨v1, _, rfl, h1, v2, _, rfl, hv _ _ _ h2, v3, _, rfl, hv2 _ _ _ h3, h4⟩
theorem rRings_gd {k : Nat} (h2 : 2 ≤ k) (h10 : k ≤ 10) (hev : k % 2 = 0) {c d : DV} {l r : List (Int × Int)} (hc : GD c l) (hd : GD d r) (hl : roundB k l = true) (hr : roundB k r = true) : PureOK Try.prog 18 [iD (k : Int), c, d] (.sl (ints (ringS k l r)) (ringS k l r).length 1 false (Nat.beq (ringS k l r).length 0)) := by
  obtain ⟨nl, hv⟩ := hc.val
  obtain ⟨nl2, hv2⟩ := hd.val
  obtain ⟨f1, f2, f3⟩ := inv_of hev h10 hl
  obtain ⟨g1, g2, g3⟩ := inv_of hev h10 hr
  have h := rRings_ok (n := k) (l := l) (r := r) (c := false) (c' := false) (z := nl) (z' := nl2) h10 (by have := hc.len; omega) (by have := hd.len; omega) f1 g1 f3 g3 h2
  have h' : PureOK Try.prog 18 [iD (k : Int), .sl (edD l) l.length 2 false nl, .sl (edD r) r.length 2 false nl2] (.sl (ints (ringS k l r)) (ringS k l r).length 1 false (Nat.beq (ringS k l r).length 0)) := by
    rw [lenOf_1, len_ints, Bool.true_and] at h
    exact h
  refine PureOK.weaken ?_ h'
  rintro w G _ ⟨v1, r1, rfl, h1, v2, r2, rfl, h2, v3, r3, rfl, h3, h4⟩
  exact ⟨v1, _, rfl, h1, v2, _, rfl, hv _ _ _ h2, v3, _, rfl, hv2 _ _ _ h3, h4⟩
theorem ringsL_len (f g : Int → Int) : ∀ (j : Nat) (t : Int) (S : List Int), (ringsL f g j t S).length ≤ j
  | 0, _, _ => by simp [ringsL]
  | j + 1, t, S => by
    unfold ringsL
    split
    · have := ringsL_len f g j (t + 1) S; omega
    · have := ringsL_len f g j (t + 1) (S ++ cyc f g t 5 t); simp only [List.length_cons]; omega
/-! ### The law -/
structure T3 where
  P : List DV → List DV
  Pk : List DV → Nat
  Pz : List DV → Bool
  Pe : List DV → Int
  t : List DV → Bool
  r : List DV → Bool
  Q : List DV → List DV
  Qk : List DV → Nat
  Qz : List DV → Bool
  m : List DV → Int
  a : List DV → List DV
  ak : List DV → Nat
  as' : List DV → List DV
  an : List DV → Nat
  n : List DV → List DV
  nk : List DV → Nat
def i3 (T : T3) (f : Nat) (ds : List DV) : DV := bif Nat.beq f 14 then .tup [.sl (T.P ds) (T.Pk ds) 1 false (T.Pz ds), iD (T.Pe ds)] else bif Nat.beq f 15 then bD (T.t ds) else bif Nat.beq f 16 then bD (T.r ds) else bif Nat.beq f 18 then .sl (T.Q ds) (T.Qk ds) 1 false (T.Qz ds) else bif Nat.beq f 19 then .tup [iD (T.m ds), .sl (.sl (T.a ds) (T.ak ds) 2 false false :: T.as' ds) (T.an ds + 1) 1 false false] else bif Nat.beq f 20 then .sl (T.n ds) (T.nk ds) 1 false false else bD true
noncomputable def aeC3 : Ctx := { aeC.open' [13] with pol := fun f b => cond (Nat.beq f 3 && Nat.beq b 2) (some ⟨[0, 2, 8, 9, 10], [], [9]⟩) (aeC.pol f b) }
theorem ae_fn3 {f : FuncId} {fn : Func} (h : tget aeF f = some fn) : FnOK Try.prog aeC3 f fn := (ae_fn h).same (show aeC3.plan = aeC.plan from rfl)
theorem ae_pure3 {E : Ev} (hE : EvOK Try.prog E) {f : FuncId} {fn : Func} {ids : List Nat} {ds : List DV} {d : DV} (ok : OkSeg fn none ids) (h : tget aeF f = some fn) (hb : (fn.body.isSome && Nat.ble ds.length fn.ntmps) = true)
    (e : startF aeC3 E f 0 fn none ⟨envOf 0 (ds.map .d), [], []⟩ (doneE aeC3 fn 0 fun v h => freezeV h 4 v) = some d) (hfr : freshF f = false := by rfl) : PureOK Try.prog f ds d :=
  pure_of_go (C := aeC3) ae_T ae_Q ae_mixed hE (ae_fn3 h) ok hb e hfr
noncomputable def E3 (ok : Nat → List DV → Bool) (T : T3) : Ev := evO aeC3 aeF (evT ok (i3 T)) [14, 15, 16, 17, 18, 19, 20, 21] [] 30 40
theorem E3_ok (T : T3) : EvOK Try.prog (E3 (okS (i3 T)) T) := evO_ok (C := aeC3) ae_T ae_Q ae_mixed (fun _ _ h => ae_fn3 h) (evT_ok (i3 T)) [14, 15, 16, 17, 18, 19, 20, 21] [] 30 40
def s3 (n : Int) (s c d : DV) (r : Int) : St := ⟨[(0, .d (iD n)), (2, .d s), (8, .d c), (9, .d d), (10, .d (iD r))], [], []⟩
def q3 (n : Int) (s : DV) (O : List DV) : St := ⟨[(0, .d (iD n)), (2, .d s), (7, AV.grow 0 1 false)], [.dc O], []⟩
def j3 (m : Int) (s c : DV) (N : List DV) (k : Nat) (r : Int) (O : List DV) (j : Int) : St := ⟨[(0, .d (iD m)), (2, .d s), (8, .d c), (10, .d (iD r)), (13, .d (iD m)), (15, AV.grow 0 2 false), (16, .d (DV.sl N k 1 false false)), (17, .d (iD j))], [.dc O], []⟩
def y3 (m : Int) (s c : DV) (r : Int) (O : List DV) : St := ⟨[(0, .d (iD m)), (2, .d s), (8, .d c), (10, .d (iD r)), (15, AV.grow 0 2 false)], [.dc O], []⟩
def K3 (ok : Nat → List DV → Bool) (T : T3) (n : Int) (s : DV) (r : Int) : Option (Nat × St) :=
  bif ok 19 [iD n, s] then (bif inRange 0 (T.an [iD n, s] + 1) then (bif ok 20 [iD (T.m [iD n, s]), s] then some (5, j3 (T.m [iD n, s]) s (.sl (T.a [iD n, s]) (T.ak [iD n, s]) 2 false false) (T.n [iD (T.m [iD n, s]), s]) (T.nk [iD (T.m [iD n, s]), s]) r [] 0) else none) else none) else none
def B3 (T : T3) (ds : List DV) (e : Int) (K : Option (Nat × St)) : Option (Nat × St) := bif !decide (T.Pe ds = e) then none else bif !decide ((T.Pk ds : Int) = 0) then none else K
def R3 (ok : Nat → List DV → Bool) (T : T3) (n : Int) (s c d : DV) (r : Int) : Option (Nat × St) :=
  bif ok 14 [iD n, c, d] then (bif T.Pz [iD n, c, d] || true then (bif ok 15 [iD n] then (bif !T.t [iD n] then B3 T [iD n, c, d] 1 (K3 ok T n s r) else
    bif ok 16 [iD n, c] then (bif !T.r [iD n, c] then B3 T [iD n, c, d] 40 (K3 ok T n s r) else bif ok 16 [iD n, d] then (bif !T.r [iD n, d] then B3 T [iD n, c, d] 40 (K3 ok T n s r) else
      bif !decide (T.Pe [iD n, c, d] = 0) then none else bif ok 18 [iD n, c, d] then (bif T.Qz [iD n, c, d] || true then (bif ok 17 [.sl (T.P [iD n, c, d]) (T.Pk [iD n, c, d]) 1 false (T.Pz [iD n, c, d]), .sl (T.Q [iD n, c, d]) (T.Qk [iD n, c, d]) 1 false (T.Qz [iD n, c, d])] then K3 ok T n s r else none) else none) else none) else none) else none) else none) else none) else none
section
variable (ok : Nat → List DV → Bool) (T : T3) (E : Ev)
theorem t3_2 (n : Int) (s c d : DV) (r : Int) : startS aeC3 (E3 ok T) 3 0 Try.f3 (some 2) (s3 n s c d r) (heldD aeC3 3 0) = bif decide (r < 2) then R3 ok T n s c d r else none := by kernel_rfl
theorem t3_2x (n : Int) (s c d : DV) : startS aeC3 E 3 0 Try.f3 (some 2) (s3 n s c d 2) (roundD aeC3 3 0 2) = some (Ex.exit 2, ⟨[], [], []⟩) := by kernel_rfl
theorem t3_5 (m : Int) (s c : DV) (N : List DV) (k : Nat) (r : Int) (O : List DV) (j : Int) : startS aeC3 E 3 0 Try.f3 (some 5) (j3 m s c N k r O j) (roundD aeC3 3 0 5) =
  bif decide (IntKind.wrap IntKind.i64 (j + 1) < m) then (bif inRange j k then (getI (nth N (Int.toNat j * 1)) fun x0 => bif inRange (IntKind.wrap IntKind.i64 (j + 1)) k then (getI (nth N (Int.toNat (IntKind.wrap IntKind.i64 (j + 1)) * 1)) fun x1 => bif Nat.ble (lenOf 2 (List.length O) + 1) 1048576 then some (Ex.norm, j3 m s c N k r (O ++ [iD x0, iD x1]) (IntKind.wrap IntKind.i64 (j + 2))) else none) else none) else none)
  else some (Ex.exit 5, y3 m s c r O) := by kernel_rfl
theorem t3_5x (m : Int) (s c : DV) (r : Int) (O : List DV) : nextS aeC3 E 3 0 Try.f3 (some 2) 5 (.exit 5) (y3 m s c r O) (roundD aeC3 3 0 2) = some (Ex.norm, s3 m s c (.sl O (lenOf 2 (List.length O)) 2 false (true && Nat.beq (List.length O) 0)) (IntKind.wrap IntKind.i64 (r + 1))) := by kernel_rfl
theorem t3_00 (n : Int) (s : DV) : inL aeC3 E 3 0 Try.f3 5 0 (q3 n s []) (fun ex s => some (ex, s)) = some (Ex.exit 0, q3 n s [.sl [] 0 0 false true, .sl [] 0 0 false true]) := by kernel_rfl
theorem t3_01 (n : Int) (s : DV) (L : List DV) (l : Nat) (z : Bool) : inL aeC3 E 3 0 Try.f3 5 0 (q3 n s [.sl L l 2 false z]) (fun ex s => some (ex, s)) = some (Ex.exit 0, q3 n s [.sl L l 2 false z, .sl [] 0 0 false true]) := by kernel_rfl
theorem t3_02 (n : Int) (s : DV) (L M : List DV) (l m : Nat) (z z' : Bool) : inL aeC3 E 3 0 Try.f3 5 0 (q3 n s [.sl L l 2 false z, .sl M m 2 false z']) (fun ex s => some (ex, s)) = some (Ex.exit 0, q3 n s [.sl L l 2 false z, .sl M m 2 false z']) := by kernel_rfl
theorem t3_1 (n : Int) (s x y : DV) : nextS aeC3 E 3 0 Try.f3 none 0 (.exit 0) (q3 n s [x, y]) (heldD aeC3 3 0) = some (2, s3 n s x y 0) := by kernel_rfl
theorem t3_e : nextS aeC3 (E3 ok T) 3 0 Try.f3 none 2 (.exit 2) ⟨[], [], []⟩ (doneE aeC3 Try.f3 0 fun v h => freezeP 3 h v) = bif ok 21 [] then some (bD true) else none := by kernel_rfl
/-- A row cut at six. -/
def cut6 {X : Type} (L : List DV) (l : Nat) (z : Bool) (K : DV → Option X) : Option X :=
  bif decide (0 ≤ if 6 < (l : Int) then 6 else (l : Int)) && decide ((if 6 < (l : Int) then 6 else (l : Int)) ≤ (l : Int)) then (bif z || true then (bif Nat.ble (Int.toNat (if 6 < (l : Int) then 6 else (l : Int)) - 0) 1048576 then
    K (.sl (sub L 0 ((Int.toNat (if 6 < (l : Int) then 6 else (l : Int)) - 0) * 2)) (lenOf 2 (List.length (sub L 0 ((Int.toNat (if 6 < (l : Int) then 6 else (l : Int)) - 0) * 2)))) 2 false (true && Nat.beq (List.length (sub L 0 ((Int.toNat (if 6 < (l : Int) then 6 else (l : Int)) - 0) * 2))) 0)) else none) else none) else none
def or3 {X : Type} (z : Bool) (K : Option X) : Option X := bif z || true then K else none
theorem t3_h0 (n : Int) (s : DV) (z : Bool) : startS aeC3 (E3 ok T) 3 0 Try.f3 none ⟨envOf 0 [.d (iD n), .d (.sl [] 0 1 false z), .d s], [], []⟩ (heldD aeC3 3 0) = some (0, q3 n s []) := by kernel_rfl
theorem t3_h1 (n : Int) (s : DV) (L : List DV) (l : Nat) (c z c' z' : Bool) : startS aeC3 (E3 ok T) 3 0 Try.f3 none ⟨envOf 0 [.d (iD n), .d (.sl [.sl L l 2 c z] 1 1 c' z'), .d s], [], []⟩ (heldD aeC3 3 0) = or3 z (or3 z (or3 z (cut6 L l z fun x => some (0, q3 n s [x])))) := by kernel_rfl
theorem t3_h2 (n : Int) (s : DV) (L M R : List DV) (l m k : Nat) (c z c' z' c2 z2 : Bool) : startS aeC3 (E3 ok T) 3 0 Try.f3 none ⟨envOf 0 [.d (iD n), .d (.sl (.sl L l 2 c z :: .sl M m 2 c' z' :: R) (k + 2) 1 c2 z2), .d s], [], []⟩ (heldD aeC3 3 0) =
  bif decide (0 < ((k + 2 : Nat) : Int)) then (bif inRange 0 (k + 2) then or3 z (bif inRange 0 (k + 2) then or3 z (or3 z (cut6 L l z fun x => bif decide (1 < ((k + 2 : Nat) : Int)) then (bif inRange 1 (k + 2) then or3 z' (bif inRange 1 (k + 2) then or3 z' (or3 z' (cut6 M m z' fun y => bif decide (2 < ((k + 2 : Nat) : Int)) then some (0, q3 n s [x, y]) else some (0, q3 n s [x, y]))) else none) else none) else some (0, q3 n s [x]))) else none) else none) else some (0, q3 n s []) := by kernel_rfl
end
end Go.Proofs.Ytigijjinlalnaaa

/- Chapter 04: law 3 (Rings), on data: its rounds. -/
namespace Go.Proofs.Ytigijjinlalnaaa
open Go Go.AE
set_option maxRecDepth 100000
theorem k3 : OkSeg Try.f3 none [0, 2] := ⟨by kernel_rfl, by kernel_rfl, by decide⟩
theorem k3_2 : OkSeg Try.f3 (some 2) [5] := ⟨by kernel_rfl, by kernel_rfl, by decide⟩
theorem k3_5 : OkSeg Try.f3 (some 5) [] := ⟨by kernel_rfl, by kernel_rfl, by decide⟩
def T3v : T3 where
  P ds := ints (outP (argD 0 ds) (unPr (slL 1 ds)) (unPr (slL 2 ds)))
  Pk ds := (outP (argD 0 ds) (unPr (slL 1 ds)) (unPr (slL 2 ds))).length
  Pz ds := outZ (argD 0 ds) (unPr (slL 1 ds)) (unPr (slL 2 ds))
  Pe ds := err14 (argD 0 ds) (unPr (slL 1 ds)) (unPr (slL 2 ds))
  t ds := teamB (argD 0 ds)
  r ds := roundB (argD 0 ds) (unPr (slL 1 ds))
  Q ds := ints (ringS (argD 0 ds).toNat (unPr (slL 1 ds)) (unPr (slL 2 ds)))
  Qk ds := (ringS (argD 0 ds).toNat (unPr (slL 1 ds)) (unPr (slL 2 ds))).length
  Qz ds := Nat.beq (ringS (argD 0 ds).toNat (unPr (slL 1 ds)) (unPr (slL 2 ds))).length 0
  m ds := teamsN (argD 0 ds)
  a ds := edD ((tameR (teamsN (argD 0 ds)) (unI (slL 1 ds))).headD [])
  ak ds := ((tameR (teamsN (argD 0 ds)) (unI (slL 1 ds))).headD []).length
  as' ds := (tameR (teamsN (argD 0 ds)) (unI (slL 1 ds))).tail.map gamesD
  an ds := teamsN (argD 0 ds) - 2
  n ds := ints (namesS (unI (slL 1 ds)) (argD 0 ds).toNat)
  nk ds := (argD 0 ds).toNat
theorem teamsN_ge (n : Int) : 2 ≤ teamsN n ∧ teamsN n ≤ 10 ∧ teamsN n % 2 = 0 := by
  have := teamsN_cases n
  unfold teamsN at this ⊢
  omega
theorem tame_head (n : Int) (s : List Int) : (tameR (teamsN n) s).length = teamsN n - 1 ∧ ∃ h t, tameR (teamsN n) s = h :: t := by
  have h := teamsN_ge n
  have hl : (tameR (teamsN n) s).length = teamsN n - 1 := by unfold tameR; simp
  refine ⟨hl, ?_⟩
  cases ht : tameR (teamsN n) s with
  | nil => rw [ht] at hl; simp at hl; omega
  | cons a b => exact ⟨a, b, rfl⟩
theorem tame_len (n : Int) (s : List Int) : ∀ l ∈ tameR (teamsN n) s, l.length ≤ 100 := by
  intro l hl
  have hm := teamsN_cases n
  generalize teamsN n = m at hm hl
  obtain ⟨ht, htl⟩ := turn_ok hm
  obtain ⟨_, e2⟩ := ren_eq (m := m) (by omega) ht (names_len s m)
  obtain ⟨u, hu, rfl⟩ := List.mem_map.1 hl
  rw [swL_len]
  by_cases hb : (u + s.length % (m - 1)) % (m - 1) < (renQ (namesS s m) (turnedM m)).length
  · rw [List.getD_eq_getElem?_getD, List.getElem?_eq_getElem hb]
    have := e2 _ (List.getElem_mem hb)
    simp only [Option.getD_some]; omega
  · rw [List.getD_eq_getElem?_getD, List.getElem?_eq_none (by omega)]; simp
section
variable (s : List Int) (z : Bool)
/-- A list of numbers as data. -/
def sD (s : List Int) (z : Bool) : DV := .sl (ints s) s.length 1 false z
theorem K3_ok (n r : Int) : ∃ h t, tameR (teamsN n) s = h :: t ∧ K3 (okS (i3 T3v)) T3v n (sD s z) r = some (5, j3 (teamsN n) (sD s z) (gamesD h) (ints (namesS s (teamsN n))) (teamsN n) r [] 0) := by
  obtain ⟨hl, h, t, ht⟩ := tame_head n s
  have hg := teamsN_ge n
  refine ⟨h, t, ht, ?_⟩
  have hu : unI (slL 1 [iD n, sD s z]) = s := unI_ints s
  have hm : T3v.m [iD n, sD s z] = (teamsN n : Int) := rfl
  have ha : T3v.a [iD n, sD s z] = edD h := by
    show edD ((tameR (teamsN n) (unI (slL 1 [iD n, sD s z]))).headD []) = _
    rw [hu, ht]; rfl
  have hak : T3v.ak [iD n, sD s z] = h.length := by
    show ((tameR (teamsN n) (unI (slL 1 [iD n, sD s z]))).headD []).length = _
    rw [hu, ht]; rfl
  have has : T3v.as' [iD n, sD s z] = t.map gamesD := by
    show (tameR (teamsN n) (unI (slL 1 [iD n, sD s z]))).tail.map gamesD = _
    rw [hu, ht]; rfl
  have han : T3v.an [iD n, sD s z] + 1 = teamsN n - 1 := by
    show teamsN n - 2 + 1 = _
    omega
  have o19 : okS (i3 T3v) 19 [iD n, sD s z] = true := by
    refine isP_iff.2 ?_
    show PureOK Try.prog 19 _ (.tup [iD (T3v.m [iD n, sD s z]), .sl (.sl (T3v.a [iD n, sD s z]) (T3v.ak [iD n, sD s z]) 2 false false :: T3v.as' [iD n, sD s z]) (T3v.an [iD n, sD s z] + 1) 1 false false])
    rw [hm, ha, hak, has, han]
    have := tame_ok n s false z
    rw [ht] at this
    exact this
  have hu2 : unI (slL 1 [iD (teamsN n : Int), sD s z]) = s := unI_ints s
  have hn2 : T3v.n [iD (teamsN n : Int), sD s z] = ints (namesS s (teamsN n)) := by
    show ints (namesS (unI (slL 1 [iD (teamsN n : Int), sD s z])) (Int.toNat (teamsN n : Int))) = _
    rw [hu2, Int.toNat_natCast]
  have hnk : T3v.nk [iD (teamsN n : Int), sD s z] = teamsN n := Int.toNat_natCast _
  have o20 : okS (i3 T3v) 20 [iD (teamsN n : Int), sD s z] = true := by
    refine isP_iff.2 ?_
    show PureOK Try.prog 20 _ (.sl (T3v.n [iD (teamsN n : Int), sD s z]) (T3v.nk [iD (teamsN n : Int), sD s z]) 1 false false)
    rw [hn2, hnk]
    exact names_ok (by omega) (by omega) s false z
  unfold K3
  rw [o19, cond_true]
  refine (inR_pos (by omega) (by omega)).trans ?_
  rw [hm, o20, cond_true, hn2, hnk, ha, hak]
  rfl
theorem R3_ok (n : Int) {c d : DV} {l r' : List (Int × Int)} (hc : GD c l) (hd : GD d r') (r : Int) : R3 (okS (i3 T3v)) T3v n (sD s z) c d r = K3 (okS (i3 T3v)) T3v n (sD s z) r := by
  have e1 : unPr (slL 1 [iD n, c, d]) = l := hc.cells _ _
  have e2 : unPr (slL 2 [iD n, c, d]) = r' := hd.cells2 _ _ _
  have vP : T3v.P [iD n, c, d] = ints (outP n l r') := by show ints (outP n (unPr (slL 1 [iD n, c, d])) (unPr (slL 2 [iD n, c, d]))) = _; rw [e1, e2]
  have vPk : T3v.Pk [iD n, c, d] = (outP n l r').length := by show (outP n (unPr (slL 1 [iD n, c, d])) (unPr (slL 2 [iD n, c, d]))).length = _; rw [e1, e2]
  have vPz : T3v.Pz [iD n, c, d] = outZ n l r' := by show outZ n (unPr (slL 1 [iD n, c, d])) (unPr (slL 2 [iD n, c, d])) = _; rw [e1, e2]
  have vPe : T3v.Pe [iD n, c, d] = err14 n l r' := by show err14 n (unPr (slL 1 [iD n, c, d])) (unPr (slL 2 [iD n, c, d])) = _; rw [e1, e2]
  have vt : T3v.t [iD n] = teamB n := rfl
  have vrc : T3v.r [iD n, c] = roundB n l := by show roundB n (unPr (slL 1 [iD n, c])) = _; rw [hc.cells]
  have vrd : T3v.r [iD n, d] = roundB n r' := by show roundB n (unPr (slL 1 [iD n, d])) = _; rw [hd.cells]
  have o14 : okS (i3 T3v) 14 [iD n, c, d] = true := by
    refine isP_iff.2 ?_
    show PureOK Try.prog 14 _ (.tup [.sl (T3v.P [iD n, c, d]) (T3v.Pk [iD n, c, d]) 1 false (T3v.Pz [iD n, c, d]), iD (T3v.Pe [iD n, c, d])])
    rw [vP, vPk, vPz, vPe]
    exact rings_gd n hc hd
  have o15 : okS (i3 T3v) 15 [iD n] = true := isP_iff.2 (isT15 n)
  have B_ok : ∀ (e : Int) (K : Option (Nat × St)), err14 n l r' = e → (outP n l r').length = 0 → B3 T3v [iD n, c, d] e K = K := by
    intro e K h1 h2
    unfold B3
    rw [vPe, vPk, decide_eq_true h1, h2]; rfl
  unfold R3
  rw [o14, o15, vt, cond_true, Bool.or_true, cond_true, cond_true]
  cases ht : teamB n with
  | false =>
    rw [Bool.not_false, cond_true]
    exact B_ok 1 _ (by unfold err14; rw [ht]; rfl) (by unfold outP; rw [ht]; rfl)
  | true =>
    obtain ⟨k, rfl, h2, h10, hev⟩ := teamB_iff.1 ht
    have o16c : okS (i3 T3v) 16 [iD (k : Int), c] = true := by
      refine isP_iff.2 ?_
      show PureOK Try.prog 16 _ (bD (T3v.r [iD (k : Int), c]))
      rw [vrc]; exact round_gd (by omega) (by omega) hc
    have o16d : okS (i3 T3v) 16 [iD (k : Int), d] = true := by
      refine isP_iff.2 ?_
      show PureOK Try.prog 16 _ (bD (T3v.r [iD (k : Int), d]))
      rw [vrd]; exact round_gd (by omega) (by omega) hd
    rw [Bool.not_true, cond_false, o16c, cond_true, vrc]
    cases hl : roundB k l with
    | false =>
      rw [Bool.not_false, cond_true]
      exact B_ok 40 _ (by unfold err14; rw [ht, hl]; rfl) (by unfold outP; rw [ht, hl]; rfl)
    | true =>
      rw [Bool.not_true, cond_false, o16d, cond_true, vrd]
      cases hr : roundB k r' with
      | false =>
        rw [Bool.not_false, cond_true]
        exact B_ok 40 _ (by unfold err14; rw [ht, hl, hr]; rfl) (by unfold outP; rw [ht, hl, hr]; rfl)
      | true =>
        have hP : outP k l r' = ringS k l r' := by unfold outP; rw [ht, hl, hr]; show ringS (Int.toNat (k : Int)) l r' = _; rw [Int.toNat_natCast]
        have vQ : T3v.Q [iD (k : Int), c, d] = ints (ringS k l r') := by show ints (ringS (Int.toNat (k : Int)) (unPr (slL 1 [iD (k : Int), c, d])) (unPr (slL 2 [iD (k : Int), c, d]))) = _; rw [e1, e2, Int.toNat_natCast]
        have vQk : T3v.Qk [iD (k : Int), c, d] = (ringS k l r').length := by show (ringS (Int.toNat (k : Int)) (unPr (slL 1 [iD (k : Int), c, d])) (unPr (slL 2 [iD (k : Int), c, d]))).length = _; rw [e1, e2, Int.toNat_natCast]
        have vQz : T3v.Qz [iD (k : Int), c, d] = Nat.beq (ringS k l r').length 0 := by show Nat.beq (ringS (Int.toNat (k : Int)) (unPr (slL 1 [iD (k : Int), c, d])) (unPr (slL 2 [iD (k : Int), c, d]))).length 0 = _; rw [e1, e2, Int.toNat_natCast]
        have o18 : okS (i3 T3v) 18 [iD (k : Int), c, d] = true := by
          refine isP_iff.2 ?_
          show PureOK Try.prog 18 _ (.sl (T3v.Q [iD (k : Int), c, d]) (T3v.Qk [iD (k : Int), c, d]) 1 false (T3v.Qz [iD (k : Int), c, d]))
          rw [vQ, vQk, vQz]
          exact rRings_gd h2 h10 hev hc hd hl hr
        have hlen : (ringS k l r').length ≤ 1000 := by
          unfold ringS
          rw [sortI_len]
          have := ringsL_len (atA (ofS k l).1) (atA (ofS k r').1) k 0 []
          omega
        rw [Bool.not_true, cond_false, vPe, decide_eq_true (show err14 k l r' = 0 by unfold err14; rw [ht, hl, hr]; rfl), Bool.not_true, cond_false, o18, cond_true, Bool.or_true, cond_true, vP, vPk, vPz, vQ, vQk, vQz, hP]
        have o17 : okS (i3 T3v) 17 [.sl (ints (ringS k l r')) (ringS k l r').length 1 false (outZ k l r'), .sl (ints (ringS k l r')) (ringS k l r').length 1 false (Nat.beq (ringS k l r').length 0)] = true := isP_iff.2 (ints_same _ hlen false _ false _)
        rw [o17, cond_true]
/-- Games are made of names. -/
theorem loop3_5 (E : Ev) (c : DV) (r : Int) {m : Nat} (hm : m ≤ 100) (hev : m % 2 = 0) (N : List Int) (hN : N.length = m) : ∀ (t i : Nat) (o : List (Int × Int)), 2 * (i + t) = m → o.length = i → ∃ o' : List (Int × Int), o'.length = m / 2 ∧
    LoopAt aeC3 E 3 0 Try.f3 5 (j3 m (sD s z) c (ints N) m r (edD o) ((2 * i : Nat) : Int)) (.exit 5) (y3 m (sD s z) c r (edD o'))
  | 0, i, o, h, ho => ⟨o, by omega, .out k3_5 (by simp) ((t3_5 ..).trans (cnd_neg (by rw [wr1 (by omega)]; omega)))⟩
  | t + 1, i, o, h, ho => by
    obtain ⟨o', h1, ih⟩ := loop3_5 E c r hm hev N hN t (i + 1) (o ++ [(N.getD (2 * i) 0, N.getD (2 * i + 1) 0)]) (by omega) (by simp [ho])
    refine ⟨o', h1, .next k3_5 ?_ ih⟩
    refine (t3_5 ..).trans ?_
    rw [wr1 (by omega)]
    refine (cnd_pos (by omega)).trans ((inR_pos (by omega) (by omega)).trans ?_)
    rw [Int.toNat_natCast, Nat.mul_one, nth_ints_o (by omega), getI_some]
    refine (inR_pos (by omega) (by omega)).trans ?_
    rw [Int.toNat_natCast, Nat.mul_one, nth_ints_o (by omega), getI_some]
    have hlo : lenOf 2 (edD o).length = o.length := by rw [len_prs]; show _ * 2 / 2 = _; omega
    refine (ble_pos (by rw [hlo]; omega)).trans ?_
    rw [edD_app, show IntKind.wrap IntKind.i64 (((2 * i : Nat) : Int) + 2) = ((2 * (i + 1) : Nat) : Int) by rw [wrap64_o (by omega) (by omega)]; omega]
    rfl
theorem gd_games (l : List (Int × Int)) (h : l.length ≤ 100) : GD (gamesD l) l := ⟨2, false, rfl, .inl rfl, h⟩
theorem round3 (n : Int) {c d : DV} {l r' : List (Int × Int)} (hc : GD c l) (hd : GD d r') (r : Nat) (hr : r < 2) : ∃ (m : Int) (c' d' : DV) (l2 r2 : List (Int × Int)), GD c' l2 ∧ GD d' r2 ∧
    startF aeC3 (E3 (okS (i3 T3v)) T3v) 3 0 Try.f3 (some 2) (s3 n (sD s z) c d r) (roundD aeC3 3 0 2) = some (Ex.norm, s3 m (sD s z) c' d' ((r + 1 : Nat) : Int)) := by
  obtain ⟨h, t, ht, hK⟩ := K3_ok s z n r
  have hg := teamsN_ge n
  obtain ⟨o', ho, hL⟩ := loop3_5 s z (E3 (okS (i3 T3v)) T3v) (gamesD h) r (m := teamsN n) (by omega) hg.2.2 (namesS s (teamsN n)) (names_len s _) (teamsN n / 2) 0 [] (by omega) rfl
  have hh : startS aeC3 (E3 (okS (i3 T3v)) T3v) 3 0 Try.f3 (some 2) (s3 n (sD s z) c d r) (heldD aeC3 3 0) = some (5, j3 (teamsN n) (sD s z) (gamesD h) (ints (namesS s (teamsN n))) (teamsN n) r (edD []) ((2 * 0 : Nat) : Int)) := by
    refine (t3_2 ..).trans ((cnd_pos (by omega)).trans ?_)
    rw [R3_ok s z n hc hd, hK]; rfl
  refine ⟨teamsN n, gamesD h, .sl (edD o') (lenOf 2 (edD o').length) 2 false (true && Nat.beq (edD o').length 0), h, o', gd_games h (tame_len n s h (by rw [ht]; exact List.mem_cons_self ..)), ⟨2, (true && Nat.beq (edD o').length 0), ?_, .inl rfl, by omega⟩, startF_one k3_2 roundD_plain hh hL ((t3_5x ..).trans ?_)⟩
  · have hlo : lenOf 2 (edD o').length = o'.length := by rw [len_prs]; show _ * 2 / 2 = _; omega
    rw [hlo]
  · rw [wr1 (by omega)]
theorem loop3 (n : Int) {c d : DV} {l r' : List (Int × Int)} (hc : GD c l) (hd : GD d r') : LoopAt aeC3 (E3 (okS (i3 T3v)) T3v) 3 0 Try.f3 2 (s3 n (sD s z) c d 0) (.exit 2) ⟨[], [], []⟩ := by
  obtain ⟨m, c', d', l2, r2, hc', hd', h1⟩ := round3 s z n hc hd 0 (by omega)
  obtain ⟨m2, c2, d2, l3, r3, hc2, hd2, h2⟩ := round3 s z m hc' hd' 1 (by omega)
  exact .nextF k3_2 h1 (.nextF k3_2 h2 (.out k3_2 (by simp) (t3_2x ..)))
end
end Go.Proofs.Ytigijjinlalnaaa

/- Chapter 04: law 3 (Rings), on data: the whole. -/
namespace Go.Proofs.Ytigijjinlalnaaa
open Go Go.AE
set_option maxRecDepth 100000
/-- Rows of games, as data. -/
def isRows : List DV → List (List (Int × Int)) → Prop
  | [], [] => True
  | d :: D, E :: R => (∃ c nl, d = .sl (edD E) E.length 2 c nl) ∧ isRows D R
  | _, _ => False
theorem cut_ok {X : Type} (l : List (Int × Int)) (z : Bool) : ∃ x, GD x (l.take 6) ∧ (∃ nl, x = .sl (edD (l.take 6)) (l.take 6).length 2 false nl) ∧ ∀ K : DV → Option X, cut6 (edD l) l.length z K = K x := by
  have hm : (if (6 : Int) < (l.length : Int) then 6 else (l.length : Int)) = ((min 6 l.length : Nat) : Int) := by split <;> omega
  have hs : sub (edD l) 0 ((Int.toNat ((min 6 l.length : Nat) : Int) - 0) * 2) = edD (l.take 6) := by
    rw [Int.toNat_natCast, Nat.sub_zero]
    show ((edD l).drop 0).take _ = _
    rw [List.drop_zero]
    have h6 : (edD (l.take 6)).length = min 6 l.length * 2 := by rw [len_prs, List.length_take]
    have ha := edD_app (l.take 6) (l.drop 6)
    rw [List.take_append_drop] at ha
    rw [ha, ← h6]
    simp
  have hlen : lenOf 2 (edD (l.take 6)).length = (l.take 6).length := by rw [len_prs]; show _ * 2 / 2 = _; omega
  refine ⟨.sl (edD (l.take 6)) (l.take 6).length 2 false (true && Nat.beq (edD (l.take 6)).length 0), ⟨2, _, rfl, .inl rfl, by rw [List.length_take]; omega⟩, ⟨_, rfl⟩, fun K => ?_⟩
  unfold cut6
  rw [hm, hs, hlen, decide_eq_true (show (0 : Int) ≤ ((min 6 l.length : Nat) : Int) by omega), decide_eq_true (show ((min 6 l.length : Nat) : Int) ≤ (l.length : Int) by omega), Bool.or_true]
  simp only [Bool.and_self, cond_true]
  exact ble_pos (by rw [Int.toNat_natCast]; omega)
theorem or3_ok {X : Type} (z : Bool) (K : Option X) : or3 z K = K := by unfold or3; rw [Bool.or_true]; rfl
theorem gd_nil : GD (.sl [] 0 0 false true) [] := ⟨0, true, rfl, .inr ⟨rfl, rfl⟩, by simp⟩
theorem rings_end (n : Int) (s : List Int) (z : Bool) (a : DV) {O : List DV} {x y : DV} {l r : List (Int × Int)} (hx : GD x l) (hy : GD y r)
    (hh : startS aeC3 (E3 (okS (i3 T3v)) T3v) 3 0 Try.f3 none ⟨envOf 0 [.d (iD n), .d a, .d (sD s z)], [], []⟩ (heldD aeC3 3 0) = some (0, q3 n (sD s z) O))
    (hl : inL aeC3 (E3 (okS (i3 T3v)) T3v) 3 0 Try.f3 5 0 (q3 n (sD s z) O) (fun ex s => some (ex, s)) = some (Ex.exit 0, q3 n (sD s z) [x, y])) : PureOK Try.prog 3 [iD n, a, sD s z] (bD true) := by
  have o21 : okS (i3 T3v) 21 [] = true := isP_iff.2 awake_ok
  refine ae_pure3 (E3_ok T3v) (fn := Try.f3) k3 (by kernel_rfl) (by kernel_rfl) ((startF_seg k3 hh (LoopAt.inl hl)).trans ((nextF_seg k3 (by simp) (exit_small (by omega)) (t3_1 ..) (loop3 s z n hx hy)).trans (nextF_done k3 done_plain ((t3_e ..).trans ?_))))
  rw [o21]; rfl
theorem rings_pure (n : Int) (D : List DV) (R : List (List (Int × Int))) (nl : Bool) (hD : isRows D R) (s : List Int) (z : Bool) : PureOK Try.prog 3 [iD n, .sl D R.length 1 false nl, sD s z] (bD true) := by
  match D, R, hD with
  | [], [], _ => exact rings_end n s z _ gd_nil gd_nil (t3_h0 ..) (t3_00 ..)
  | [d], [l], ⟨⟨c, z1, hd⟩, _⟩ =>
    subst hd
    obtain ⟨x, hx, ⟨xl, hxe⟩, hK⟩ := cut_ok (X := Nat × St) l z1
    subst hxe
    refine rings_end n s z _ hx gd_nil ((t3_h1 ..).trans ?_) (t3_01 ..)
    rw [or3_ok, or3_ok, or3_ok, hK]
  | d :: d' :: D, l :: r :: R, ⟨⟨c, z1, hd⟩, ⟨c2, z2, hd'⟩, _⟩ =>
    subst hd hd'
    obtain ⟨x, hx, ⟨xl, hxe⟩, hK⟩ := cut_ok (X := Nat × St) l z1
    obtain ⟨y, hy, ⟨yl, hye⟩, hK'⟩ := cut_ok (X := Nat × St) r z2
    subst hxe hye
    refine rings_end n s z _ hx hy ((t3_h2 _ _ n (sD s z) (edD l) (edD r) D l.length r.length R.length c z1 c2 z2 false nl).trans ?_) (t3_02 ..)
    refine (cnd_pos (by omega)).trans ((inR_pos (by omega) (by omega)).trans ?_)
    rw [or3_ok]
    refine (inR_pos (by omega) (by omega)).trans ?_
    rw [or3_ok, or3_ok, hK]
    refine (cnd_pos (by omega)).trans ((inR_pos (by omega) (by omega)).trans ?_)
    rw [or3_ok]
    refine (inR_pos (by omega) (by omega)).trans ?_
    rw [or3_ok, or3_ok, hK']
    cases decide (2 < ((R.length + 2 : Nat) : Int)) <;> rfl
end Go.Proofs.Ytigijjinlalnaaa
