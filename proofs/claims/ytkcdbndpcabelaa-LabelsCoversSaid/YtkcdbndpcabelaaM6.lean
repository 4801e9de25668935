/- Part 6 of what the law stands on: the abstract machine over the model, and what the functions answer. No condition. -/
import Derived.Test.YtkcdbndpcabelaaM5
set_option linter.unusedSimpArgs false
set_option linter.unusedVariables false

/- Chapter 02: Covers (33): what the loops over copies come to. -/
namespace Go.Proofs.Ytkcdbndpcabelaa
open Go Go.AE
set_option maxRecDepth 100000
theorem findC_push {e : Int × Int} {c : Int} : ∀ {S : List ((Int × Int) × Int)}, findC e S = none → findC e (S ++ [(e, c)]) = some S.length
  | [], _ => by simp [findC]
  | x :: S, h => by
    have h1 := findC_none.1 h
    have h2 : findC e S = none := findC_none.2 fun y hy => h1 y (List.mem_cons_of_mem _ hy)
    rw [List.cons_append, show findC e (x :: (S ++ [(e, c)])) = (if x.1 = e then some 0 else (findC e (S ++ [(e, c)])).map (· + 1)) from rfl, if_neg (h1 x (List.mem_cons_self ..)), findC_push h2]
    rfl
theorem setNth_last {α : Type} (l : List α) (x y : α) : setNth (l ++ [x]) l.length y = l ++ [y] := by
  rw [setNth_eq, List.set_append_right _ _ (Nat.le_refl _)]; simp
theorem esC_set (S : List ((Int × Int) × Int)) (i : Nat) (e : Int × Int) (c : Int) : setNth (esC S) i (keyC e, iD c) = esC (setNth S i (e, c)) := by
  rw [setNth_eq, setNth_eq]; unfold esC; rw [List.map_set]
/-- Numbers that are not too great. -/
def cntB (B : Int) (S : List ((Int × Int) × Int)) : Prop := ∀ x ∈ S, 1 ≤ x.2 ∧ x.2 ≤ B
theorem addC_B {B : Int} {e : Int × Int} {S : List ((Int × Int) × Int)} (hB : 0 ≤ B) (h : cntB B S) : cntB (B + 1) (addC e S) := by
  unfold addC
  cases hf : findC e S with
  | none =>
    intro x hx
    simp only [List.mem_append, List.mem_singleton] at hx
    rcases hx with hx | rfl
    · have := h x hx; omega
    · simp only; omega
  | some i =>
    obtain ⟨c, hc⟩ := findC_at hf
    simp only [hc]
    intro x hx
    rw [setNth_eq] at hx
    have hm := h (e, c) (mem_of_nth hc)
    simp only at hm
    rcases List.mem_or_eq_of_mem_set hx with hx | rfl
    · have := h x hx; omega
    · simp only; omega
theorem W33_ok {X : Type} {B : Int} (hB : B ≤ 100000) {e : Int × Int} {S : List ((Int × Int) × Int)} (h : cntB B S) (K : List (DV × DV) → Option X) : W33 e (esC S) K = K (esC (addC e S)) := by
  unfold W33 addC
  rw [findM_C, Option.bind_some]
  cases hf : findC e S with
  | none =>
    dsimp only
    have h1 : esC S ++ [(keyC e, iD 0)] = esC (S ++ [(e, 0)]) := by simp [esC]
    have h2 : findV aeT 90 (keyC e) (iD 0) (esC (S ++ [(e, 0)])) = some (iD 0) := by
      unfold findV
      rw [findM_C, findC_push hf, Option.bind_some]
      dsimp only
      rw [esC_nth, nth_append_len]; rfl
    rw [h1, h2, getI_some, Int.toNat_natCast, esC_len, esC_nth, nth_append_len]
    show K (setNth (esC (S ++ [(e, 0)])) S.length (keyC e, iD (IntKind.wrap IntKind.i64 (0 + 1)))) = _
    rw [esC_set, setNth_last, wrap64_o (by decide) (by decide)]
    rfl
  | some i =>
    dsimp only
    obtain ⟨c, hc⟩ := findC_at hf
    have hm := h (e, c) (mem_of_nth hc)
    simp only at hm
    have h2 : findV aeT 90 (keyC e) (iD 0) (esC S) = some (iD c) := by
      unfold findV
      rw [findM_C, hf, Option.bind_some]
      dsimp only
      rw [esC_nth, hc]; rfl
    rw [esC_nth, hc, h2]
    simp only [Option.map_some, Option.bind_some, getI_some, Int.toNat_natCast]
    rw [esC_nth, hc]
    simp only [Option.map_some, Option.bind_some]
    rw [esC_set, wrap64_o (by omega) (by omega)]
/-- Whether a pair is one of nodes. -/
def okE (sz : Int) (e : Int × Int) : Bool := decide (0 ≤ e.1) && (decide (e.1 < e.2) && decide (e.2 < sz))
/-- The edges of one copy; of all. -/
def runC (sz : Int) : List (Int × Int) → List ((Int × Int) × Int) → Option (List ((Int × Int) × Int))
  | [], S => some S
  | e :: r, S => bif okE sz e then runC sz r (addC e S) else none
def runR (sz : Int) : List (List (Int × Int)) → List ((Int × Int) × Int) → Option (List ((Int × Int) × Int))
  | [], S => some S
  | E :: r, S => bif decide (20 < E.length) then none else (runC sz E S).bind (runR sz r)
theorem runC_B {sz : Int} : ∀ {r : List (Int × Int)} {S S' : List ((Int × Int) × Int)} {B : Int}, 0 ≤ B → cntB B S → runC sz r S = some S' → cntB (B + r.length) S'
  | [], S, S', B, _, h, e => by cases e; simpa using h
  | e :: r, S, S', B, hB, h, hr => by
    unfold runC at hr
    obtain ⟨_, hr⟩ := cond_none hr
    have := runC_B (B := B + 1) (by omega) (addC_B hB h) hr
    simp only [List.length_cons]
    have e : (B + ((r.length + 1 : Nat) : Int)) = B + 1 + r.length := by omega
    rw [e]; exact this
/-- Rows as data. -/
def rowZ (r : List (Int × Int)) (c z : Bool) : DV := .sl (edD r) r.length 2 c z
/-- Whether these are the rows of those. -/
def isRows : List DV → List (List (Int × Int)) → Prop
  | [], [] => True
  | d :: ds, r :: rs => (∃ c z, d = rowZ r c z) ∧ isRows ds rs
  | _, _ => False
theorem isRows_len : ∀ {D : List DV} {R : List (List (Int × Int))}, isRows D R → D.length = R.length
  | [], [], _ => rfl
  | _ :: _, _ :: _, h => by simp only [List.length_cons]; rw [isRows_len h.2]
  | [], _ :: _, h => h.elim
  | _ :: _, [], h => h.elim
theorem isRows_nth : ∀ {D : List DV} {R : List (List (Int × Int))} {i : Nat} {r : List (Int × Int)}, isRows D R → R[i]? = some r → ∃ c z, nth D i = some (rowZ r c z)
  | [], [], i, r, _, h => by simp at h
  | d :: D, x :: R, 0, r, h, e => by
    simp only [List.getElem?_cons_zero, Option.some.injEq] at e
    subst e
    obtain ⟨c, z, rfl⟩ := h.1
    exact ⟨c, z, rfl⟩
  | d :: D, x :: R, i + 1, r, h, e => by
    simp only [List.getElem?_cons_succ] at e
    exact isRows_nth (D := D) h.2 e
  | [], _ :: _, _, _, h, _ => h.elim
  | _ :: _, [], _, _, h, _ => h.elim
/-- What a loop comes to: the next state, or it is refused. -/
def outC (sz : Int) (D : List DV) (n : Nat) (nl : Bool) (i : Int) : Option (List ((Int × Int) × Int)) → Ex × St
  | some S => (.exit 2, s330 sz D n nl (esC S) i)
  | none => (.ret, bad33)
theorem loop332 (sz : Int) (D : List DV) (n : Nat) (nl : Bool) (i : Int) (E : List (Int × Int)) (hE : E.length ≤ 20) (z : Bool) : ∀ (r : List (Int × Int)) (k : Nat) (S : List ((Int × Int) × Int)) (B : Int), 0 ≤ B → B + r.length ≤ 100000 → cntB B S → E.drop k = r →
    LoopAt aeC Ev.nil 33 0 Try.f33 2 (s332 sz D n nl (esC S) i (edD E) E.length z k) (outC sz D n nl i (runC sz r S)).1 (outC sz D n nl i (runC sz r S)).2
  | [], k, S, B, _, _, _, hd => by
    have := drop_nil_o hd
    exact .out k33_2 (by simp [outC, runC]) ((t33_2 ..).trans (cnd_neg (by omega)))
  | e :: r, k, S, B, h0, hB, h, hd => by
    obtain ⟨h1, h2, h3⟩ := drop_cons_o (d := (0, 0)) hd
    simp only [List.length_cons] at hB
    have hr : startS aeC Ev.nil 33 0 Try.f33 (some 2) (s332 sz D n nl (esC S) i (edD E) E.length z k) (roundD aeC 33 0 2) = bif okE sz e then some (Ex.norm, s332 sz D n nl (esC (addC e S)) i (edD E) E.length z ((k + 1 : Nat) : Int)) else some (Ex.ret, bad33) := by
      refine (t33_2 ..).trans ((cnd_pos (by omega)).trans ((inR_pos (by omega) (by omega)).trans ?_))
      rw [Int.toNat_natCast, nth_pr1 h1, nth_pr2 h1, h2, getI_some, getI_some]
      have hw : IntKind.wrap .i64 ((k : Int) + 1) = ((k + 1 : Nat) : Int) := by rw [wrap64_o (by omega) (by omega)]; rfl
      unfold okE
      by_cases c1 : e.1 < 0
      · rw [decide_eq_true c1, decide_eq_false (show ¬ 0 ≤ e.1 by omega)]; rfl
      by_cases c2 : e.2 ≤ e.1
      · rw [decide_eq_false c1, decide_eq_true c2, decide_eq_true (show 0 ≤ e.1 by omega), decide_eq_false (show ¬ e.1 < e.2 by omega)]; rfl
      by_cases c3 : sz ≤ e.2
      · rw [decide_eq_false c1, decide_eq_false c2, decide_eq_true c3, decide_eq_true (show 0 ≤ e.1 by omega), decide_eq_true (show e.1 < e.2 by omega), decide_eq_false (show ¬ e.2 < sz by omega)]; rfl
      rw [decide_eq_false c1, decide_eq_false c2, decide_eq_false c3, decide_eq_true (show 0 ≤ e.1 by omega), decide_eq_true (show e.1 < e.2 by omega), decide_eq_true (show e.2 < sz by omega)]
      simp only [cond_false, Bool.and_self, cond_true]
      rw [show ((e.1, e.2) : Int × Int) = e from rfl, W33_ok (by omega) h, hw]
    unfold runC
    cases ho : okE sz e with
    | true =>
      rw [ho] at hr
      exact .next k33_2 hr (loop332 sz D n nl i E hE z r (k + 1) (addC e S) (B + 1) (by omega) (by omega) (addC_B h0 h) h3)
    | false =>
      rw [ho] at hr
      exact .out k33_2 (by simp [outC]) hr
def outR (sz : Int) : Option (List ((Int × Int) × Int)) → Ex × St
  | some S => (.exit 0, ⟨[(0, .d (iD sz)), (6, AV.mp 0)], [.mp (esC S)], []⟩)
  | none => (.ret, bad33)
theorem loop330 (sz : Int) (D : List DV) (R : List (List (Int × Int))) (hD : isRows D R) (nl : Bool) (hn : R.length ≤ 40) : ∀ (r : List (List (Int × Int))) (i : Nat) (S : List ((Int × Int) × Int)) (B : Int), 0 ≤ B → B + 20 * r.length ≤ 100000 → cntB B S → R.drop i = r →
    LoopAt aeC Ev.nil 33 0 Try.f33 0 (s330 sz D R.length nl (esC S) i) (outR sz (runR sz r S)).1 (outR sz (runR sz r S)).2
  | [], i, S, B, _, _, _, hd => by
    have := drop_nil_o hd
    exact .out k33_0 (by simp [outR, runR]) ((t33_0x ..).trans (cnd_neg (by omega)))
  | E :: r, i, S, B, h0, hB, h, hd => by
    obtain ⟨h1, h2, h3⟩ := drop_cons_o (d := []) hd
    simp only [List.length_cons] at hB
    obtain ⟨c, z, hx⟩ := isRows_nth (i := i) (r := E) hD (by rw [List.getD_eq_getElem?_getD] at h2; rw [List.getElem?_eq_getElem h1] at h2 ⊢; simpa using h2)
    have e1 : Int.toNat (i : Int) * 1 = i := by simp
    unfold runR
    by_cases hl : 20 < E.length
    · rw [decide_eq_true hl]
      refine .out k33_0 (by simp [outR]) ((t33_0x ..).trans ((cnd_pos (by omega)).trans ((inR_pos (by omega) (by omega)).trans ?_)))
      rw [e1, hx, rowZ, getS_some, decide_eq_true (show 20 < (E.length : Int) by omega)]
      simp only [Nat.beq_refl, Bool.or_true, cond_true]
      rfl
    · rw [decide_eq_false hl, cond_false]
      have hh : startS aeC Ev.nil 33 0 Try.f33 (some 0) (s330 sz D R.length nl (esC S) i) (heldD aeC 33 0) = some (2, s332 sz D R.length nl (esC S) i (edD E) E.length z (0 : Nat)) := by
        refine (t33_0 ..).trans ((cnd_pos (by omega)).trans ((inR_pos (by omega) (by omega)).trans ?_))
        rw [e1, hx, rowZ, getS_some, decide_eq_false (show ¬ 20 < (E.length : Int) by omega)]
        simp only [Nat.beq_refl, Bool.or_true, cond_true, cond_false]
        rfl
      have hL := loop332 sz D R.length nl i E (by omega) z E 0 S B h0 (by omega) h (List.drop_zero ..)
      have hw : IntKind.wrap .i64 ((i : Int) + 1) = ((i + 1 : Nat) : Int) := by rw [wrap64_o (by omega) (by omega)]; rfl
      cases hr : runC sz E S with
      | none =>
        rw [hr] at hL
        exact .outF k33_0 (by simp [outR]) ((startF_seg k33_0 hh hL).trans (nextF_done k33_0 roundD_plain t33_r))
      | some S' =>
        rw [hr] at hL
        refine .nextF k33_0 ((startF_seg k33_0 hh hL).trans (nextF_done k33_0 roundD_plain ((t33_n ..).trans ?_))) (loop330 sz D R hD nl hn r (i + 1) S' (B + E.length) (by omega) (by omega) (runC_B h0 h hr) h3)
        rw [hw]
end Go.Proofs.Ytkcdbndpcabelaa

/- Chapter 02: Covers (33): its contract. -/
namespace Go.Proofs.Ytkcdbndpcabelaa
open Go Go.AE
set_option maxRecDepth 100000
noncomputable def b33 : Code := match Try.f33.body with | some c => c | none => .skip
theorem b33_is : Try.f33.body = some b33 := by kernel_rfl
theorem fn33 : tget aeF 33 = some Try.f33 := by kernel_rfl
theorem nt33 : Try.f33.ntmps = 84 := by kernel_rfl
noncomputable abbrev res33 : List Nat := resTmps Try.f33.results.toList
noncomputable abbrev cE33 {X : Type} (E : Ev) (bid : Nat) (c : Code) (s : St) (D : Ex → St → Option X) : Option X := codeE aeC E 33 0 20 res33 (some 84) bid c s D
noncomputable abbrev cC33 {X : Type} (E : Ev) (bid : Nat) (cs : List Code) (F : St → Option X) (s : St) : Option X := chainE aeC E 33 0 20 res33 (some 84) bid cs F s
noncomputable abbrev td33 (bid : Nat) (s : St) : Option St := tidyP 0 (aeC.pol 33 bid) s
noncomputable def P33 : Code := back 3 b33
noncomputable def Q33 : Code := back 4 b33
noncomputable def M33 : Code := kid 0 (kid 0 (kid 1 (kid 0 Q33)))
def g33 (sz : Int) (es : List (DV × DV)) : St := ⟨[(0, .d (iD sz)), (6, AV.mp 0)], [.mp es], []⟩
def T33 (sz : Int) (es : List (DV × DV)) (seen : List Nat) : St := ⟨[(0, .d (iD sz)), (6, AV.mp 0), (69, AV.ref 1 0)], [.mp es, .mit 0 es.length seen], []⟩
def U33 (b : Bool) (v : List DV) (sz : Int) (es : List (DV × DV)) (n : Nat) (seen : List Nat) : St := ⟨[(71, .d (bD b)), (70, .d (DV.tup v)), (0, .d (iD sz)), (6, AV.mp 0), (69, AV.ref 1 0)], [.mp es, .mit 0 n seen], []⟩
def many33 : St := ⟨[(4, .d (bD false)), (5, .d (iD 0))], [], []⟩
theorem p33_0 (sz : Int) (R : List DV) (n : Nat) (nl : Bool) : cC33 Ev.nil 0 (spineC 3 b33) (cC33 Ev.nil 0 (spineC 1 (kid 0 P33)) (td33 0)) ⟨envOf 0 [.d (iD sz), .d (.sl R n 1 false nl)], [], []⟩ =
  bif decide (sz < 2) then none else bif decide (21 < sz) then none else bif decide (40 < (n : Int)) then none else some (s330 sz R n nl [] 0) := by kernel_rfl
theorem p33_1 (sz : Int) (es : List (DV × DV)) : cC33 Ev.nil 0 (spineC 1 (kid 0 Q33)) (td33 4) (g33 sz es) = some (T33 sz es []) := by kernel_rfl
theorem p33_2 (sz : Int) (es : List (DV × DV)) (seen : List Nat) : runE aeC Ev.nil (opsOf (kid 0 M33)) (opsOf (kid 0 M33)).tail (putE (some 70) (.d (.tup [.bool false])) (T33 sz es seen).env) (T33 sz es seen).heap (fun env h => some (⟨env, h, []⟩ : St)) = some (U33 false [bD false] sz es es.length seen) := by kernel_rfl
theorem p33_3 (sz : Int) (es : List (DV × DV)) (n : Nat) (seen : List Nat) (k x : DV) : runE aeC Ev.nil (opsOf (kid 0 M33)) (opsOf (kid 0 M33)).tail (putE (some 70) (.d (.tup [.bool true, k, x])) (T33 sz es []).env) [.mp es, .mit 0 n seen] (fun env h => some (⟨env, h, []⟩ : St)) = some (U33 true [bD true, k, x] sz es n seen) := by kernel_rfl
theorem p33_4 (sz : Int) (es : List (DV × DV)) (seen : List Nat) : cE33 Ev.nil 4 (kid 1 M33) (U33 false [bD false] sz es es.length seen) (fun ex s => some (ex, s)) = some (Ex.exit 4, g33 sz es) := by kernel_rfl
theorem p33_5 (sz : Int) (es : List (DV × DV)) (n : Nat) (seen : List Nat) (k x : DV) : cE33 Ev.nil 4 (kid 1 M33) (U33 true [bD true, k, x] sz es n seen) (roundD aeC 33 0 4) =
  entW seen es n fun _ x => getI (some x) fun c => bif decide (1 < c) then some (Ex.ret, many33) else some (Ex.norm, ⟨(T33 sz es seen).env, [.mp es, .mit 0 n seen], []⟩) := by kernel_rfl
theorem p33_6 (sz : Int) (es : List (DV × DV)) : cE33 Ev.nil 0 (kid 1 Q33) (g33 sz es) (doneE aeC Try.f33 0 fun v h => freezeP 33 h v) =
  some (DV.tup [bD (decide ((es.length : Int) = IntKind.wrap IntKind.i64 (Int.tdiv (IntKind.wrap IntKind.i64 (sz * IntKind.wrap IntKind.i64 (sz - 1))) 2))), iD 0]) := by kernel_rfl
theorem p33_7 : doneE aeC Try.f33 0 (fun v h => freezeP 33 h v) .ret many33 = some (.tup [bD false, iD 0]) := by kernel_rfl
theorem p33_8 : doneE aeC Try.f33 0 (fun v h => freezeP 33 h v) .ret bad33 = some (.tup [bD false, iD 1]) := by kernel_rfl
abbrev Sat33 (w : World) (σ : Sg) (c : Code) (s : St) (Post : Ex → St → Prop) : Prop := Sat Try.prog aeC 33 84 none 0 w σ [] c s Post
theorem ho33 : ∀ M, some 84 = some M → M = 84 ∧ (none : Option Nat) = none := fun M h => by cases h; exact ⟨rfl, rfl⟩
/-- How many pairs there are. -/
def pairsN (sz : Int) : Int := IntKind.wrap IntKind.i64 (Int.tdiv (IntKind.wrap IntKind.i64 (sz * IntKind.wrap IntKind.i64 (sz - 1))) 2)
/-- What is answered of a map. -/
def ans33 (sz : Int) : Option (List ((Int × Int) × Int)) → DV
  | none => .tup [bD false, iD 1]
  | some S => .tup [bD (S.all (fun x => decide (x.2 ≤ 1)) && decide ((S.length : Int) = pairsN sz)), iD 0]
section
variable {w : World} {σ : Sg}
theorem Sat33.code {E : Ev} (hV : EvOK Try.prog E) (hi : HInv w σ []) {c : Code} (bid : Nat) {s : St} {X : Type} (D : Ex → St → Option X) {x : X} (h : cE33 E bid c s D = some x) : Sat33 w σ c s fun ex s' => D ex s' = some x :=
  Sat.code' ae_T ae_Q ae_mixed hV ho33 hi D h
theorem Sat33.spine {E : Ev} (hV : EvOK Try.prog E) (hi : HInv w σ []) {c : Code} (bid m : Nat) {s : St} {Post : Ex → St → Prop} {X : Type} {x : X} (F : St → Option X) (ha : allSeq m c = true) (h : cC33 E bid (spineC m c) F s = some x) (hF : ∀ s', F s' = some x → Sat33 w σ (back m c) s' Post) : Sat33 w σ c s Post :=
  Sat.spine ae_T ae_Q ae_mixed hV ho33 hi F m c s ha h hF
/-- The range over the map. -/
theorem map33 (hi : HInv w σ []) (sz : Int) (S : List ((Int × Int) × Int)) {s : St} (hs : td33 4 s = some (T33 sz (esC S) [])) :
    Sat33 w σ (kid 1 (kid 0 Q33)) s fun ex s' => (ex = .ret ∧ s' = many33 ∧ S.all (fun x => decide (x.2 ≤ 1)) = false) ∨ (ex = .norm ∧ s' = g33 sz (esC S) ∧ S.all (fun x => decide (x.2 ≤ 1)) = true) := by
  refine Sat.block' (id := 4) (Q1 := fun ex s' => (ex = .ret ∧ s' = many33 ∧ S.all (fun x => decide (x.2 ≤ 1)) = false) ∨ (ex = .exit 4 ∧ s' = g33 sz (esC S) ∧ S.all (fun x => decide (x.2 ≤ 1)) = true)) (by kernel_rfl) ?_
    (fun s' h => by rcases h with h | h <;> cases h.1) (fun s' h => by
      rcases h with h | h
      · exact .inl h
      · cases h.1) (fun i s' h => by
      rcases h with h | h
      · cases h.1
      · obtain ⟨h1, h2⟩ := h
        cases h1
        exact .inr ⟨rfl, h2⟩)
  obtain ⟨o, rest, e1, e2, e3, e4, e5⟩ : ∃ (o : Oper) (rest : List Oper), opsOf (kid 0 M33) = o :: rest ∧ o.op = .next (.tmp 69) false ∧ o.guard = none ∧ o.dst = some 70 ∧ rest = (opsOf (kid 0 M33)).tail := ⟨(opsOf (kid 0 M33)).headD default, (opsOf (kid 0 M33)).tail, by kernel_rfl, by kernel_rfl, by kernel_rfl, by kernel_rfl, by kernel_rfl⟩
  refine Sat.mapLoop (es := esC S) (bid := 4) (x := .tmp 69) ae_T ae_Q EvOK.nil hi (by kernel_rfl) (by kernel_rfl) (by kernel_rfl) e1 e2 e3 (fun seen s => td33 4 s = some (T33 sz (esC S) seen) ∧ ∀ i ∈ seen, ∀ x, nth S i = some x → x.2 ≤ 1) ?_ [] s ⟨hs, by simp⟩
  rintro seen s ⟨h1, h2⟩
  refine ⟨_, 1, 0, h1, rfl, rfl, rfl, fun hall => ⟨U33 false [bD false] sz (esC S) (esC S).length seen, ?_, ?_⟩, fun i e hi' hns he => ⟨U33 true [bD true, e.1, e.2] sz (esC S) (esC S).length (seen ++ [i]), ?_, ?_⟩⟩
  · rw [e4, e5]; exact p33_2 ..
  · refine Sat.mono (Sat33.code EvOK.nil hi 4 (fun ex s => some (ex, s)) (p33_4 ..)) fun ex s' h => ?_
    simp only [Option.some.injEq, Prod.mk.injEq] at h
    obtain ⟨rfl, rfl⟩ := h
    refine ⟨by simp, .inr ⟨rfl, rfl, ?_⟩⟩
    rw [List.all_eq_true]
    intro x hx
    obtain ⟨j, hj, hx⟩ := List.getElem_of_mem hx
    have hn : nth S j = some x := by rw [nth_eq, List.getElem?_eq_getElem hj, hx]
    exact decide_eq_true (h2 j (hall j (by rw [esC_len]; exact hj)) x hn)
  · rw [e4, e5]; exact p33_3 sz (esC S) (esC S).length (seen ++ [i]) e.1 e.2
  · rw [esC_nth] at he
    simp only [Option.map_eq_some_iff] at he
    obtain ⟨x, hx, rfl⟩ := he
    have hr := p33_5 sz (esC S) (esC S).length (seen ++ [i]) (keyC x.1) (iD x.2)
    rw [entW_at (e := (keyC x.1, iD x.2)) (by rw [esC_nth, hx]; rfl), getI_some] at hr
    by_cases hc : 1 < x.2
    · rw [decide_eq_true hc] at hr
      refine Sat.mono (Sat33.code EvOK.nil hi 4 _ hr) fun ex s' h => ?_
      cases ex with
      | norm => simp [roundD] at h
      | exit i =>
        simp only [roundD] at h
        obtain ⟨_, h⟩ := cond_none h
        simp at h
      | ret =>
        simp only [roundD, Option.some.injEq, Prod.mk.injEq, true_and, cond_true] at h
        refine .inl ⟨rfl, h, ?_⟩
        rw [Bool.eq_false_iff]
        intro h3
        have := List.all_eq_true.1 h3 x (mem_of_nth hx)
        simp at this; omega
    · rw [decide_eq_false hc] at hr
      refine Sat.mono (Sat33.code EvOK.nil hi 4 _ hr) fun ex s' h => ?_
      cases ex with
      | norm =>
        simp only [roundD, Option.map_eq_some_iff, cond_false, Option.some.injEq, Prod.mk.injEq, true_and] at h
        obtain ⟨S', h3, rfl⟩ := h
        refine ⟨h3, fun j hj y hy => ?_⟩
        simp only [List.mem_append, List.mem_singleton] at hj
        rcases hj with hj | rfl
        · exact h2 j hj y hy
        · rw [hx] at hy; cases hy; omega
      | exit i =>
        simp only [roundD] at h
        obtain ⟨_, h⟩ := cond_none h
        simp at h
      | ret => simp [roundD] at h
end
/-- The contract of Covers. -/
theorem covers_ok (sz : Int) (D : List DV) (R : List (List (Int × Int))) (hD : isRows D R) (nl : Bool) : PureOK Try.prog 33 [iD sz, .sl D R.length 1 false nl] (bif decide (sz < 2) || (decide (21 < sz) || decide (40 < R.length)) then .tup [bD false, iD 1] else ans33 sz (runR sz R [])) := by
  by_cases c1 : sz < 2
  · rw [decide_eq_true c1]
    exact ae_pure EvOK.nil (fn := Try.f33) k33 (by kernel_rfl) (by kernel_rfl) (startF_done k33 done_plain ((t33_d ..).trans (cnd_pos c1)))
  by_cases c2 : 21 < sz
  · rw [decide_eq_false c1, decide_eq_true c2]
    exact ae_pure EvOK.nil (fn := Try.f33) k33 (by kernel_rfl) (by kernel_rfl) (startF_done k33 done_plain ((t33_d ..).trans ((cnd_neg c1).trans (cnd_pos c2))))
  by_cases c3 : 40 < R.length
  · rw [decide_eq_false c1, decide_eq_false c2, decide_eq_true c3]
    exact ae_pure EvOK.nil (fn := Try.f33) k33 (by kernel_rfl) (by kernel_rfl) (startF_done k33 done_plain ((t33_d ..).trans ((cnd_neg c1).trans ((cnd_neg c2).trans (cnd_pos (by omega))))))
  rw [decide_eq_false c1, decide_eq_false c2, decide_eq_false c3]
  simp only [Bool.or_false, cond_false]
  refine pure_of_sat (C := aeC) (fid := 33) ae_T (ae_fn fn33) b33_is (by kernel_rfl) fun w σ hi => ?_
  rw [nt33]
  refine Sat33.spine EvOK.nil hi 0 3 _ (by kernel_rfl) ((p33_0 ..).trans ((cnd_neg c1).trans ((cnd_neg c2).trans (cnd_neg (by omega))))) fun s1 h1 => ?_
  show Sat33 w σ P33 s1 _
  have hL := (loop330 sz D R hD nl (by omega) R 0 [] 0 (by decide) (by omega) (by simp [cntB]) (List.drop_zero ..)).loopR
  -- the loops over copies
  refine Sat.seq' (Q1 := fun ex s' => match runR sz R [] with
      | none => ex = .ret ∧ s' = bad33
      | some S => ex = .norm ∧ s' = g33 sz (esC S)) (by kernel_rfl) ?_ (fun s' h => ?_) (fun ex s' hne h => ?_)
  · refine Sat33.spine EvOK.nil hi 0 1 _ (by kernel_rfl) h1 fun s2 h2 => ?_
    have hl := hL s2 h2
    have hcode : kid 1 (kid 0 P33) = .block 0 (.loop (loopOf Try.f33 0)) := by kernel_rfl
    show Sat33 w σ (kid 1 (kid 0 P33)) s2 _
    rw [hcode]
    have hq := Sat.ofRuns (P := Try.prog) (n := 0) (ro := none) (N := 84) ae_T ae_Q ae_mixed EvOK.nil ho33 hi hl
    refine Sat.block hq ?_ ?_ ?_
    · rintro s' ⟨h3, h4⟩
      cases hr : runR sz R [] with
      | none => rw [hr] at h3; cases h3
      | some S => rw [hr] at h3; cases h3
    · rintro s' ⟨h3, h4⟩
      cases hr : runR sz R [] with
      | none => rw [hr] at h4; exact ⟨rfl, h4⟩
      | some S => rw [hr] at h3; cases h3
    · rintro i s' ⟨h3, h4⟩
      cases hr : runR sz R [] with
      | none => rw [hr] at h3; cases h3
      | some S =>
        rw [hr] at h3 h4
        cases h3
        exact ⟨rfl, h4⟩
  · cases hr : runR sz R [] with
    | none => rw [hr] at h; cases h.1
    | some S =>
      rw [hr] at h
      obtain ⟨-, rfl⟩ := h
      show Sat33 w σ Q33 _ _
      refine Sat.seq' (Q1 := fun ex s' => (ex = .ret ∧ s' = many33 ∧ S.all (fun x => decide (x.2 ≤ 1)) = false) ∨ (ex = .norm ∧ s' = g33 sz (esC S) ∧ S.all (fun x => decide (x.2 ≤ 1)) = true)) (by kernel_rfl) ?_ (fun s' h => ?_) (fun ex s' hne h => ?_)
      · exact Sat33.spine EvOK.nil hi 0 1 _ (by kernel_rfl) (p33_1 sz (esC S)) fun s2 h2 => map33 hi sz S h2
      · rcases h with h | ⟨-, rfl, h⟩
        · cases h.1
        · refine Sat.mono (Sat33.code EvOK.nil hi 0 _ (p33_6 sz (esC S))) fun ex s' h3 => ?_
          rw [h3, esC_len]
          unfold ans33 pairsN
          dsimp only
          rw [h]; rfl
      · rcases h with ⟨rfl, rfl, h⟩ | h
        · rw [p33_7]
          unfold ans33
          dsimp only
          rw [h]; rfl
        · exact absurd h.1 hne
  · cases hr : runR sz R [] with
    | none =>
      rw [hr] at h
      obtain ⟨rfl, rfl⟩ := h
      exact p33_8
    | some S => rw [hr] at h; exact absurd h.1 hne
end Go.Proofs.Ytkcdbndpcabelaa

/- Chapter 02: the document's Right (34) and Covers (35). -/
namespace Go.Proofs.Ytkcdbndpcabelaa
open Go Go.AE
set_option maxRecDepth 100000
def s340 (sz : Int) (R : List DV) (n : Nat) (nl : Bool) (i : Int) : St := ⟨[(0, .d (iD sz)), (1, .d (.sl R n 1 false nl)), (5, .d (iD i))], [], []⟩
def s342 (sz : Int) (R : List DV) (n : Nat) (nl : Bool) (i k : Int) : St := ⟨[(0, .d (iD sz)), (1, .d (.sl R n 1 false nl)), (5, .d (iD i)), (6, .d (iD k))], [], []⟩
def no4 : St := ⟨[(4, .d (bD false))], [], []⟩
def nd (X : Type) : Option X := none
/-- A row of rows. -/
def getR {X : Type} (R : List DV) (n : Nat) (i : Int) (K : List DV → Nat → Bool → Option X) : Option X :=
  bif inRange i n then (getS (nth R (Int.toNat i * 1)) fun cs0 n0 sz0 _ nl0 => bif nl0 || Nat.beq sz0 2 then K cs0 n0 nl0 else none) else none
theorem getR_at {X : Type} {D : List DV} {R : List (List (Int × Int))} (hD : isRows D R) {i : Nat} (hi : i < R.length) (K : List DV → Nat → Bool → Option X) : ∃ z, getR D R.length i K = K (edD (R.getD i [])) (R.getD i []).length z := by
  obtain ⟨c, z, hx⟩ := isRows_nth (i := i) (r := R.getD i []) hD (by rw [List.getD_eq_getElem?_getD, List.getElem?_eq_getElem hi]; rfl)
  refine ⟨z, ?_⟩
  unfold getR
  have e1 : Int.toNat (i : Int) * 1 = i := by simp
  refine (inR_pos (by omega) (by omega)).trans ?_
  rw [e1, hx, rowZ, getS_some]
  simp
theorem t34_h (sz : Int) (R : List DV) (n : Nat) (nl : Bool) : startS aeC Ev.nil 34 0 Try.f34 none ⟨envOf 0 [.d (iD sz), .d (.sl R n 1 false nl)], [], []⟩ (heldD aeC 34 0) =
  bif decide (sz < 2) then none else bif decide (21 < sz) then none else bif decide (40 < (n : Int)) then none else some (0, s340 sz R n nl 0) := by kernel_rfl
theorem t34_d (sz : Int) (R : List DV) (n : Nat) (nl : Bool) : startS aeC Ev.nil 34 0 Try.f34 none ⟨envOf 0 [.d (iD sz), .d (.sl R n 1 false nl)], [], []⟩ (doneE aeC Try.f34 0 fun v h => freezeP 34 h v) =
  bif decide (sz < 2) then some (bD false) else bif decide (21 < sz) then some (bD false) else bif decide (40 < (n : Int)) then some (bD false) else none := by kernel_rfl
theorem t34_0 (sz : Int) (R : List DV) (n : Nat) (nl : Bool) (i : Int) : startS aeC Ev.nil 34 0 Try.f34 (some 0) (s340 sz R n nl i) (heldD aeC 34 0) =
  bif decide (i < (n : Int)) then (getR R n i fun _ m _ => bif decide (20 < (m : Int)) then none else some (2, s342 sz R n nl i 0)) else none := by kernel_rfl
theorem t34_0x (sz : Int) (R : List DV) (n : Nat) (nl : Bool) (i : Int) : startS aeC Ev.nil 34 0 Try.f34 (some 0) (s340 sz R n nl i) (roundD aeC 34 0 0) =
  bif decide (i < (n : Int)) then (getR R n i fun _ m _ => bif decide (20 < (m : Int)) then some (Ex.ret, no4) else none) else some (Ex.exit 0, ⟨[], [], []⟩) := by kernel_rfl
theorem t34_2 (sz : Int) (R : List DV) (n : Nat) (nl : Bool) (i k : Int) : startS aeC Ev.nil 34 0 Try.f34 (some 2) (s342 sz R n nl i k) (roundD aeC 34 0 2) =
  getR R n i fun _ m _ => bif decide (k < (m : Int)) then (getR R n i fun cs m _ => bif inRange k m then (getI (nth cs (Int.toNat k * 2)) fun x2 => getI (nth cs (Int.toNat k * 2 + 1)) fun x3 =>
    bif decide (x2 < 0) then some (Ex.ret, no4) else bif decide (x3 ≤ x2) then some (Ex.ret, no4) else bif decide (sz ≤ x3) then some (Ex.ret, no4) else some (Ex.norm, s342 sz R n nl i (IntKind.wrap IntKind.i64 (k + 1)))) else none) else some (Ex.exit 2, s340 sz R n nl i) := by kernel_rfl
theorem t34_n (sz : Int) (R : List DV) (n : Nat) (nl : Bool) (i : Int) : nextS aeC Ev.nil 34 0 Try.f34 (some 0) 2 (.exit 2) (s340 sz R n nl i) (roundD aeC 34 0 0) = some (Ex.norm, s340 sz R n nl (IntKind.wrap IntKind.i64 (i + 1))) := by kernel_rfl
theorem t34_r  : nextS aeC Ev.nil 34 0 Try.f34 (some 0) 2 .ret no4 (roundD aeC 34 0 0) = some (Ex.ret, no4) := by kernel_rfl
theorem t34_r2  : nextS aeC Ev.nil 34 0 Try.f34 none 0 .ret no4 (doneE aeC Try.f34 0 fun v h => freezeP 34 h v) = some (bD false) := by kernel_rfl
theorem t34_e  : nextS aeC Ev.nil 34 0 Try.f34 none 0 (.exit 0) ⟨[], [], []⟩ (doneE aeC Try.f34 0 fun v h => freezeP 34 h v) = some (bD true) := by kernel_rfl
theorem k34 : OkSeg Try.f34 none [0] := ⟨by kernel_rfl, by kernel_rfl, by decide⟩
theorem k34_0 : OkSeg Try.f34 (some 0) [2] := ⟨by kernel_rfl, by kernel_rfl, by decide⟩
theorem k34_2 : OkSeg Try.f34 (some 2) [] := ⟨by kernel_rfl, by kernel_rfl, by decide⟩
theorem wr1 {n : Nat} (h : n ≤ 100000) : IntKind.wrap .i64 ((n : Int) + 1) = ((n + 1 : Nat) : Int) := by rw [wrap64_o (by omega) (by omega)]; rfl
theorem okE_cond {X : Type} (sz : Int) (e : Int × Int) (bad good : X) : (bif decide (e.1 < 0) then bad else bif decide (e.2 ≤ e.1) then bad else bif decide (sz ≤ e.2) then bad else good) = bif okE sz e then good else bad := by
  unfold okE
  by_cases c1 : e.1 < 0
  · rw [decide_eq_true c1, decide_eq_false (show ¬ 0 ≤ e.1 by omega)]; rfl
  by_cases c2 : e.2 ≤ e.1
  · rw [decide_eq_false c1, decide_eq_true c2, decide_eq_true (show 0 ≤ e.1 by omega), decide_eq_false (show ¬ e.1 < e.2 by omega)]; rfl
  by_cases c3 : sz ≤ e.2
  · rw [decide_eq_false c1, decide_eq_false c2, decide_eq_true c3, decide_eq_true (show 0 ≤ e.1 by omega), decide_eq_true (show e.1 < e.2 by omega), decide_eq_false (show ¬ e.2 < sz by omega)]; rfl
  rw [decide_eq_false c1, decide_eq_false c2, decide_eq_false c3, decide_eq_true (show 0 ≤ e.1 by omega), decide_eq_true (show e.1 < e.2 by omega), decide_eq_true (show e.2 < sz by omega)]
  rfl
/-- Whether all rows are right. -/
def okR (sz : Int) (R : List (List (Int × Int))) : Bool := R.all fun E => Nat.ble E.length 20 && E.all (okE sz)
theorem loop342 (sz : Int) (D : List DV) (R : List (List (Int × Int))) (hD : isRows D R) (nl : Bool) {i : Nat} (hi : i < R.length) (hl : (R.getD i []).length ≤ 20) : ∀ (r : List (Int × Int)) (k : Nat), (R.getD i []).drop k = r →
    LoopAt aeC Ev.nil 34 0 Try.f34 2 (s342 sz D R.length nl i k) (bif r.all (okE sz) then .exit 2 else .ret) (bif r.all (okE sz) then s340 sz D R.length nl i else no4)
  | [], k, hd => by
    have := drop_nil_o hd
    obtain ⟨z, hz⟩ := getR_at hD hi fun _ m _ => bif decide ((k : Int) < (m : Int)) then _ else some (Ex.exit 2, s340 sz D R.length nl i)
    exact .out k34_2 (by simp) ((t34_2 ..).trans (hz.trans (cnd_neg (by omega))))
  | e :: r, k, hd => by
    obtain ⟨h1, h2, h3⟩ := drop_cons_o (d := (0, 0)) hd
    have hr : startS aeC Ev.nil 34 0 Try.f34 (some 2) (s342 sz D R.length nl i k) (roundD aeC 34 0 2) = bif okE sz e then some (Ex.norm, s342 sz D R.length nl i ((k + 1 : Nat) : Int)) else some (Ex.ret, no4) := by
      refine (t34_2 ..).trans ?_
      obtain ⟨z, hz⟩ := getR_at hD hi fun _ m _ => bif decide ((k : Int) < (m : Int)) then (getR D R.length i fun cs m _ => bif inRange (k : Int) m then (getI (nth cs (Int.toNat (k : Int) * 2)) fun x2 => getI (nth cs (Int.toNat (k : Int) * 2 + 1)) fun x3 =>
        bif decide (x2 < 0) then some (Ex.ret, no4) else bif decide (x3 ≤ x2) then some (Ex.ret, no4) else bif decide (sz ≤ x3) then some (Ex.ret, no4) else some (Ex.norm, s342 sz D R.length nl i (IntKind.wrap IntKind.i64 ((k : Int) + 1)))) else none) else some (Ex.exit 2, s340 sz D R.length nl i)
      refine hz.trans ((cnd_pos (by omega)).trans ?_)
      obtain ⟨z, hz⟩ := getR_at hD hi fun cs m _ => bif inRange (k : Int) m then (getI (nth cs (Int.toNat (k : Int) * 2)) fun x2 => getI (nth cs (Int.toNat (k : Int) * 2 + 1)) fun x3 =>
        bif decide (x2 < 0) then some (Ex.ret, no4) else bif decide (x3 ≤ x2) then some (Ex.ret, no4) else bif decide (sz ≤ x3) then some (Ex.ret, no4) else some (Ex.norm, s342 sz D R.length nl i (IntKind.wrap IntKind.i64 ((k : Int) + 1)))) else none
      refine hz.trans ((inR_pos (by omega) (by omega)).trans ?_)
      rw [Int.toNat_natCast, nth_pr1 h1, nth_pr2 h1, h2, getI_some, getI_some, okE_cond, wr1 (by omega)]
    rw [List.all_cons]
    cases ho : okE sz e with
    | true =>
      rw [ho] at hr
      exact .next k34_2 hr (loop342 sz D R hD nl hi hl r (k + 1) h3)
    | false =>
      rw [ho] at hr
      exact .out k34_2 (by simp) hr
theorem loop340 (sz : Int) (D : List DV) (R : List (List (Int × Int))) (hD : isRows D R) (nl : Bool) (hn : R.length ≤ 40) : ∀ (r : List (List (Int × Int))) (i : Nat), R.drop i = r →
    LoopAt aeC Ev.nil 34 0 Try.f34 0 (s340 sz D R.length nl i) (bif okR sz r then .exit 0 else .ret) (bif okR sz r then ⟨[], [], []⟩ else no4)
  | [], i, hd => by
    have := drop_nil_o hd
    exact .out k34_0 (by simp [okR]) ((t34_0x ..).trans (cnd_neg (by omega)))
  | E :: r, i, hd => by
    obtain ⟨h1, h2, h3⟩ := drop_cons_o (d := []) hd
    unfold okR
    rw [List.all_cons]
    by_cases hl : 20 < E.length
    · have hb : Nat.ble E.length 20 = false := by rw [Bool.eq_false_iff, Ne, Nat.ble_eq]; omega
      rw [hb]
      obtain ⟨z, hz⟩ := getR_at hD h1 fun _ m _ => bif decide (20 < (m : Int)) then some (Ex.ret, no4) else none
      refine .out k34_0 (by simp) ((t34_0x ..).trans ((cnd_pos (by omega)).trans (hz.trans (cnd_pos (by rw [h2]; omega)))))
    · have hb : Nat.ble E.length 20 = true := by rw [Nat.ble_eq]; omega
      rw [hb, Bool.true_and]
      have hh : startS aeC Ev.nil 34 0 Try.f34 (some 0) (s340 sz D R.length nl i) (heldD aeC 34 0) = some (2, s342 sz D R.length nl i (0 : Nat)) := by
        obtain ⟨z, hz⟩ := getR_at hD h1 fun _ m _ => bif decide (20 < (m : Int)) then none else some (2, s342 sz D R.length nl i 0)
        exact (t34_0 ..).trans ((cnd_pos (by omega)).trans (hz.trans (cnd_neg (by rw [h2]; omega))))
      have hL := loop342 sz D R hD nl h1 (by rw [h2]; omega) E 0 (by rw [h2]; exact List.drop_zero ..)
      cases he : E.all (okE sz) with
      | false =>
        rw [he] at hL
        exact .outF k34_0 (by simp) ((startF_seg k34_0 hh hL).trans (nextF_done k34_0 roundD_plain t34_r))
      | true =>
        rw [he] at hL
        rw [Bool.true_and]
        refine .nextF k34_0 ((startF_seg k34_0 hh hL).trans (nextF_done k34_0 roundD_plain ((t34_n ..).trans ?_))) (loop340 sz D R hD nl hn r (i + 1) h3)
        rw [wr1 (by omega)]
def badR (sz : Int) (R : List (List (Int × Int))) : Bool := decide (sz < 2) || (decide (21 < sz) || decide (40 < R.length))
/-- The contract of Right. -/
theorem right_ok (sz : Int) (D : List DV) (R : List (List (Int × Int))) (hD : isRows D R) (nl : Bool) : PureOK Try.prog 34 [iD sz, .sl D R.length 1 false nl] (bD (!badR sz R && okR sz R)) := by
  unfold badR
  by_cases c1 : sz < 2
  · rw [decide_eq_true c1]
    exact ae_pure EvOK.nil (fn := Try.f34) k34 (by kernel_rfl) (by kernel_rfl) (startF_done k34 done_plain ((t34_d ..).trans (cnd_pos c1)))
  by_cases c2 : 21 < sz
  · rw [decide_eq_false c1, decide_eq_true c2]
    exact ae_pure EvOK.nil (fn := Try.f34) k34 (by kernel_rfl) (by kernel_rfl) (startF_done k34 done_plain ((t34_d ..).trans ((cnd_neg c1).trans (cnd_pos c2))))
  by_cases c3 : 40 < R.length
  · rw [decide_eq_false c1, decide_eq_false c2, decide_eq_true c3]
    exact ae_pure EvOK.nil (fn := Try.f34) k34 (by kernel_rfl) (by kernel_rfl) (startF_done k34 done_plain ((t34_d ..).trans ((cnd_neg c1).trans ((cnd_neg c2).trans (cnd_pos (by omega))))))
  rw [decide_eq_false c1, decide_eq_false c2, decide_eq_false c3]
  simp only [Bool.or_false, Bool.not_false, Bool.true_and]
  have hL := loop340 sz D R hD nl (by omega) R 0 (List.drop_zero ..)
  have hh := (t34_h sz D R.length nl).trans ((cnd_neg c1).trans ((cnd_neg c2).trans (cnd_neg (by omega))))
  cases ho : okR sz R with
  | true =>
    rw [ho] at hL
    exact ae_pure EvOK.nil (fn := Try.f34) k34 (by kernel_rfl) (by kernel_rfl) ((startF_seg k34 hh hL).trans (nextF_done k34 done_plain t34_e))
  | false =>
    rw [ho] at hL
    exact ae_pure EvOK.nil (fn := Try.f34) k34 (by kernel_rfl) (by kernel_rfl) ((startF_seg k34 hh hL).trans (nextF_done k34 done_plain t34_r2))
/-! ### Covers -/
def s350 (sz : Int) (R : List DV) (n : Nat) (nl : Bool) (N : Nat) (L : List DV) (i : Int) : St := ⟨[(0, .d (iD sz)), (1, .d (.sl R n 1 false nl)), (5, AV.row 0 0 N N 1 true), (6, .d (iD i))], [.dc L], []⟩
def s352 (sz : Int) (R : List DV) (n : Nat) (nl : Bool) (N : Nat) (L : List DV) (i k : Int) : St := ⟨[(0, .d (iD sz)), (1, .d (.sl R n 1 false nl)), (5, AV.row 0 0 N N 1 true), (6, .d (iD i)), (7, .d (iD k))], [.dc L], []⟩
def s354 (sz : Int) (N : Nat) (L : List DV) (a : Int) : St := ⟨[(0, .d (iD sz)), (5, AV.row 0 0 N N 1 true), (8, .d (iD a))], [.dc L], []⟩
def s356 (sz : Int) (N : Nat) (L : List DV) (a b : Int) : St := ⟨[(0, .d (iD sz)), (5, AV.row 0 0 N N 1 true), (8, .d (iD a)), (9, .d (iD b))], [.dc L], []⟩
def ixE (sz a b : Int) : Int := IntKind.wrap IntKind.i64 (IntKind.wrap IntKind.i64 (a * sz) + b)
theorem t35_h (sz : Int) (R : List DV) (n : Nat) (nl : Bool) : startS aeC Ev.nil 35 0 Try.f35 none ⟨envOf 0 [.d (iD sz), .d (.sl R n 1 false nl)], [], []⟩ (heldD aeC 35 0) =
  bif decide (0 ≤ IntKind.wrap IntKind.i64 (sz * sz)) && decide (IntKind.wrap IntKind.i64 (sz * sz) ≤ IntKind.wrap IntKind.i64 (sz * sz)) && decide (IntKind.wrap IntKind.i64 (sz * sz) ≤ 1048576) && true then
    some (0, s350 sz R n nl (Int.toNat (IntKind.wrap IntKind.i64 (sz * sz))) (List.replicate (Int.toNat (IntKind.wrap IntKind.i64 (sz * sz))) [iD 0]).flatten 0) else none := by kernel_rfl
theorem t35_0 (sz : Int) (R : List DV) (n : Nat) (nl : Bool) (N : Nat) (L : List DV) (i : Int) : startS aeC Ev.nil 35 0 Try.f35 (some 0) (s350 sz R n nl N L i) (heldD aeC 35 0) = bif decide (i < (n : Int)) then some (2, s352 sz R n nl N L i 0) else none := by kernel_rfl
theorem t35_0x (sz : Int) (R : List DV) (n : Nat) (nl : Bool) (N : Nat) (L : List DV) (i : Int) : startS aeC Ev.nil 35 0 Try.f35 (some 0) (s350 sz R n nl N L i) (roundD aeC 35 0 0) = bif decide (i < (n : Int)) then none else some (Ex.exit 0, ⟨[(0, .d (iD sz)), (5, AV.row 0 0 N N 1 true)], [.dc L], []⟩) := by kernel_rfl
theorem t35_2 (sz : Int) (R : List DV) (n : Nat) (nl : Bool) (N : Nat) (L : List DV) (i k : Int) : startS aeC Ev.nil 35 0 Try.f35 (some 2) (s352 sz R n nl N L i k) (roundD aeC 35 0 2) =
  getR R n i fun _ m _ => bif decide (k < (m : Int)) then (getR R n i fun cs m _ => bif inRange k m then (getI (nth cs (Int.toNat k * 2 + 0)) fun x2 => getR R n i fun cs m _ => bif inRange k m then (getI (nth cs (Int.toNat k * 2 + 1)) fun x4 =>
    bif inRange (ixE sz x2 x4) N && true then (getI (nth L (0 + Int.toNat (ixE sz x2 x4) * 1)) fun x5 => bif inRange (ixE sz x2 x4) N && true then (bif Nat.ble (0 + Int.toNat (ixE sz x2 x4) * 1 + 1) (List.length L) && true then
      some (Ex.norm, s352 sz R n nl N (setNth L (0 + Int.toNat (ixE sz x2 x4) * 1) (iD (IntKind.wrap IntKind.i64 (x5 + 1)))) i (IntKind.wrap IntKind.i64 (k + 1))) else none) else none) else none) else none) else none)
    else some (Ex.exit 2, s350 sz R n nl N L i) := by kernel_rfl
theorem t35_n (sz : Int) (R : List DV) (n : Nat) (nl : Bool) (N : Nat) (L : List DV) (i : Int) : nextS aeC Ev.nil 35 0 Try.f35 (some 0) 2 (.exit 2) (s350 sz R n nl N L i) (roundD aeC 35 0 0) = some (Ex.norm, s350 sz R n nl N L (IntKind.wrap IntKind.i64 (i + 1))) := by kernel_rfl
theorem t35_m (sz : Int) (N : Nat) (L : List DV) : nextS aeC Ev.nil 35 0 Try.f35 none 0 (.exit 0) ⟨[(0, .d (iD sz)), (5, AV.row 0 0 N N 1 true)], [.dc L], []⟩ (heldD aeC 35 0) = some (4, s354 sz N L 0) := by kernel_rfl
theorem t35_4 (sz : Int) (N : Nat) (L : List DV) (a : Int) : startS aeC Ev.nil 35 0 Try.f35 (some 4) (s354 sz N L a) (heldD aeC 35 0) = bif decide (a < sz) then some (6, s356 sz N L a (IntKind.wrap IntKind.i64 (a + 1))) else none := by kernel_rfl
theorem t35_4x (sz : Int) (N : Nat) (L : List DV) (a : Int) : startS aeC Ev.nil 35 0 Try.f35 (some 4) (s354 sz N L a) (roundD aeC 35 0 4) = bif decide (a < sz) then none else some (Ex.exit 4, ⟨[], [], []⟩) := by kernel_rfl
theorem t35_6 (sz : Int) (N : Nat) (L : List DV) (a b : Int) : startS aeC Ev.nil 35 0 Try.f35 (some 6) (s356 sz N L a b) (roundD aeC 35 0 6) =
  bif decide (b < sz) then (bif inRange (ixE sz a b) N && true then (getI (nth L (0 + Int.toNat (ixE sz a b) * 1)) fun x0 => bif !decide (x0 = 1) then some (Ex.ret, no4) else some (Ex.norm, s356 sz N L a (IntKind.wrap IntKind.i64 (b + 1)))) else none) else some (Ex.exit 6, s354 sz N L a) := by kernel_rfl
theorem t35_n4 (sz : Int) (N : Nat) (L : List DV) (a : Int) : nextS aeC Ev.nil 35 0 Try.f35 (some 4) 6 (.exit 6) (s354 sz N L a) (roundD aeC 35 0 4) = some (Ex.norm, s354 sz N L (IntKind.wrap IntKind.i64 (a + 1))) := by kernel_rfl
theorem t35_r  : nextS aeC Ev.nil 35 0 Try.f35 (some 4) 6 .ret no4 (roundD aeC 35 0 4) = some (Ex.ret, no4) := by kernel_rfl
theorem t35_r2  : nextS aeC Ev.nil 35 0 Try.f35 none 4 .ret no4 (doneE aeC Try.f35 0 fun v h => freezeP 35 h v) = some (bD false) := by kernel_rfl
theorem t35_e  : nextS aeC Ev.nil 35 0 Try.f35 none 4 (.exit 4) ⟨[], [], []⟩ (doneE aeC Try.f35 0 fun v h => freezeP 35 h v) = some (bD true) := by kernel_rfl
theorem k35 : OkSeg Try.f35 none [0, 4] := ⟨by kernel_rfl, by kernel_rfl, by decide⟩
theorem k35_0 : OkSeg Try.f35 (some 0) [2] := ⟨by kernel_rfl, by kernel_rfl, by decide⟩
theorem k35_2 : OkSeg Try.f35 (some 2) [] := ⟨by kernel_rfl, by kernel_rfl, by decide⟩
theorem k35_4 : OkSeg Try.f35 (some 4) [6] := ⟨by kernel_rfl, by kernel_rfl, by decide⟩
theorem k35_6 : OkSeg Try.f35 (some 6) [] := ⟨by kernel_rfl, by kernel_rfl, by decide⟩
/-- How often a pair is met. -/
def cnt (e : Int × Int) : List (Int × Int) → Int
  | [] => 0
  | x :: r => (if x = e then 1 else 0) + cnt e r
theorem cnt_app (e : Int × Int) : ∀ a b, cnt e (a ++ b) = cnt e a + cnt e b
  | [], b => by simp [cnt]
  | x :: a, b => by simp only [List.cons_append, cnt]; rw [cnt_app e a b]; omega
theorem cnt_pos (e : Int × Int) : ∀ a, 0 ≤ cnt e a ∧ cnt e a ≤ a.length
  | [] => by simp [cnt]
  | x :: a => by have := cnt_pos e a; simp only [cnt, List.length_cons]; split <;> omega
/-- A table of how often pairs are met. -/
def tabC (s : Nat) (F : List (Int × Int)) (L : List Int) : Prop := L.length = s * s ∧ ∀ a b : Nat, a < s → b < s → L.getD (a * s + b) 0 = cnt ((a : Int), (b : Int)) F
theorem ix_lt {s a b : Nat} (ha : a < s) (hb : b < s) : a * s + b < s * s := by
  have : (a + 1) * s ≤ s * s := Nat.mul_le_mul_right _ ha
  rw [Nat.add_mul, Nat.one_mul] at this
  omega
theorem ix_inj {s a b c d : Nat} (hb : b < s) (hd : d < s) (h : a * s + b = c * s + d) : a = c ∧ b = d := by
  have h1 : (a * s + b) / s = (c * s + d) / s := by rw [h]
  have hs : 0 < s := by omega
  rw [Nat.add_comm (a * s), Nat.add_comm (c * s), Nat.add_mul_div_right _ _ hs, Nat.add_mul_div_right _ _ hs, Nat.div_eq_of_lt hb, Nat.div_eq_of_lt hd] at h1
  have h2 : a = c := by omega
  subst h2
  exact ⟨rfl, by omega⟩
theorem ixE_nat {s a b : Nat} (hs : s ≤ 21) (ha : a < s) (hb : b < s) : ixE (s : Int) a b = ((a * s + b : Nat) : Int) := by
  unfold ixE
  have h := ix_lt ha hb
  have h2 : s * s ≤ 21 * 21 := Nat.mul_le_mul hs hs
  have h3 : (a : Int) * (s : Int) = ((a * s : Nat) : Int) := by simp
  rw [h3, wrap64_o (n := ((a * s : Nat) : Int)) (by omega) (by omega)]
  rw [wrap64_o (by omega) (by omega)]
  simp
theorem tabC_add {s : Nat} {F : List (Int × Int)} {L : List Int} (h : tabC s F L) {a b : Nat} (ha : a < s) (hb : b < s) : tabC s (F ++ [((a : Int), (b : Int))]) (L.set (a * s + b) (L.getD (a * s + b) 0 + 1)) := by
  have hlt := ix_lt ha hb
  refine ⟨by simpa using h.1, fun c d hc hd => ?_⟩
  rw [cnt_app, List.getD_eq_getElem?_getD, List.getElem?_set, ← h.2 c d hc hd]
  split
  · rename_i he
    obtain ⟨rfl, rfl⟩ := ix_inj hb hd he
    rw [if_pos (by rw [h.1]; exact hlt)]
    simp [cnt]
  · rename_i he
    have : ¬ (((a : Int), (b : Int)) = ((c : Int), (d : Int))) := by
      rintro e
      simp only [Prod.mk.injEq] at e
      apply he
      rw [show a = c by omega, show b = d by omega]
    simp [cnt, this, List.getD_eq_getElem?_getD]
section
variable {s : Nat} (hs : s ≤ 21) {D : List DV} {R : List (List (Int × Int))} (hD : isRows D R) (nl : Bool)
include hs hD
theorem loop352 {i : Nat} (hi : i < R.length) (hl : (R.getD i []).length ≤ 20) : ∀ (r : List (Int × Int)) (k : Nat) (F : List (Int × Int)) (L : List Int), F.length + r.length ≤ 10000 → (∀ e ∈ r, okE s e = true) → tabC s F L → (R.getD i []).drop k = r →
    ∃ L', tabC s (F ++ r) L' ∧ LoopAt aeC Ev.nil 35 0 Try.f35 2 (s352 s D R.length nl (s * s) (ints L) i k) (.exit 2) (s350 s D R.length nl (s * s) (ints L') i)
  | [], k, F, L, _, _, ht, hd => by
    have := drop_nil_o hd
    obtain ⟨z, hz⟩ := getR_at hD hi fun _ m _ => bif decide ((k : Int) < (m : Int)) then _ else some (Ex.exit 2, s350 s D R.length nl (s * s) (ints L) i)
    exact ⟨L, by simpa using ht, .out k35_2 (by simp) ((t35_2 ..).trans (hz.trans (cnd_neg (by omega))))⟩
  | e :: r, k, F, L, hB, hok, ht, hd => by
    obtain ⟨h1, h2, h3⟩ := drop_cons_o (d := (0, 0)) hd
    have ho := hok e (List.mem_cons_self ..)
    simp only [okE, Bool.and_eq_true, decide_eq_true_eq] at ho
    obtain ⟨a, ha⟩ : ∃ a : Nat, e.1 = a := ⟨e.1.toNat, by omega⟩
    obtain ⟨b, hb⟩ : ∃ b : Nat, e.2 = b := ⟨e.2.toNat, by omega⟩
    have has : a < s := by omega
    have hbs : b < s := by omega
    have he : e = ((a : Int), (b : Int)) := by rw [← ha, ← hb]
    have hlt := ix_lt has hbs
    simp only [List.length_cons] at hB
    obtain ⟨L', hL1, hL2⟩ := loop352 hi hl r (k + 1) (F ++ [((a : Int), (b : Int))]) (L.set (a * s + b) (L.getD (a * s + b) 0 + 1)) (by simp; omega) (fun x hx => hok x (List.mem_cons_of_mem _ hx)) (tabC_add ht has hbs) h3
    refine ⟨L', by rw [he]; simpa using hL1, .next k35_2 ?_ hL2⟩
    refine (t35_2 ..).trans ?_
    have step : ∀ {X : Type} (G : List DV → Nat → Option X) , (getR D R.length i fun cs m _ => G cs m) = G (edD (R.getD i [])) (R.getD i []).length := fun G => by
      obtain ⟨z, hz⟩ := getR_at hD hi fun cs m _ => G cs m
      exact hz
    rw [step fun _ m => bif decide ((k : Int) < (m : Int)) then _ else _]
    refine (cnd_pos (by omega)).trans ?_
    rw [step fun cs m => bif inRange (k : Int) m then _ else _]
    refine (inR_pos (by omega) (by omega)).trans ?_
    have e1 : Int.toNat (k : Int) * 2 + 0 = k * 2 := by simp
    have e2 : Int.toNat (k : Int) * 2 + 1 = k * 2 + 1 := by simp
    rw [e1, nth_pr1 h1, h2, getI_some]
    rw [step fun cs m => bif inRange (k : Int) m then _ else _]
    refine (inR_pos (by omega) (by omega)).trans ?_
    have e0 := ixE_nat hs has hbs
    have ir : inRange (((a * s + b : Nat)) : Int) (s * s) = true := by simp only [inRange, Bool.and_eq_true, decide_eq_true_eq]; omega
    have e3 : 0 + Int.toNat (((a * s + b : Nat)) : Int) * 1 = a * s + b := by rw [Int.toNat_natCast]; omega
    have hle : Nat.ble (a * s + b + 1) (ints L).length = true := by rw [Nat.ble_eq, len_ints, ht.1]; omega
    have hcnt : IntKind.wrap IntKind.i64 (L.getD (a * s + b) 0 + 1) = L.getD (a * s + b) 0 + 1 := by
      have := ht.2 a b has hbs
      have hp := cnt_pos ((a : Int), (b : Int)) F
      rw [wrap64_o (by omega) (by omega)]
    rw [e2, nth_pr2 h1, h2, getI_some, ha, hb, e0, ir, e3, nth_ints_o (l := L) (i := a * s + b) (by rw [ht.1]; exact hlt)]
    simp only [Bool.and_true, cond_true, getI_some, hle]
    rw [hcnt, setNth_ints_o, wr1 (by omega)]
end
section
variable {s : Nat} (hs : s ≤ 21) {D : List DV} {R : List (List (Int × Int))} (hD : isRows D R) (nl : Bool) (hn : R.length ≤ 40)
include hs hD hn
theorem loop350 : ∀ (r : List (List (Int × Int))) (i : Nat) (F : List (Int × Int)) (L : List Int), F.length + 20 * r.length ≤ 10000 → okR s r = true → tabC s F L → R.drop i = r →
    ∃ L', tabC s (F ++ r.flatten) L' ∧ LoopAt aeC Ev.nil 35 0 Try.f35 0 (s350 s D R.length nl (s * s) (ints L) i) (.exit 0) ⟨[(0, .d (iD s)), (5, AV.row 0 0 (s * s) (s * s) 1 true)], [.dc (ints L')], []⟩
  | [], i, F, L, _, _, ht, hd => by
    have := drop_nil_o hd
    exact ⟨L, by simpa using ht, .out k35_0 (by simp) ((t35_0x ..).trans (cnd_neg (by omega)))⟩
  | E :: r, i, F, L, hB, hok, ht, hd => by
    obtain ⟨h1, h2, h3⟩ := drop_cons_o (d := []) hd
    unfold okR at hok
    rw [List.all_cons, Bool.and_eq_true, Bool.and_eq_true, Nat.ble_eq] at hok
    obtain ⟨⟨o1, o2⟩, o3⟩ := hok
    simp only [List.length_cons] at hB
    obtain ⟨L1, q1, q2⟩ := loop352 hs hD nl h1 (by rw [h2]; exact o1) E 0 F L (by omega) (List.all_eq_true.1 o2) ht (by rw [h2]; exact List.drop_zero ..)
    obtain ⟨L2, q3, q4⟩ := loop350 r (i + 1) (F ++ E) L1 (by simp; omega) o3 q1 h3
    refine ⟨L2, by simpa using q3, .nextF k35_0 ((startF_seg k35_0 ((t35_0 ..).trans (cnd_pos (by omega))) q2).trans (nextF_done k35_0 roundD_plain ((t35_n ..).trans ?_))) q4⟩
    rw [wr1 (by omega)]
end
section
variable {s : Nat} (hs2 : 2 ≤ s) (hs : s ≤ 21) {F : List (Int × Int)} {L : List Int} (ht : tabC s F L)
include hs2 hs ht
/-- Whether the pairs with a first node are met once, from a second one on. -/
def onceB (F : List (Int × Int)) (a : Int) : Nat → Int → Bool
  | 0, _ => true
  | n + 1, b => decide (cnt (a, b) F = 1) && onceB F a n (b + 1)
theorem loop356 {a : Nat} (ha : a < s) : ∀ (t b : Nat), b + t = s → LoopAt aeC Ev.nil 35 0 Try.f35 6 (s356 s (s * s) (ints L) a b) (bif onceB F a t b then .exit 6 else .ret) (bif onceB F a t b then s354 s (s * s) (ints L) a else no4)
  | 0, b, hb => .out k35_6 (by simp [onceB]) ((t35_6 ..).trans (cnd_neg (by omega)))
  | t + 1, b, hb => by
    have hbs : b < s := by omega
    have hlt := ix_lt ha hbs
    have e0 := ixE_nat hs ha hbs
    have ir : inRange (((a * s + b : Nat)) : Int) (s * s) = true := by simp only [inRange, Bool.and_eq_true, decide_eq_true_eq]; omega
    have e3 : 0 + Int.toNat (((a * s + b : Nat)) : Int) * 1 = a * s + b := by rw [Int.toNat_natCast]; omega
    have hr : startS aeC Ev.nil 35 0 Try.f35 (some 6) (s356 s (s * s) (ints L) a b) (roundD aeC 35 0 6) = bif decide (cnt ((a : Int), (b : Int)) F = 1) then some (Ex.norm, s356 s (s * s) (ints L) a ((b + 1 : Nat) : Int)) else some (Ex.ret, no4) := by
      refine (t35_6 ..).trans ((cnd_pos (by omega)).trans ?_)
      rw [e0, ir, e3, nth_ints_o (l := L) (i := a * s + b) (by rw [ht.1]; exact hlt), ht.2 a b ha hbs, wr1 (by omega)]
      simp only [Bool.and_true, cond_true, getI_some]
      cases decide (cnt ((a : Int), (b : Int)) F = 1) <;> rfl
    unfold onceB
    cases hc : decide (cnt ((a : Int), (b : Int)) F = 1) with
    | true =>
      rw [hc] at hr
      exact .next k35_6 hr (loop356 ha t (b + 1) (by omega))
    | false =>
      rw [hc] at hr
      exact .out k35_6 (by simp) hr
def allB (s : Nat) (F : List (Int × Int)) : Nat → Nat → Bool
  | 0, _ => true
  | n + 1, a => onceB F a (s - (a + 1)) ((a + 1 : Nat) : Int) && allB s F n (a + 1)
theorem loop354 : ∀ (t a : Nat), a + t = s → LoopAt aeC Ev.nil 35 0 Try.f35 4 (s354 s (s * s) (ints L) a) (bif allB s F t a then .exit 4 else .ret) (bif allB s F t a then ⟨[], [], []⟩ else no4)
  | 0, a, hb => .out k35_4 (by simp [allB]) ((t35_4x ..).trans (cnd_neg (by omega)))
  | t + 1, a, hb => by
    have hh : startS aeC Ev.nil 35 0 Try.f35 (some 4) (s354 s (s * s) (ints L) a) (heldD aeC 35 0) = some (6, s356 s (s * s) (ints L) a ((a + 1 : Nat) : Int)) := by
      refine (t35_4 ..).trans ((cnd_pos (by omega)).trans ?_)
      rw [wr1 (by omega)]
    have hL := loop356 hs2 hs ht (show a < s by omega) (s - (a + 1)) (a + 1) (by omega)
    unfold allB
    cases hc : onceB F a (s - (a + 1)) ((a + 1 : Nat) : Int) with
    | true =>
      rw [hc] at hL
      refine .nextF k35_4 ((startF_seg k35_4 hh hL).trans (nextF_done k35_4 roundD_plain ((t35_n4 ..).trans ?_))) (loop354 t (a + 1) (by omega))
      rw [wr1 (by omega)]
    | false =>
      rw [hc] at hL
      exact .outF k35_4 (by simp) ((startF_seg k35_4 hh hL).trans (nextF_done k35_4 roundD_plain t35_r))
end
/-- The contract of the document's Covers. -/
theorem rcovers_ok {s : Nat} (hs2 : 2 ≤ s) (hs : s ≤ 21) {D : List DV} {R : List (List (Int × Int))} (hD : isRows D R) (nl : Bool) (hn : R.length ≤ 40) (hok : okR s R = true) : PureOK Try.prog 35 [iD s, .sl D R.length 1 false nl] (bD (allB s R.flatten s 0)) := by
  have h2 : s * s ≤ 21 * 21 := Nat.mul_le_mul hs hs
  have hw : IntKind.wrap IntKind.i64 ((s : Int) * (s : Int)) = ((s * s : Nat) : Int) := by
    have : (s : Int) * (s : Int) = ((s * s : Nat) : Int) := by simp
    rw [this, wrap64_o (by omega) (by omega)]
  have hh : startS aeC Ev.nil 35 0 Try.f35 none ⟨envOf 0 [.d (iD s), .d (.sl D R.length 1 false nl)], [], []⟩ (heldD aeC 35 0) = some (0, s350 s D R.length nl (s * s) (ints (List.replicate (s * s) 0)) (0 : Nat)) := by
    refine (t35_h ..).trans ?_
    have hfl : ∀ n : Nat, (List.replicate n [iD 0]).flatten = ints (List.replicate n 0) := fun n => by
      induction n with
      | zero => rfl
      | succ n ih => rw [List.replicate_succ, List.replicate_succ, List.flatten_cons, ih]; rfl
    rw [hw, Int.toNat_natCast, hfl]
    rw [decide_eq_true (show (0 : Int) ≤ ((s * s : Nat) : Int) by omega), decide_eq_true (show ((s * s : Nat) : Int) ≤ ((s * s : Nat) : Int) by omega), decide_eq_true (show ((s * s : Nat) : Int) ≤ 1048576 by omega)]
    rfl
  obtain ⟨L, q1, q2⟩ := loop350 hs hD nl hn R 0 [] (List.replicate (s * s) 0) (by simp; omega) hok ⟨by simp, fun a b ha hb => by
    rw [List.getD_eq_getElem?_getD, List.getElem?_replicate, if_pos (ix_lt ha hb)]; rfl⟩ (List.drop_zero ..)
  rw [List.nil_append] at q1
  have hL := loop354 hs2 hs q1 s 0 (by omega)
  cases hc : allB s R.flatten s 0 with
  | true =>
    rw [hc] at hL
    exact ae_pure EvOK.nil (fn := Try.f35) k35 (by kernel_rfl) (by kernel_rfl) ((startF_seg k35 hh q2).trans ((nextF_seg k35 (by decide) (exit_small (by decide)) (t35_m ..) hL).trans (nextF_done k35 done_plain t35_e)))
  | false =>
    rw [hc] at hL
    exact ae_pure EvOK.nil (fn := Try.f35) k35 (by kernel_rfl) (by kernel_rfl) ((startF_seg k35 hh q2).trans ((nextF_seg k35 (by decide) (exit_small (by decide)) (t35_m ..) hL).trans (nextF_done k35 done_plain t35_r2)))
end Go.Proofs.Ytkcdbndpcabelaa

/- Chapter 02: what Covers tells is what the document tells, in plain Lean. -/
namespace Go.Proofs.Ytkcdbndpcabelaa
open Go Go.AE
/-! ### Lists without repeats -/
theorem nodup_sub {α : Type} [DecidableEq α] : ∀ {l m : List α}, l.Nodup → (∀ x ∈ l, x ∈ m) → l.length ≤ m.length
  | [], _, _, _ => Nat.zero_le _
  | x :: l, m, hn, hs => by
    rw [List.nodup_cons] at hn
    have hx := hs x (List.mem_cons_self ..)
    have h1 := nodup_sub (l := l) (m := m.erase x) hn.2 fun y hy => by
      refine (List.mem_erase_of_ne ?_).2 (hs y (List.mem_cons_of_mem _ hy))
      rintro rfl
      exact hn.1 hy
    rw [List.length_erase_of_mem hx] at h1
    have : 0 < m.length := List.length_pos_of_mem hx
    simp only [List.length_cons]; omega
theorem nodup_full {α : Type} [DecidableEq α] {l m : List α} (hn : l.Nodup) (hs : ∀ x ∈ l, x ∈ m) (hl : m.length ≤ l.length) : ∀ x ∈ m, x ∈ l := by
  intro x hx
  apply Classical.byContradiction
  intro hc
  have := nodup_sub (l := x :: l) (m := m) (by rw [List.nodup_cons]; exact ⟨hc, hn⟩) (by
    intro y hy
    rcases List.mem_cons.1 hy with rfl | hy
    · exact hx
    · exact hs y hy)
  simp only [List.length_cons] at this
  omega
/-! ### What the map knows -/
theorem cnt_zero {e : Int × Int} : ∀ {F : List (Int × Int)}, e ∉ F → cnt e F = 0
  | [], _ => rfl
  | x :: F, h => by
    simp only [List.mem_cons, not_or] at h
    simp only [cnt]
    rw [if_neg (Ne.symm h.1), cnt_zero h.2]; rfl
theorem cnt_mem {e : Int × Int} : ∀ {F : List (Int × Int)}, e ∈ F → 1 ≤ cnt e F
  | x :: F, h => by
    simp only [cnt]
    have := cnt_pos e F
    rcases List.mem_cons.1 h with rfl | h
    · rw [if_pos rfl]; omega
    · have := cnt_mem h; split <;> omega
def invC (S : List ((Int × Int) × Int)) (F : List (Int × Int)) : Prop := (S.map (·.1)).Nodup ∧ (∀ x ∈ S, x.2 = cnt x.1 F ∧ x.1 ∈ F) ∧ ∀ e ∈ F, ∃ x ∈ S, x.1 = e
theorem addC_inv {e : Int × Int} {S : List ((Int × Int) × Int)} {F : List (Int × Int)} (h : invC S F) : invC (addC e S) (F ++ [e]) := by
  obtain ⟨h1, h2, h3⟩ := h
  unfold addC
  cases hf : findC e S with
  | none =>
    have hno := findC_none.1 hf
    have heF : e ∉ F := fun q => by obtain ⟨x, hx, hx2⟩ := h3 e q; exact hno x hx hx2
    refine ⟨?_, ?_, ?_⟩
    · rw [List.map_append, List.nodup_append]
      refine ⟨h1, by simp, ?_⟩
      intro a ha b hb
      simp only [List.map_cons, List.map_nil, List.mem_singleton] at hb
      subst hb
      obtain ⟨x, hx, rfl⟩ := List.mem_map.1 ha
      exact hno x hx
    · intro x hx
      rcases List.mem_append.1 hx with hx | hx
      · have := h2 x hx
        rw [cnt_app]
        simp only [cnt]
        rw [if_neg (Ne.symm (hno x hx))]
        exact ⟨by omega, by simp [this.2]⟩
      · simp only [List.mem_singleton] at hx
        subst hx
        rw [cnt_app, cnt_zero heF]
        simp [cnt]
    · intro f hfm
      rcases List.mem_append.1 hfm with q | q
      · obtain ⟨x, hx, hx2⟩ := h3 f q
        exact ⟨x, by simp [hx], hx2⟩
      · simp only [List.mem_singleton] at q
        subst q
        exact ⟨(f, 1), by simp, rfl⟩
  | some i =>
    obtain ⟨c, hc⟩ := findC_at hf
    simp only [hc]
    rw [setNth_eq]
    have hlt := nth_some_lt hc
    have hci : S[i] = (e, c) := by rw [nth_eq, List.getElem?_eq_getElem hlt] at hc; exact Option.some.inj hc
    have hkeys : (S.set i (e, c + 1)).map (·.1) = S.map (·.1) := by
      rw [List.map_set]
      apply List.ext_getElem
      · simp
      · intro j j1 j2
        rw [List.getElem_set]
        split
        · rename_i q; subst q; simp [hci]
        · rfl
    refine ⟨by rw [hkeys]; exact h1, ?_, ?_⟩
    · intro x hx
      obtain ⟨j, hj, rfl⟩ := List.getElem_of_mem hx
      rw [List.getElem_set]
      split
      · have := h2 (e, c) (mem_of_nth hc)
        rw [cnt_app]
        simp only at this
        refine ⟨?_, by simp⟩
        show c + 1 = cnt e F + ((if e = e then 1 else 0) + 0)
        rw [if_pos rfl]
        omega
      · rename_i hne
        rw [List.length_set] at hj
        have hm := h2 S[j] (List.getElem_mem hj)
        have hk : S[j].1 ≠ e := by
          intro he
          have e1 : (S.map (·.1))[j]'(by simpa using hj) = (S.map (·.1))[i]'(by simpa using hlt) := by simp [he, hci]
          exact hne ((List.getElem_inj h1).1 e1).symm
        rw [cnt_app]
        simp only [cnt]
        rw [if_neg (Ne.symm hk)]
        exact ⟨by omega, by simp [hm.2]⟩
    · intro f hfm
      have hin : f ∈ S.map (·.1) := by
        rcases List.mem_append.1 hfm with q | q
        · obtain ⟨x, hx, rfl⟩ := h3 f q
          exact List.mem_map.2 ⟨x, hx, rfl⟩
        · simp only [List.mem_singleton] at q
          subst q
          exact List.mem_map.2 ⟨(f, c), mem_of_nth hc, rfl⟩
      rw [← hkeys] at hin
      obtain ⟨x, hx, hx2⟩ := List.mem_map.1 hin
      exact ⟨x, hx, hx2⟩
theorem runC_inv {sz : Int} : ∀ {r : List (Int × Int)} {S : List ((Int × Int) × Int)} {F : List (Int × Int)}, invC S F → r.all (okE sz) = true → ∃ S', runC sz r S = some S' ∧ invC S' (F ++ r)
  | [], S, F, h, _ => ⟨S, rfl, by simpa using h⟩
  | e :: r, S, F, h, ho => by
    rw [List.all_cons, Bool.and_eq_true] at ho
    obtain ⟨S', h1, h2⟩ := runC_inv (r := r) (addC_inv (e := e) h) ho.2
    refine ⟨S', ?_, by simpa using h2⟩
    unfold runC
    rw [ho.1]; exact h1
theorem runC_no {sz : Int} : ∀ {r : List (Int × Int)} {S : List ((Int × Int) × Int)}, r.all (okE sz) = false → runC sz r S = none
  | [], S, h => by simp at h
  | e :: r, S, h => by
    unfold runC
    cases ho : okE sz e with
    | false => rfl
    | true =>
      rw [List.all_cons, ho, Bool.true_and] at h
      exact runC_no h
theorem runR_inv {sz : Int} : ∀ {r : List (List (Int × Int))} {S : List ((Int × Int) × Int)} {F : List (Int × Int)}, invC S F → okR sz r = true → ∃ S', runR sz r S = some S' ∧ invC S' (F ++ r.flatten)
  | [], S, F, h, _ => ⟨S, rfl, by simpa using h⟩
  | E :: r, S, F, h, ho => by
    unfold okR at ho
    rw [List.all_cons, Bool.and_eq_true, Bool.and_eq_true, Nat.ble_eq] at ho
    obtain ⟨⟨o1, o2⟩, o3⟩ := ho
    obtain ⟨S1, h1, h2⟩ := runC_inv h o2
    obtain ⟨S2, h3, h4⟩ := runR_inv (r := r) h2 o3
    refine ⟨S2, ?_, by simpa using h4⟩
    unfold runR
    rw [decide_eq_false (show ¬ 20 < E.length by omega), cond_false, h1]
    exact h3
theorem runR_no {sz : Int} : ∀ {r : List (List (Int × Int))} {S : List ((Int × Int) × Int)}, okR sz r = false → runR sz r S = none
  | [], S, h => by simp [okR] at h
  | E :: r, S, h => by
    unfold runR
    by_cases hl : 20 < E.length
    · rw [decide_eq_true hl]; rfl
    · rw [decide_eq_false hl, cond_false]
      unfold okR at h
      rw [List.all_cons, show Nat.ble E.length 20 = true by rw [Nat.ble_eq]; omega, Bool.true_and] at h
      cases he : E.all (okE sz) with
      | false => rw [runC_no he]; rfl
      | true =>
        rw [he, Bool.true_and] at h
        cases hr : runC sz E S with
        | none => rfl
        | some S' => exact runR_no (r := r) h
theorem runR_ok {sz : Int} {r : List (List (Int × Int))} (h : okR sz r = true) : ∀ e ∈ r.flatten, okE sz e = true := by
  intro e he
  obtain ⟨E, hE, heE⟩ := List.mem_flatten.1 he
  have := List.all_eq_true.1 h E hE
  rw [Bool.and_eq_true] at this
  exact List.all_eq_true.1 this.2 e heE
/-! ### All pairs -/
def colP : Nat → Nat → List (Int × Int)
  | _, 0 => []
  | n, a + 1 => colP n a ++ [((a : Int), (n : Int))]
def pairsL : Nat → List (Int × Int)
  | 0 => []
  | n + 1 => pairsL n ++ colP n n
theorem colP_mem {e : Int × Int} {n : Nat} : ∀ {a : Nat}, e ∈ colP n a ↔ 0 ≤ e.1 ∧ e.1 < a ∧ e.2 = n
  | 0 => by simp [colP]; omega
  | a + 1 => by
    unfold colP
    rw [List.mem_append, colP_mem, List.mem_singleton]
    constructor
    · rintro (h | rfl)
      · omega
      · simp; omega
    · intro h
      by_cases q : e.1 = a
      · right; exact Prod.ext q h.2.2
      · left; omega
theorem pairsL_mem {e : Int × Int} : ∀ {s : Nat}, e ∈ pairsL s ↔ okE s e = true
  | 0 => by simp [pairsL, okE]; omega
  | n + 1 => by
    unfold pairsL
    rw [List.mem_append, pairsL_mem, colP_mem]
    simp only [okE, Bool.and_eq_true, decide_eq_true_eq]
    omega
theorem colP_nodup (n : Nat) : ∀ a : Nat, (colP n a).Nodup
  | 0 => by simp [colP]
  | a + 1 => by
    unfold colP
    rw [List.nodup_append]
    refine ⟨colP_nodup n a, by simp, ?_⟩
    intro x hx y hy
    simp only [List.mem_singleton] at hy
    subst hy
    rintro rfl
    have := colP_mem.1 hx
    simp at this
theorem pairsL_nodup : ∀ s : Nat, (pairsL s).Nodup
  | 0 => by simp [pairsL]
  | n + 1 => by
    unfold pairsL
    rw [List.nodup_append]
    refine ⟨pairsL_nodup n, colP_nodup n n, ?_⟩
    intro x hx y hy
    rintro rfl
    have h1 := pairsL_mem.1 hx
    have h2 := colP_mem.1 hy
    simp only [okE, Bool.and_eq_true, decide_eq_true_eq] at h1
    omega
theorem pairs_len : ∀ s < 22, pairsN ((s : Nat) : Int) = ((pairsL s).length : Int) := by decide +kernel
/-! ### Each pair once -/
theorem onceB_iff {F : List (Int × Int)} {a : Int} : ∀ {n : Nat} {b : Int}, onceB F a n b = true ↔ ∀ c : Int, b ≤ c → c < b + n → cnt (a, c) F = 1
  | 0, b => by simp [onceB]; omega
  | n + 1, b => by
    unfold onceB
    rw [Bool.and_eq_true, decide_eq_true_eq, onceB_iff]
    constructor
    · rintro ⟨h1, h2⟩ c c1 c2
      by_cases q : c = b
      · subst q; exact h1
      · exact h2 c (by omega) (by omega)
    · intro h
      exact ⟨h b (by omega) (by omega), fun c c1 c2 => h c (by omega) (by omega)⟩
theorem allB_iff {s : Nat} {F : List (Int × Int)} : ∀ {n a : Nat}, a + n = s → (allB s F n a = true ↔ ∀ b c : Int, (a : Int) ≤ b → b < c → c < s → cnt (b, c) F = 1)
  | 0, a, h => by simp only [allB, true_iff]; intro b c; omega
  | n + 1, a, h => by
    unfold allB
    rw [Bool.and_eq_true, onceB_iff, allB_iff (by omega)]
    constructor
    · rintro ⟨h1, h2⟩ b c c1 c2 c3
      by_cases q : b = a
      · subst q; exact h1 c (by omega) (by omega)
      · exact h2 b c (by omega) c2 c3
    · intro h3
      exact ⟨fun c c1 c2 => h3 a c (by omega) (by omega) (by omega), fun b c c1 c2 c3 => h3 b c (by omega) c2 c3⟩
/-- What Covers tells is what the document tells. -/
theorem cover_law {s : Nat} (hs : s ≤ 21) {R : List (List (Int × Int))} (h : okR s R = true) : ans33 s (runR s R []) = .tup [bD (allB s R.flatten s 0), iD 0] := by
  obtain ⟨S, h1, h2⟩ := runR_inv (sz := s) (r := R) (S := []) (F := []) ⟨by simp, by simp, by simp⟩ h
  rw [List.nil_append] at h2
  obtain ⟨k1, k2, k3⟩ := h2
  have hok := runR_ok h
  rw [h1]
  unfold ans33
  dsimp only
  suffices hb : (S.all (fun x => decide (x.2 ≤ 1)) && decide ((S.length : Int) = pairsN s)) = allB s R.flatten s 0 by rw [hb]
  rw [pairs_len s (by omega), Bool.eq_iff_iff, allB_iff (by omega), Bool.and_eq_true, List.all_eq_true, decide_eq_true_eq]
  have hsub : ∀ e ∈ S.map (·.1), e ∈ pairsL s := fun e he => by
    obtain ⟨x, hx, rfl⟩ := List.mem_map.1 he
    exact pairsL_mem.2 (hok _ (k2 x hx).2)
  constructor
  · rintro ⟨a1, a2⟩ b c c1 c2 c3
    have he : ((b, c) : Int × Int) ∈ pairsL s := pairsL_mem.2 (by simp only [okE, Bool.and_eq_true, decide_eq_true_eq]; omega)
    have hm := nodup_full k1 hsub (by simp; omega) _ he
    obtain ⟨x, hx, hx2⟩ := List.mem_map.1 hm
    have q1 := k2 x hx
    have q2 := of_decide_eq_true (a1 x hx)
    have q3 := cnt_mem q1.2
    rw [hx2] at q1 q3
    omega
  · intro a
    have hall : ∀ e, okE s e = true → cnt e R.flatten = 1 := fun e he => by
      simp only [okE, Bool.and_eq_true, decide_eq_true_eq] at he
      have := a e.1 e.2 (by omega) (by omega) (by omega)
      simpa using this
    refine ⟨fun x hx => decide_eq_true ?_, ?_⟩
    · have q1 := k2 x hx
      rw [q1.1, hall _ (hok _ q1.2)]
      exact Int.le_refl 1
    · have l1 := nodup_sub k1 hsub
      have l2 := nodup_sub (pairsL_nodup s) (m := S.map (·.1)) fun e he => by
        have hc := hall e (pairsL_mem.1 he)
        have hm : e ∈ R.flatten := Classical.byContradiction fun q => by rw [cnt_zero q] at hc; omega
        obtain ⟨x, hx, hx2⟩ := k3 e hm
        exact List.mem_map.2 ⟨x, hx, hx2⟩
      simp only [List.length_map] at l1 l2
      omega
end Go.Proofs.Ytkcdbndpcabelaa

/- Chapter 02: law 7 (Covers) on data. -/
namespace Go.Proofs.Ytkcdbndpcabelaa
open Go Go.AE
set_option maxRecDepth 100000
/-! ### Calls that are told by tables -/
def evT (ok : Nat → List DV → Bool) (shape : Nat → List DV → DV) : Ev := { Ev.nil with pure := fun f ds => .node (ok f ds) (.leaf (shape f ds)) .fail }
open Classical in
noncomputable def okS (shape : Nat → List DV → DV) : Nat → List DV → Bool := fun f ds => isP (PureOK Try.prog f ds (shape f ds))
theorem evT_ok (shape : Nat → List DV → DV) : EvOK Try.prog (evT (okS shape) shape) := by
  refine ⟨fun f ds d e => ?_, (by intro f xs h v h' e; simp [evT, Ev.nil, Tr.val] at e), (by intro f xs h v h' e; simp [evT, Ev.nil, Tr.val] at e), (by intro l xs h v h' e; simp [evT, Ev.nil, Tr.val] at e)⟩
  simp only [evT, Tr.val] at e
  obtain ⟨h1, h2⟩ := cond_none e
  cases h2
  exact isP_iff.1 h1
theorem okS_is {shape : Nat → List DV → DV} {f : Nat} {ds : List DV} (h : PureOK Try.prog f ds (shape f ds)) : okS shape f ds = true := isP_iff.2 h
theorem cond_is' {R : Type} {b : Bool} {x y : R} (h : b = true) : (bif b then x else y) = x := by rw [h]; rfl
/-! ### Edges copied -/
def cutE (E : List DV) (m : Nat) : List DV := sub E 0 ((Int.toNat (if 22 < (m : Int) then 22 else (m : Int)) - 0) * 2)
theorem t32 (E : List DV) (m : Nat) (z : Bool) : pureE aeC Ev.nil 30 32 Try.f32 [.sl E m 2 false z, iD 22] =
  bif z || true then (bif decide (0 ≤ if 22 < (m : Int) then 22 else (m : Int)) && decide ((if 22 < (m : Int) then 22 else (m : Int)) ≤ (m : Int)) then (bif z || true then (bif Nat.ble (Int.toNat (if 22 < (m : Int) then 22 else (m : Int)) - 0) 1048576 then
    some (DV.sl (cutE E m) (lenOf 2 (cutE E m).length) 2 false (true && Nat.beq (cutE E m).length 0)) else none) else none) else none) else none := by kernel_rfl
theorem sub_ed22 (E : List (Int × Int)) (k : Nat) : sub (edD E) 0 (k * 2) = edD (E.take k) := by
  unfold sub
  rw [List.drop_zero]
  induction E generalizing k with
  | nil => simp [edD]
  | cons e E ih =>
    cases k with
    | zero => simp [edD]
    | succ k =>
      rw [show (k + 1) * 2 = k * 2 + 1 + 1 by omega, List.take_succ_cons]
      simp only [edD, List.take_succ_cons]
      rw [ih]
theorem cut_ed (E : List (Int × Int)) : cutE (edD E) E.length = edD (E.take 22) := by
  unfold cutE
  have : Int.toNat (if 22 < (E.length : Int) then 22 else (E.length : Int)) - 0 = min 22 E.length := by split <;> omega
  rw [this, sub_ed22]
  congr 1
  rcases Nat.le_total 22 E.length with h | h
  · rw [Nat.min_eq_left h]
  · rw [Nat.min_eq_right h, List.take_of_length_le h, List.take_of_length_le (Nat.le_refl _)]
theorem c32 (E : List (Int × Int)) (z : Bool) : PureOK Try.prog 32 [.sl (edD E) E.length 2 false z, iD 22] (.sl (cutE (edD E) E.length) (lenOf 2 (cutE (edD E) E.length).length) 2 false (true && Nat.beq (cutE (edD E) E.length).length 0)) := by
  refine ae_direct EvOK.nil 30 (by kernel_rfl : tget aeF 32 = some Try.f32) ((t32 ..).trans ?_)
  have h1 : (decide (0 ≤ if 22 < (E.length : Int) then 22 else (E.length : Int)) && decide ((if 22 < (E.length : Int) then 22 else (E.length : Int)) ≤ (E.length : Int))) = true := by
    rw [Bool.and_eq_true, decide_eq_true_eq, decide_eq_true_eq]; split <;> omega
  have h2 : Nat.ble (Int.toNat (if 22 < (E.length : Int) then 22 else (E.length : Int)) - 0) 1048576 = true := by rw [Nat.ble_eq]; split <;> omega
  rw [h1, h2, Bool.or_true]; rfl
/-! ### The law -/
structure T7 where
  B : List DV → List DV
  M : List DV → Nat
  Z : List DV → Bool
  c : List DV → Bool
  e : List DV → Int
  r : List DV → Bool
  v : List DV → Bool
def i7 (T : T7) (f : Nat) (ds : List DV) : DV := bif Nat.beq f 32 then .sl (T.B ds) (T.M ds) 2 false (T.Z ds) else bif Nat.beq f 33 then .tup [bD (T.c ds), iD (T.e ds)] else bif Nat.beq f 34 then bD (T.r ds) else bif Nat.beq f 35 then bD (T.v ds) else bD true
def ev7L (ok : Nat → List DV → Bool) (T : T7) : Ev := evT ok (i7 T)
def s70 (sz wi : Int) (R : List DV) (n : Nat) (nl : Bool) (L : List DV) (i : Int) : St := ⟨[(0, .d (iD sz)), (1, .d (.sl R n 1 false nl)), (2, .d (iD wi)), (7, .grow 0 1 false), (8, .d (iD i))], [.dc L], []⟩
def s72 (sz wi : Int) (L : List DV) (r : Int) : St := ⟨[(0, .d (iD sz)), (2, .d (iD wi)), (7, AV.grow 0 1 false), (9, .d (iD r))], [.dc L], []⟩
def s74 (sz wi r many a : Int) (L : List DV) : St := ⟨[(0, .d (iD sz)), (2, .d (iD wi)), (7, AV.grow 0 1 false), (9, .d (iD r)), (12, .d (iD many)), (13, .d (iD a))], [.dc L], []⟩
def s76 (sz wi r many a b : Int) (L E : List DV) : St := ⟨[(0, .d (iD sz)), (2, .d (iD wi)), (7, AV.grow 0 1 false), (9, .d (iD r)), (12, .d (iD many)), (13, .d (iD a)), (14, .grow 1 2 false), (15, .d (iD b))], [.dc L, .dc E], []⟩
def e76 (sz wi r many a : Int) (L E : List DV) : St := ⟨[(0, .d (iD sz)), (2, .d (iD wi)), (7, AV.grow 0 1 false), (9, .d (iD r)), (12, .d (iD many)), (13, .d (iD a)), (14, .grow 1 2 false)], [.dc L, .dc E], []⟩
def x70 (sz wi : Int) (L : List DV) : St := ⟨[(0, .d (iD sz)), (2, .d (iD wi)), (7, AV.grow 0 1 false)], [.dc L], []⟩
/-- A list that has grown, as data. -/
def gD (L : List DV) : DV := .sl L (lenOf 1 L.length) 1 false (true && Nat.beq L.length 0)
theorem t7_h (ok : Nat → List DV → Bool) (T : T7) (sz : Int) (R : List DV) (n : Nat) (nl : Bool) (wi : Int) : startS aeC (ev7L ok T) 7 0 Try.f7 none ⟨envOf 0 [.d (iD sz), .d (.sl R n 1 false nl), .d (iD wi)], [], []⟩ (heldD aeC 7 0) = some (0, s70 sz wi R n nl [] 0) := by kernel_rfl
theorem t7_0 (ok : Nat → List DV → Bool) (T : T7) (sz : Int) (R : List DV) (n : Nat) (nl : Bool) (wi : Int) (L : List DV) (i : Int) : startS aeC (ev7L ok T) 7 0 Try.f7 (some 0) (s70 sz wi R n nl L i) (roundD aeC 7 0 0) =
  bif decide (i < (n : Int)) then (bif decide (i < 42) then (getR R n i fun cs m z => bif ok 32 [DV.sl cs m 2 false z, iD 22] then (bif T.Z [DV.sl cs m 2 false z, iD 22] || true then (bif Nat.ble (lenOf 1 L.length + 1) 1048576 then
    some (Ex.norm, s70 sz wi R n nl (L ++ [DV.sl (T.B [DV.sl cs m 2 false z, iD 22]) (T.M [DV.sl cs m 2 false z, iD 22]) 2 false (T.Z [DV.sl cs m 2 false z, iD 22])]) (IntKind.wrap IntKind.i64 (i + 1))) else none) else none) else none) else some (Ex.exit 0, x70 sz wi L)) else some (Ex.exit 0, x70 sz wi L) := by kernel_rfl
theorem t7_m (ok : Nat → List DV → Bool) (T : T7) (sz wi : Int) (L : List DV) : nextS aeC (ev7L ok T) 7 0 Try.f7 none 0 (.exit 0) (x70 sz wi L) (heldD aeC 7 0) = some (2, s72 sz wi L 0) := by kernel_rfl
def szN (sz : Int) : Int := IntKind.wrap IntKind.i64 (2 + IntKind.wrap IntKind.i64 (Int.tmod (IntKind.wrap IntKind.u64 sz) 14))
theorem t7_2 (ok : Nat → List DV → Bool) (T : T7) (sz wi : Int) (L : List DV) (r : Int) : startS aeC (ev7L ok T) 7 0 Try.f7 (some 2) (s72 sz wi L r) (heldD aeC 7 0) =
  bif decide (r < 3) then (bif ok 33 [iD sz, gD L] then (bif ok 34 [iD sz, gD L] then (bif !T.r [iD sz, gD L] then (bif !decide (T.e [iD sz, gD L] = 1) then none else bif T.c [iD sz, gD L] then none else some (4, s74 (szN sz) wi r 0 0 []))
    else bif !decide (T.e [iD sz, gD L] = 0) then none else bif ok 35 [iD sz, gD L] then (bif !decide (T.c [iD sz, gD L] = T.v [iD sz, gD L]) then none else some (4, s74 (szN sz) wi r 0 0 [])) else none) else none) else none) else none := by kernel_rfl
theorem t7_2x (ok : Nat → List DV → Bool) (T : T7) (sz wi : Int) (L : List DV) : startS aeC (ev7L ok T) 7 0 Try.f7 (some 2) (s72 sz wi L 3) (roundD aeC 7 0 2) = some (Ex.exit 2, ⟨[], [], []⟩) := by kernel_rfl
theorem t7_e (ok : Nat → List DV → Bool) (T : T7) : nextS aeC (ev7L ok T) 7 0 Try.f7 none 2 (.exit 2) ⟨[], [], []⟩ (doneE aeC Try.f7 0 fun v h => freezeP 7 h v) = bif ok 20 [] then some (bD true) else none := by kernel_rfl
theorem t7_4 (ok : Nat → List DV → Bool) (T : T7) (sz wi r many a : Int) (L : List DV) : startS aeC (ev7L ok T) 7 0 Try.f7 (some 4) (s74 sz wi r many a L) (heldD aeC 7 0) = bif decide (a < sz) then some (6, s76 sz wi r many a (IntKind.wrap IntKind.i64 (a + 1)) L []) else none := by kernel_rfl
theorem t7_4x (ok : Nat → List DV → Bool) (T : T7) (sz wi r many a : Int) (L : List DV) : startS aeC (ev7L ok T) 7 0 Try.f7 (some 4) (s74 sz wi r many a L) (roundD aeC 7 0 4) = bif decide (a < sz) then none else some (Ex.exit 4, s72 sz wi L r) := by kernel_rfl
theorem t7_6 (ok : Nat → List DV → Bool) (T : T7) (sz wi r many a b : Int) (L E : List DV) : startS aeC (ev7L ok T) 7 0 Try.f7 (some 6) (s76 sz wi r many a b L E) (roundD aeC 7 0 6) =
  bif decide (b < sz) then (bif decide (r = 0) then (bif Nat.ble (lenOf 2 E.length + 1) 1048576 then some (Ex.norm, s76 sz wi r (IntKind.wrap IntKind.i64 (many + 1)) a (IntKind.wrap IntKind.i64 (b + 1)) L (E ++ [iD a, iD b])) else none)
    else bif !decide (many = IntKind.wrap IntKind.i64 (Int.tmod (IntKind.wrap IntKind.u64 wi) 91)) then (bif Nat.ble (lenOf 2 E.length + 1) 1048576 then some (Ex.norm, s76 sz wi r (IntKind.wrap IntKind.i64 (many + 1)) a (IntKind.wrap IntKind.i64 (b + 1)) L (E ++ [iD a, iD b])) else none)
    else some (Ex.norm, s76 sz wi r (IntKind.wrap IntKind.i64 (many + 1)) a (IntKind.wrap IntKind.i64 (b + 1)) L E))
  else some (Ex.exit 6, e76 sz wi r many a L E) := by kernel_rfl
theorem t7_46 (ok : Nat → List DV → Bool) (T : T7) (sz wi r many a : Int) (L E : List DV) : nextS aeC (ev7L ok T) 7 0 Try.f7 (some 4) 6 (.exit 6) (e76 sz wi r many a L E) (roundD aeC 7 0 4) =
  bif Nat.ble (lenOf 1 L.length + 1) 1048576 then some (Ex.norm, s74 sz wi r many (IntKind.wrap IntKind.i64 (a + 1)) (L ++ [DV.sl E (lenOf 2 E.length) 2 false (true && Nat.beq E.length 0)])) else none := by kernel_rfl
theorem t7_24 (ok : Nat → List DV → Bool) (T : T7) (sz wi r : Int) (L : List DV) : nextS aeC (ev7L ok T) 7 0 Try.f7 (some 2) 4 (.exit 4) (s72 sz wi L r) (roundD aeC 7 0 2) = some (Ex.norm, s72 sz wi L (IntKind.wrap IntKind.i64 (r + 1))) := by kernel_rfl
theorem k7 : OkSeg Try.f7 none [0, 2] := ⟨by kernel_rfl, by kernel_rfl, by decide⟩
theorem k7_0 : OkSeg Try.f7 (some 0) [] := ⟨by kernel_rfl, by kernel_rfl, by decide⟩
theorem k7_2 : OkSeg Try.f7 (some 2) [4] := ⟨by kernel_rfl, by kernel_rfl, by decide⟩
theorem k7_4 : OkSeg Try.f7 (some 4) [6] := ⟨by kernel_rfl, by kernel_rfl, by decide⟩
theorem k7_6 : OkSeg Try.f7 (some 6) [] := ⟨by kernel_rfl, by kernel_rfl, by decide⟩
/-! ### Rows out of data -/
def rowsOf : List DV → List (List (Int × Int))
  | [] => []
  | .sl cs _ _ _ _ :: r => unPr cs :: rowsOf r
  | _ :: r => [] :: rowsOf r
theorem rowsOf_is : ∀ {D : List DV} {R : List (List (Int × Int))}, isRows D R → rowsOf D = R
  | [], [], _ => rfl
  | d :: D, r :: R, h => by
    obtain ⟨⟨c, z, rfl⟩, h2⟩ := h
    show unPr (edD r) :: rowsOf D = _
    rw [unPr_ed, rowsOf_is h2]
  | [], _ :: _, h => h.elim
  | _ :: _, [], h => h.elim
theorem isRows_push : ∀ {D : List DV} {R : List (List (Int × Int))} {r : List (Int × Int)} {c z : Bool}, isRows D R → isRows (D ++ [rowZ r c z]) (R ++ [r])
  | [], [], r, c, z, _ => ⟨⟨c, z, rfl⟩, trivial⟩
  | d :: D, x :: R, r, c, z, h => ⟨h.1, isRows_push h.2⟩
  | [], _ :: _, _, _, _, h => h.elim
  | _ :: _, [], _, _, _, h => h.elim
def argD (i : Nat) (ds : List DV) : Int := match nth ds i with
  | some (.int _ n) => n
  | _ => 0
def argR (ds : List DV) : List (List (Int × Int)) := match nth ds 1 with
  | some (.sl D _ _ _ _) => rowsOf D
  | _ => []
def argL (ds : List DV) : List DV := match nth ds 0 with
  | some (.sl D m _ _ _) => cutE D m
  | _ => []
def goodR (sz : Int) (R : List (List (Int × Int))) : Bool := !badR sz R && okR sz R
def tb7 : T7 where
  B := argL
  M := fun ds => lenOf 2 (argL ds).length
  Z := fun ds => true && Nat.beq (argL ds).length 0
  c := fun ds => goodR (argD 0 ds) (argR ds) && allB (argD 0 ds).toNat (argR ds).flatten (argD 0 ds).toNat 0
  e := fun ds => bif goodR (argD 0 ds) (argR ds) then 0 else 1
  r := fun ds => goodR (argD 0 ds) (argR ds)
  v := fun ds => allB (argD 0 ds).toNat (argR ds).flatten (argD 0 ds).toNat 0
noncomputable abbrev ok7 : Nat → List DV → Bool := okS (i7 tb7)
theorem gD_rows {D : List DV} {R : List (List (Int × Int))} (h : isRows D R) : gD D = .sl D R.length 1 false (Nat.beq R.length 0) := by
  unfold gD; rw [isRows_len h]; rfl
section
variable {sz : Int} {D : List DV} {R : List (List (Int × Int))} (h : isRows D R)
include h
theorem argR_at : argR [iD sz, gD D] = R := by
  rw [gD_rows h]; exact rowsOf_is h
theorem g33z : ok7 33 [iD sz, gD D] = true := okS_is (by
  show PureOK Try.prog 33 _ (.tup [bD (goodR sz (argR [iD sz, gD D]) && allB sz.toNat (argR [iD sz, gD D]).flatten sz.toNat 0), iD (bif goodR sz (argR [iD sz, gD D]) then 0 else 1)])
  rw [argR_at h]
  rw [gD_rows h]
  have hc := covers_ok sz D R h (Nat.beq R.length 0)
  unfold goodR
  unfold badR at *
  cases hb : (decide (sz < 2) || (decide (21 < sz) || decide (40 < R.length))) with
  | true => rw [hb] at hc; exact hc
  | false =>
    rw [hb] at hc
    simp only [cond_false] at hc
    cases ho : okR sz R with
    | false => rw [runR_no ho] at hc; exact hc
    | true =>
      simp only [Bool.or_eq_false_iff, decide_eq_false_iff_not] at hb
      obtain ⟨s, rfl⟩ : ∃ s : Nat, sz = s := ⟨sz.toNat, by omega⟩
      rw [cover_law (by omega) ho] at hc
      exact hc)
theorem g34 : ok7 34 [iD sz, gD D] = true := okS_is (by
  show PureOK Try.prog 34 _ (bD (goodR sz (argR [iD sz, gD D])))
  rw [argR_at h, gD_rows h]
  exact right_ok sz D R h _)
theorem g35 (hg : goodR sz R = true) : ok7 35 [iD sz, gD D] = true := okS_is (by
  show PureOK Try.prog 35 _ (bD (allB sz.toNat (argR [iD sz, gD D]).flatten sz.toNat 0))
  rw [argR_at h, gD_rows h]
  unfold goodR badR at hg
  simp only [Bool.and_eq_true, Bool.not_eq_true', Bool.or_eq_false_iff, decide_eq_false_iff_not] at hg
  obtain ⟨⟨h1, h2, h3⟩, ho⟩ := hg
  obtain ⟨s, rfl⟩ : ∃ s : Nat, sz = s := ⟨sz.toNat, by omega⟩
  exact rcovers_ok (by omega) (by omega) h _ (by omega) ho)
theorem r72 (wi : Int) {r : Int} (hr : r < 3) : startS aeC (ev7L ok7 tb7) 7 0 Try.f7 (some 2) (s72 sz wi D r) (heldD aeC 7 0) = some (4, s74 (szN sz) wi r 0 ((0 : Nat) : Int) []) := by
  refine (t7_2 ..).trans ((cnd_pos hr).trans ((cond_is' (g33z h)).trans ((cond_is' (g34 h)).trans ?_)))
  have e1 : tb7.r [iD sz, gD D] = goodR sz R := by show goodR sz (argR [iD sz, gD D]) = _; rw [argR_at h]
  have e2 : tb7.e [iD sz, gD D] = bif goodR sz R then 0 else 1 := by show (bif goodR sz (argR [iD sz, gD D]) then 0 else 1) = _; rw [argR_at h]
  have e3 : tb7.c [iD sz, gD D] = (goodR sz R && allB sz.toNat R.flatten sz.toNat 0) := by show (goodR sz (argR [iD sz, gD D]) && allB sz.toNat (argR [iD sz, gD D]).flatten sz.toNat 0) = _; rw [argR_at h]
  have e4 : tb7.v [iD sz, gD D] = allB sz.toNat R.flatten sz.toNat 0 := by show allB sz.toNat (argR [iD sz, gD D]).flatten sz.toNat 0 = _; rw [argR_at h]
  rw [e1, e2, e3, e4]
  cases hg : goodR sz R with
  | false => rfl
  | true => rw [g35 h hg]; simp
end
theorem szN_le (sz : Int) : 2 ≤ szN sz ∧ szN sz ≤ 15 := by
  unfold szN
  rw [wrapU_eq]
  have : 0 ≤ sz % 18446744073709551616 := Int.emod_nonneg _ (by decide)
  have h1 : Int.tmod (sz % 18446744073709551616) 14 = (sz % 18446744073709551616) % 14 := Int.tmod_eq_emod_of_nonneg this
  rw [h1]
  have h2 := Int.emod_nonneg (sz % 18446744073709551616) (show (14 : Int) ≠ 0 by decide)
  have h3 := Int.emod_lt_of_pos (sz % 18446744073709551616) (show (0 : Int) < 14 by decide)
  rw [wrap64_o (n := sz % 18446744073709551616 % 14) (by omega) (by omega), wrap64_o (by omega) (by omega)]
  omega
theorem ed_len2 (E : List (Int × Int)) : lenOf 2 (edD E).length = E.length := by rw [len_prs]; show E.length * 2 / 2 = _; omega
theorem row_of (E : List (Int × Int)) : DV.sl (edD E) (lenOf 2 (edD E).length) 2 false (true && Nat.beq (edD E).length 0) = rowZ E false (true && Nat.beq (edD E).length 0) := by rw [ed_len2]; rfl
theorem loop76 {sz : Nat} (hs : sz ≤ 15) (wi r a : Int) (L : List DV) : ∀ (t b : Nat) (many : Int) (E : List (Int × Int)), b + t = sz → E.length + t ≤ 1000 → ∃ many' E', LoopAt aeC (ev7L ok7 tb7) 7 0 Try.f7 6 (s76 sz wi r many a b L (edD E)) (.exit 6) (e76 sz wi r many' a L (edD E'))
  | 0, b, many, E, hb, _ => ⟨many, E, .out k7_6 (by simp) ((t7_6 ..).trans (cnd_neg (by omega)))⟩
  | t + 1, b, many, E, hb, hE => by
    have hle : Nat.ble (lenOf 2 (edD E).length + 1) 1048576 = true := by rw [ed_len2, Nat.ble_eq]; omega
    have push : E.length + 1 = (E ++ [(a, (b : Int))]).length := by simp
    have hap : edD E ++ [iD a, iD (b : Int)] = edD (E ++ [(a, (b : Int))]) := by rw [edD_app]; rfl
    have hw : IntKind.wrap .i64 ((b : Int) + 1) = ((b + 1 : Nat) : Int) := wr1 (by omega)
    by_cases h1 : r = 0
    · obtain ⟨m', E', hL⟩ := loop76 hs wi r a L t (b + 1) (IntKind.wrap IntKind.i64 (many + 1)) (E ++ [(a, (b : Int))]) (by omega) (by simp; omega)
      refine ⟨m', E', .next k7_6 ((t7_6 ..).trans ((cnd_pos (by omega)).trans ((cnd_pos h1).trans ?_))) hL⟩
      rw [hle, hap, hw]; rfl
    · by_cases h2 : many = IntKind.wrap IntKind.i64 (Int.tmod (IntKind.wrap IntKind.u64 wi) 91)
      · obtain ⟨m', E', hL⟩ := loop76 hs wi r a L t (b + 1) (IntKind.wrap IntKind.i64 (many + 1)) E (by omega) (by omega)
        refine ⟨m', E', .next k7_6 ((t7_6 ..).trans ((cnd_pos (by omega)).trans ((cnd_neg h1).trans ?_))) hL⟩
        rw [decide_eq_true h2, hw]; rfl
      · obtain ⟨m', E', hL⟩ := loop76 hs wi r a L t (b + 1) (IntKind.wrap IntKind.i64 (many + 1)) (E ++ [(a, (b : Int))]) (by omega) (by simp; omega)
        refine ⟨m', E', .next k7_6 ((t7_6 ..).trans ((cnd_pos (by omega)).trans ((cnd_neg h1).trans ?_))) hL⟩
        rw [decide_eq_false h2, hle, hap, hw]; rfl
theorem loop74 {sz : Nat} (hs : sz ≤ 15) (wi r : Int) : ∀ (t a : Nat) (many : Int) (D : List DV) (R : List (List (Int × Int))), a + t = sz → isRows D R → R.length + t ≤ 1000 → ∃ D' R', isRows D' R' ∧ LoopAt aeC (ev7L ok7 tb7) 7 0 Try.f7 4 (s74 sz wi r many a D) (.exit 4) (s72 sz wi D' r)
  | 0, a, many, D, R, ha, h, _ => ⟨D, R, h, .out k7_4 (by simp) ((t7_4x ..).trans (cnd_neg (by omega)))⟩
  | t + 1, a, many, D, R, ha, h, hR => by
    obtain ⟨m', E', hL⟩ := loop76 hs wi r a D (sz - (a + 1)) (a + 1) many [] (by omega) (by simp; omega)
    obtain ⟨D', R', h1, h2⟩ := loop74 hs wi r t (a + 1) m' (D ++ [rowZ E' false (true && Nat.beq (edD E').length 0)]) (R ++ [E']) (by omega) (isRows_push h) (by simp; omega)
    refine ⟨D', R', h1, .nextF k7_4 ((startF_seg k7_4 ((t7_4 ..).trans ((cnd_pos (by omega)).trans ?_)) hL).trans (nextF_done k7_4 roundD_plain ((t7_46 ..).trans ?_))) h2⟩
    · rw [wr1 (by omega)]; rfl
    · rw [row_of, wr1 (by omega), show Nat.ble (lenOf 1 D.length + 1) 1048576 = true by rw [isRows_len h, Nat.ble_eq]; show R.length + 1 ≤ _; omega]; rfl
theorem loop72 (wi : Int) : ∀ (t : Nat) (sz : Int) (D : List DV) (R : List (List (Int × Int))), t ≤ 3 → isRows D R → LoopAt aeC (ev7L ok7 tb7) 7 0 Try.f7 2 (s72 sz wi D ((3 - t : Nat) : Int)) (.exit 2) ⟨[], [], []⟩
  | 0, sz, D, R, _, h => .out k7_2 (by simp) (t7_2x ..)
  | t + 1, sz, D, R, ht, h => by
    have hz := szN_le sz
    obtain ⟨s, hs⟩ : ∃ s : Nat, szN sz = s := ⟨(szN sz).toNat, by omega⟩
    obtain ⟨D', R', h1, h2⟩ := loop74 (sz := s) (by omega) wi ((3 - (t + 1) : Nat) : Int) s 0 0 [] [] (by omega) trivial (by simp; omega)
    have hh := r72 (sz := sz) h wi (r := ((3 - (t + 1) : Nat) : Int)) (by omega)
    rw [hs] at hh
    refine .nextF k7_2 ((startF_seg k7_2 hh h2).trans (nextF_done k7_2 roundD_plain ((t7_24 ..).trans ?_))) (loop72 wi t s D' R' (by omega) h1)
    rw [wr1 (by omega)]
    congr 4
    omega
theorem loop70 {sz wi : Int} {D : List DV} {R : List (List (Int × Int))} (hD : isRows D R) (nl : Bool) : ∀ (t i : Nat) (L : List DV) (Q : List (List (Int × Int))), i + t = min R.length 42 → isRows L Q → Q.length = i → ∃ L' Q', isRows L' Q' ∧ LoopAt aeC (ev7L ok7 tb7) 7 0 Try.f7 0 (s70 sz wi D R.length nl L i) (.exit 0) (x70 sz wi L')
  | 0, i, L, Q, hi, h, _ => by
    refine ⟨L, Q, h, .out k7_0 (by simp) ((t7_0 ..).trans ?_)⟩
    by_cases h1 : (i : Int) < (R.length : Int)
    · exact (cnd_pos h1).trans (cnd_neg (by omega))
    · exact cnd_neg h1
  | t + 1, i, L, Q, hi, h, hQ => by
    have hir : i < R.length := by omega
    obtain ⟨z, hz⟩ := getR_at hD hir fun cs m z => bif ok7 32 [DV.sl cs m 2 false z, iD 22] then (bif tb7.Z [DV.sl cs m 2 false z, iD 22] || true then (bif Nat.ble (lenOf 1 L.length + 1) 1048576 then
      some (Ex.norm, s70 sz wi D R.length nl (L ++ [DV.sl (tb7.B [DV.sl cs m 2 false z, iD 22]) (tb7.M [DV.sl cs m 2 false z, iD 22]) 2 false (tb7.Z [DV.sl cs m 2 false z, iD 22])]) (IntKind.wrap IntKind.i64 ((i : Int) + 1))) else none) else none) else none
    have g32 : ok7 32 [DV.sl (edD (R.getD i [])) (R.getD i []).length 2 false z, iD 22] = true := okS_is (c32 (R.getD i []) z)
    have hrow : DV.sl (tb7.B [DV.sl (edD (R.getD i [])) (R.getD i []).length 2 false z, iD 22]) (tb7.M [DV.sl (edD (R.getD i [])) (R.getD i []).length 2 false z, iD 22]) 2 false (tb7.Z [DV.sl (edD (R.getD i [])) (R.getD i []).length 2 false z, iD 22]) = rowZ ((R.getD i []).take 22) false (true && Nat.beq (edD ((R.getD i []).take 22)).length 0) := by
      show DV.sl (cutE (edD (R.getD i [])) (R.getD i []).length) (lenOf 2 (cutE (edD (R.getD i [])) (R.getD i []).length).length) 2 false (true && Nat.beq (cutE (edD (R.getD i [])) (R.getD i []).length).length 0) = _
      rw [cut_ed]; exact row_of _
    obtain ⟨L', Q', h1, h2⟩ := loop70 hD nl t (i + 1) (L ++ [rowZ ((R.getD i []).take 22) false (true && Nat.beq (edD ((R.getD i []).take 22)).length 0)]) (Q ++ [(R.getD i []).take 22]) (by omega) (isRows_push h) (by simp; omega)
    refine ⟨L', Q', h1, .next k7_0 ((t7_0 ..).trans ((cnd_pos (by omega)).trans ((cnd_pos (by omega)).trans (hz.trans ((cond_is' g32).trans ?_))))) h2⟩
    rw [hrow, Bool.or_true, cond_true, wr1 (by omega), show Nat.ble (lenOf 1 L.length + 1) 1048576 = true by rw [isRows_len h, Nat.ble_eq]; show Q.length + 1 ≤ _; omega]; rfl
/-- Law 7 on data. -/
theorem covers_pure (sz : Int) {D : List DV} {R : List (List (Int × Int))} (hD : isRows D R) (nl : Bool) (wi : Int) : PureOK Try.prog 7 [iD sz, .sl D R.length 1 false nl, iD wi] (bD true) := by
  have g20 : ok7 20 [] = true := okS_is awake_ok
  obtain ⟨L, Q, h1, h2⟩ := loop70 (sz := sz) (wi := wi) hD nl (min R.length 42) 0 [] [] (by omega) trivial rfl
  refine ae_pure (evT_ok (i7 tb7)) (fn := Try.f7) k7 (by kernel_rfl) (by kernel_rfl) ((startF_seg k7 (t7_h ok7 tb7 sz D R.length nl wi) h2).trans ((nextF_seg k7 (by decide) (exit_small (by decide)) (t7_m ..) (loop72 wi 3 sz L Q (by omega) h1)).trans (nextF_done k7 done_plain ((t7_e ..).trans ?_))))
  rw [g20]; rfl
end Go.Proofs.Ytkcdbndpcabelaa
