/- Part 4 of what the law stands on: the abstract machine over the model, and what the functions answer. No condition. -/
import Derived.Test.YtkcdbndpcabelaaM3
set_option linter.unusedSimpArgs false
set_option linter.unusedVariables false

/- Loops whose rounds are walked whole, with the loops in them. -/
namespace Go.AE
open Go

section
variable {C : Ctx} {E : Ev} {fid base : Nat} {res : List Nat} {out : Option Nat}

theorem iter_mono {k k' : Nat} {bid : Nat} {b : Code} {tid : St → Option St} (ih : ∀ (s : St) (ex : Ex) (s' : St), (∀ (R : Type) (K : Ex → St → Option R), codeE C E fid base k res out bid b s K = K ex s') → ∀ (R : Type) (K : Ex → St → Option R), codeE C E fid base k' res out bid b s K = K ex s') : ∀ (n n' : Nat), n ≤ n' → ∀ (s : St) (ex : Ex) (s' : St),
    (∀ (R : Type) (K : Ex → St → Option R), iterE (fun s K => codeE C E fid base k res out bid b s K) tid n s K = K ex s') → ∀ (R : Type) (K : Ex → St → Option R), iterE (fun s K => codeE C E fid base k' res out bid b s K) tid n' s K = K ex s'
  | 0, _, _, s, ex, s', h => by have := h Unit fun _ _ => some (); cases this
  | n + 1, 0, hn, _, _, _, _ => by omega
  | n + 1, n' + 1, hn, s, ex, s', h => by
    intro R K
    simp only [iterE] at h ⊢
    cases ht : tid s with
    | none => rw [ht] at h; have := h Unit fun _ _ => some (); cases this
    | some s1 =>
      rw [ht] at h
      simp only [Option.bind_some] at h ⊢
      rcases fac_codeE (C := C) (E := E) (fid := fid) (base := base) (k := k) (res := res) (out := out) b bid s1 with ⟨e2, s2, h1⟩ | h1
      · replace h1 : ∀ (R : Type) (K : Ex → St → Option R), codeE C E fid base k res out bid b s1 K = K e2 s2 := h1
        have r1 := ih s1 e2 s2 h1
        rw [r1]
        cases e2 with
        | norm =>
          refine iter_mono ih n n' (by omega) s2 ex s' (fun R K => ?_) R K
          have := h R K
          rw [h1] at this
          exact this
        | exit i => have := h R K; rw [h1] at this; exact this
        | ret => have := h R K; rw [h1] at this; exact this
      · replace h1 : ∀ (R : Type) (K : Ex → St → Option R), codeE C E fid base k res out bid b s1 K = none := h1
        have := h Unit fun _ _ => some ()
        rw [h1] at this; cases this

/-- More rounds do no harm. -/
theorem codeE_mono {k k' : Nat} (hk : k ≤ k') : ∀ (c : Code) (bid : Nat) (s : St) (ex : Ex) (s' : St), (∀ (R : Type) (K : Ex → St → Option R), codeE C E fid base k res out bid c s K = K ex s') → ∀ (R : Type) (K : Ex → St → Option R), codeE C E fid base k' res out bid c s K = K ex s' := by
  intro c
  induction c with
  | seq a b iha ihb =>
    intro bid s ex s' h R K
    rcases fac_codeE (C := C) (E := E) (fid := fid) (base := base) (k := k) (res := res) (out := out) a bid s with ⟨e1, s1, h1⟩ | h1
    · replace h1 : ∀ (R : Type) (K : Ex → St → Option R), codeE C E fid base k res out bid a s K = K e1 s1 := h1
      have r1 := iha bid s e1 s1 h1
      simp only [codeE] at h ⊢
      rw [r1]
      cases e1 with
      | norm =>
        refine ihb bid s1 ex s' (fun R K => ?_) R K
        have := h R K
        rw [h1] at this
        exact this
      | exit i => have := h R K; rw [h1] at this; exact this
      | ret => have := h R K; rw [h1] at this; exact this
    · replace h1 : ∀ (R : Type) (K : Ex → St → Option R), codeE C E fid base k res out bid a s K = none := h1
      have := h Unit fun _ _ => some ()
      simp only [codeE] at this
      rw [h1] at this; cases this
  | cond x a b iha ihb =>
    intro bid s ex s' h R K
    unfold codeE at h ⊢
    cases hx : ev s.env x with
    | d v =>
      cases v with
      | bool y =>
        rw [hx] at h
        cases y with
        | true => exact iha bid s ex s' h R K
        | false => exact ihb bid s ex s' h R K
      | _ => rw [hx] at h; have := h Unit fun _ _ => some (); cases this
    | _ => rw [hx] at h; have := h Unit fun _ _ => some (); cases this
  | block id b ih =>
    intro bid s ex s' h R K
    rcases fac_codeE (C := C) (E := E) (fid := fid) (base := base) (k := k) (res := res) (out := out) b id s with ⟨e1, s1, h1⟩ | h1
    · replace h1 : ∀ (R : Type) (K : Ex → St → Option R), codeE C E fid base k res out id b s K = K e1 s1 := h1
      have r1 := ih id s e1 s1 h1
      simp only [codeE] at h ⊢
      rw [r1]
      have := h R K
      rw [h1] at this
      exact this
    · replace h1 : ∀ (R : Type) (K : Ex → St → Option R), codeE C E fid base k res out id b s K = none := h1
      have := h Unit fun _ _ => some ()
      simp only [codeE] at this
      rw [h1] at this; cases this
  | loop b ih =>
    intro bid s ex s' h R K
    simp only [codeE] at h ⊢
    exact iter_mono (fun s ex s' => ih bid s ex s') k k' hk s ex s' h R K
  | scope b ih =>
    intro bid s ex s' h R K
    simp only [codeE] at h ⊢
    exact ih bid s ex s' h R K
  | _ => intro bid s ex s' h R K; have := h R K; simpa only [codeE] using this

theorem runs_of_codeE {X : Type} {k bid : Nat} {c : Code} {s : St} {D : Ex → St → Option X} {x : X} (h : codeE C E fid base k res out bid c s D = some x) : ∃ ex s1, D ex s1 = some x ∧ Runs C E fid base res out bid c s ex s1 := by
  obtain ⟨e1, s1, h1, h2⟩ := (fac_codeE (C := C) (E := E) (fid := fid) (base := base) (k := k) (res := res) (out := out) c bid s).keep h
  exact ⟨e1, s1, h1, k, fun k' hk => codeE_mono hk c bid s e1 s1 h2⟩
end

section
variable {C : Ctx} {E : Ev} {fid base : Nat} {fn : Func}
/-- One round, walked with all loops in it. -/
def inR {R : Type} (C : Ctx) (E : Ev) (fid base : Nat) (fn : Func) (k t : Nat) (S : St) (K : Ex → St → Option R) : Option R :=
  codeE C E fid base k (resTmps fn.results.toList) (some fn.ntmps) t (loopOf fn t) S K
/-- All rounds. -/
def inL {R : Type} (C : Ctx) (E : Ev) (fid base : Nat) (fn : Func) (k t : Nat) (S : St) (K : Ex → St → Option R) : Option R :=
  inR C E fid base fn k t S fun ex s => match ex with
    | .norm => codeE C E fid base k (resTmps fn.results.toList) (some fn.ntmps) t (.loop (loopOf fn t)) s K
    | e => K e s

/-- A loop walked whole. -/
theorem LoopAt.inl {k t : Nat} {S S' : St} {e : Ex} (h : inL C E fid base fn k t S (fun ex s => some (ex, s)) = some (e, S')) : LoopAt C E fid base fn t S e S' := by
  obtain ⟨e1, s1, h1, k1, r1⟩ := runs_of_codeE h
  cases e1 with
  | norm =>
    obtain ⟨e2, s2, h2, k2, r2⟩ := runs_of_codeE h1
    simp only [Option.some.injEq, Prod.mk.injEq] at h2
    obtain ⟨rfl, rfl⟩ := h2
    refine ⟨max k1 k2, k1 + k2 + 1, fun k hk j hj s hs R K => ?_⟩
    obtain ⟨j', rfl⟩ : ∃ j', j = j' + 1 := ⟨j - 1, by omega⟩
    simp only [iterE, hs, Option.bind_some]
    rw [r1 k (by omega)]
    have h5 := r2 k (by omega)
    have h6 := r2 (max k1 k2) (by omega)
    simp only [codeE] at h5 h6
    have q : max k1 k2 ≤ j' := by omega
    have h7 := iter_mono (C := C) (E := E) (fid := fid) (base := base) (k := max k1 k2) (k' := k) (fun s ex s' hh => codeE_mono hk (loopOf fn t) t s ex s' hh) (max k1 k2) j' q s1 e2 s2 h6
    exact h7 R K
  | exit i =>
    simp only [Option.some.injEq, Prod.mk.injEq] at h1
    obtain ⟨rfl, rfl⟩ := h1
    refine ⟨k1, 1, fun k hk j hj s hs R K => ?_⟩
    obtain ⟨j', rfl⟩ : ∃ j', j = j' + 1 := ⟨j - 1, by omega⟩
    simp only [iterE, hs, Option.bind_some]
    rw [r1 k hk]
  | ret =>
    simp only [Option.some.injEq, Prod.mk.injEq] at h1
    obtain ⟨rfl, rfl⟩ := h1
    refine ⟨k1, 1, fun k hk j hj s hs R K => ?_⟩
    obtain ⟨j', rfl⟩ : ∃ j', j = j' + 1 := ⟨j - 1, by omega⟩
    simp only [iterE, hs, Option.bind_some]
    rw [r1 k hk]
end
end Go.AE

/- What code comes to, when not all is told: sets of outcomes. For ranges over maps, whose order is drawn. -/
namespace Go.AE
open Go

section
variable {P : Program}

open Classical in
/-- Whether an outcome is one of these. -/
noncomputable def ind (Post : Ex → St → Prop) (ex : Ex) (s : St) : Option Unit := if Post ex s then some () else none
theorem ind_some {Post : Ex → St → Prop} {ex : Ex} {s : St} {r : Unit} (h : ind Post ex s = some r) : Post ex s := by
  unfold ind at h
  split at h
  · assumption
  · cases h
theorem ind_of {Post : Ex → St → Prop} {ex : Ex} {s : St} (h : Post ex s) : ind Post ex s = some () := by
  unfold ind; rw [if_pos h]

/-- In every world that fits, the code comes to one of these outcomes. -/
def Sat (P : Program) (C : Ctx) (fid N : Nat) (ro : Option Nat) (n : Nat) (w0 : World) (σ0 : Sg) (h0 : List Blk) (c : Code) (s : St) (Post : Ex → St → Prop) : Prop :=
  ∀ (a : Act) (w : World) (σ : Sg) (DF : List Deferred) (Q : Exit → Act → World → Prop), okCode C fid N c = true → SR N DF w σ s.env s.heap a → Step w0 σ0 h0 w σ s.heap → MK σ s.heap s.marks DF →
    (∀ ex s' e a' w' σ' DF', Post ex s' → ExRel ex e → SR N DF' w' σ' s'.env s'.heap a' → Step w0 σ0 h0 w' σ' s'.heap → MK σ' s'.heap s'.marks DF' → Q e a' w') → c.wpIn (FW ro) n P Q a w

variable {C : Ctx} {fid N n : Nat} {ro : Option Nat} {w0 : World} {σ0 : Sg} {h0 : List Blk}

theorem Sat.mono {c : Code} {s : St} {Q1 Q2 : Ex → St → Prop} (h : Sat P C fid N ro n w0 σ0 h0 c s Q1) (hq : ∀ ex s', Q1 ex s' → Q2 ex s') : Sat P C fid N ro n w0 σ0 h0 c s Q2 :=
  fun a w σ DF Q hok hs hp hmk hQ => h a w σ DF Q hok hs hp hmk fun ex s' e a' w' σ' DF' k1 => hQ ex s' e a' w' σ' DF' (hq ex s' k1)

/-- Code whose outcome is told. -/
theorem Sat.code (hT : TOK P C.T) (hE : EqOK P C.T) (hm : P.follows .mixedOrders = true) {E : Ev} (hV : EvOK P E) {k : Nat} {res : List Nat} {out : Option Nat} (ho : ∀ M, out = some M → M = N ∧ ro = none) (hi0 : HInv w0 σ0 h0)
    {c : Code} {bid : Nat} {s : St} {Post : Ex → St → Prop} (h : codeE C E fid h0.length k res out bid c s (ind Post) = some ()) : Sat P C fid N ro n w0 σ0 h0 c s Post :=
  fun a w σ DF Q hok hs hp hmk hQ => codeE_wp hT hE hm hV ho hi0 c bid s (ind Post) a w σ DF Q hok hs hp hmk h fun ex s' e a' w' σ' DF' k1 => hQ ex s' e a' w' σ' DF' (ind_some k1)

theorem Sat.seq {x y : Code} {s : St} {Q1 Post : Ex → St → Prop} (h1 : Sat P C fid N ro n w0 σ0 h0 x s Q1) (h2 : ∀ s', Q1 .norm s' → Sat P C fid N ro n w0 σ0 h0 y s' Post) (h3 : ∀ ex s', ex ≠ .norm → Q1 ex s' → Post ex s') : Sat P C fid N ro n w0 σ0 h0 (.seq x y) s Post := by
  intro a w σ DF Q hok hs hp hmk hQ
  simp only [okCode, Bool.and_eq_true] at hok
  refine wpIn_seq (h1 a w σ DF _ hok.1 hs hp hmk ?_)
  intro ex s' e a' w' σ' DF' k1 k2 k3 k4 k5
  cases ex with
  | norm => simp only [ExRel] at k2; subst k2; exact h2 s' k1 a' w' σ' DF' Q hok.2 k3 k4 k5 hQ
  | exit i => have := hQ _ _ e a' w' σ' DF' (h3 _ _ (by simp) k1) k2 k3 k4 k5; simp only [ExRel] at k2; subst k2; exact this
  | ret => have := hQ _ _ e a' w' σ' DF' (h3 _ _ (by simp) k1) k2 k3 k4 k5; simp only [ExRel] at k2; subst k2; exact this

theorem Sat.cond {x : Operand} {y z : Code} {s : St} {b : Bool} {Post : Ex → St → Prop} (e : ev s.env x = .d (.bool b)) (h : Sat P C fid N ro n w0 σ0 h0 (bif b then y else z) s Post) : Sat P C fid N ro n w0 σ0 h0 (.cond x y z) s Post := by
  intro a w σ DF Q hok hs hp hmk hQ
  simp only [okCode, Bool.and_eq_true] at hok
  have hx := ev_rel hs.inv.glob hs.env x
  rw [e] at hx
  refine wpIn_cond hx.bool ?_
  cases b with
  | true => exact h a w σ DF Q hok.1 hs hp hmk hQ
  | false => exact h a w σ DF Q hok.2 hs hp hmk hQ

theorem Sat.scope {b : Code} {s : St} {Post : Ex → St → Prop} (h : Sat P C fid N ro n w0 σ0 h0 b s Post) : Sat P C fid N ro n w0 σ0 h0 (.scope b) s Post := by
  intro a w σ DF Q hok hs hp hmk hQ
  simp only [okCode] at hok
  refine wpIn_scope (h a w σ DF _ hok hs hp hmk ?_)
  intro ex s' e a' w' σ' DF' k1 k2 k3 k4 k5
  have := hQ ex s' e a' w' σ' DF' k1 k2 k3 k4 k5
  cases ex <;> (simp only [ExRel] at k2; subst k2; exact this)

theorem Sat.block {id : Nat} {b : Code} {s : St} {Q1 Post : Ex → St → Prop} (h : Sat P C fid N ro n w0 σ0 h0 b s Q1) (h1 : ∀ s', Q1 .norm s' → Post .norm s') (h2 : ∀ s', Q1 .ret s' → Post .ret s') (h3 : ∀ i s', Q1 (.exit i) s' → if i = id then Post .norm s' else Post (.exit i) s') : Sat P C fid N ro n w0 σ0 h0 (.block id b) s Post := by
  intro a w σ DF Q hok hs hp hmk hQ
  simp only [okCode] at hok
  refine wpIn_block (h a w σ DF _ hok hs hp hmk ?_)
  intro ex s' e a' w' σ' DF' k1 k2 k3 k4 k5
  cases ex with
  | norm => have := hQ _ _ e a' w' σ' DF' (h1 _ k1) k2 k3 k4 k5; simp only [ExRel] at k2; subst k2; exact this
  | ret => have := hQ _ _ e a' w' σ' DF' (h2 _ k1) k2 k3 k4 k5; simp only [ExRel] at k2; subst k2; exact this
  | exit i =>
    have h4 := h3 i s' k1
    simp only [ExRel] at k2; subst k2
    simp only [Exit.inBlock]
    by_cases q : i = id
    · rw [if_pos q] at h4 ⊢
      exact hQ .norm s' .normal a' w' σ' DF' h4 rfl k3 k4 k5
    · rw [if_neg q] at h4 ⊢
      exact hQ (.exit i) s' (.exit i) a' w' σ' DF' h4 rfl k3 k4 k5

/-- A loop, by an invariant and a number that goes down. -/
theorem Sat.loop (hi0 : HInv w0 σ0 h0) {b : Code} {bid : Nat} {Post : Ex → St → Prop} (I : Nat → St → Prop)
    (hb : ∀ m s, I m s → ∃ s1, tidyP h0.length (C.pol fid bid) s = some s1 ∧ Sat P C fid N ro n w0 σ0 h0 b s1 fun ex s' => match ex with
      | .norm => ∃ m', m' < m ∧ I m' s'
      | e => Post e s') : ∀ m s, I m s → Sat P C fid N ro n w0 σ0 h0 (.loop b) s Post := by
  intro m s hI a w σ DF Q hok hs hp hmk hQ
  simp only [okCode] at hok
  have key : ∀ M m, m < M → ∀ (s : St) (a : Act) (w : World) (σ : Sg) (DF : List Deferred), I m s → SR N DF w σ s.env s.heap a → Step w0 σ0 h0 w σ s.heap → MK σ s.heap s.marks DF → Code.roundsIn (FW ro) n P b Q M a w := by
    intro M
    induction M with
    | zero => intro m h; omega
    | succ M ih =>
      intro m hm s a w σ DF hI hs hp hmk
      obtain ⟨s1, ht, hsat⟩ := hb m s hI
      obtain ⟨σ1, DF1, q1, q2, q3⟩ := tidyP_sound hi0 hs hp hmk ht
      refine hsat a w σ1 DF1 _ hok q1 q2 q3 ?_
      intro ex s' e a' w' σ' DF' k1 k2 k3 k4 k5
      cases ex with
      | norm =>
        simp only [ExRel] at k2; subst k2
        obtain ⟨m', hm', hI'⟩ := k1
        exact ih m' (by omega) s' a' w' σ' DF' hI' k3 k4 k5
      | exit i => have := hQ _ _ e a' w' σ' DF' k1 k2 k3 k4 k5; simp only [ExRel] at k2; subst k2; exact this
      | ret => have := hQ _ _ e a' w' σ' DF' k1 k2 k3 k4 k5; simp only [ExRel] at k2; subst k2; exact this
  exact wpIn_loop_rounds (m + 1) (key (m + 1) m (Nat.lt_succ_self _) s a w σ DF hI hs hp hmk)
end
end Go.AE

/- The next entry of a map, in any order. -/
namespace Go.AE
open Go Go.MapKept

section
variable {P : Program} {w : World} {σ : Sg} {h : List Blk}

theorem choose_run (P : Program) (w : World) {n : Nat} (hn : 1 ≤ n) : ∃ j w1, (choose (.mapNext n)).run P w = .ok j w1 ∧ j < n ∧ w1.heap = w.heap ∧ w1.os = w.os ∧ w1.tape = w.tape ∧ w1.output = w.output ∧ (n ≤ 1 → w1 = w) := by
  by_cases h1 : n ≤ 1
  · refine ⟨0, w, ?_, by omega, rfl, rfl, rfl, rfl, fun _ => rfl⟩
    simp [choose, Sem.run, Question.forced, h1]
  · refine ⟨_, { w with drawn := w.drawn + 1 }, by simp [choose, Sem.run, Question.forced, h1]; rfl, ?_, rfl, rfl, rfl, rfl, fun h => absurd h h1⟩
    show Question.cut (.mapNext n) _ < n
    exact Nat.mod_lt _ (by omega)
/-- What the next step of an iterator may be. -/
def NextOut (b m n : Nat) (seen : List Nat) (es : List (DV × DV)) (h : List Blk) (v : AV) (h' : List Blk) : Prop :=
  ((∀ i, i < n → i ∈ seen) ∧ v = .d (.tup [.bool false]) ∧ h' = h) ∨
  ∃ i e, i < n ∧ i ∉ seen ∧ nth es i = some e ∧ v = .d (.tup [.bool true, e.1, e.2]) ∧ h' = setNth h b (.mit m n (seen ++ [i]))
/-- One step of an iterator over a map. -/
theorem next_any (hi : HInv w σ h) {ty : TypeId} {b m n : Nat} {seen : List Nat} {es : List (DV × DV)} {x : Value} (ha : ARel w σ h (.ref b 0) x) (hb : nth h b = some (.mit m n seen)) (hm : nth h m = some (.mp es)) (hn : es.length = n) :
    ∃ v h', NextOut b m n seen es h v h' ∧ ∃ u w' σ', (Instr.next x false ty).run P w = .ok u w' ∧ HInv w' σ' h' ∧ Step w σ h w' σ' h' ∧ ARel w' σ' h' v u := by
  simp only [ARel] at ha
  rcases ha.2 with e | ⟨c, hc, rfl⟩
  · exact absurd e (not_dead hb (by simp))
  have hB := hi.blk b _ hb
  simp only [BRel] at hB
  obtain ⟨c', cm, h1, h2, h3, h4⟩ := hB
  rw [hc] at h1; cases h1
  have hM := hi.blk m _ hm
  simp only [BRel] at hM
  obtain ⟨cm', E, g1, g2, g3⟩ := hM
  rw [h2] at g1; cases g1
  rw [hn] at g2
  have hget : (getObj c.1).run P w = .ok (.mapIter (some cm.1) n seen.toArray n) w := by simp [getObj, Sem.run, h3]
  have hobj := MapKept.run_getObj_map g2 (P := P)
  -- the entries are numbered
  have hborn : ∀ (i : Nat) (y : MapEntry), E.toList[i]? = some y → y.born = i := by
    intro i y hy
    have hlt : i < E.toList.length := by
      rcases Nat.lt_or_ge i E.toList.length with q | q
      · exact q
      · rw [List.getElem?_eq_none q] at hy; cases hy
    have hl := g3.len
    obtain ⟨e, he⟩ : ∃ e, nth es i = some e := by
      rw [nth_eq]
      exact ⟨es[i]'(by omega), List.getElem?_eq_getElem (by omega)⟩
    obtain ⟨y', e1, e2, _⟩ := g3.get i e he
    rw [hy] at e1; cases e1
    omega
  have hlen : E.toList.length = n := by have := g3.len; omega
  have hall : ∀ y ∈ E.toList, y.born < n := by
    intro y hy
    obtain ⟨i, hi', e⟩ := List.getElem_of_mem hy
    have := hborn i y (by rw [List.getElem?_eq_getElem hi', e])
    omega
  have hstop : (!seen.toArray.isEmpty && !E.isEmpty && E.all fun (y : MapEntry) => decide (y.born ≥ n)) = false := by
    cases hE : E.isEmpty with
    | true => simp
    | false =>
      have : (E.all fun (y : MapEntry) => decide (y.born ≥ n)) = false := by
        rw [Bool.eq_false_iff]
        intro hc
        rw [Array.all_eq_true_iff_forall_mem] at hc
        have hpos : 0 < E.size := by
          rcases Nat.eq_zero_or_pos E.size with q | q
          · rw [Array.isEmpty_iff_size_eq_zero.2 q] at hE; cases hE
          · exact q
        have h0 := hc E[0] (Array.getElem_mem hpos)
        have h1 := hall E[0] (Array.mem_toList_iff.2 (Array.getElem_mem hpos))
        simp only [decide_eq_true_eq] at h0
        omega
      rw [this]; simp
  obtain ⟨L, hL⟩ : ∃ L, L = E.filter fun (e : MapEntry) => !seen.toArray.contains e.born := ⟨_, rfl⟩
  obtain ⟨cand, hcand⟩ : ∃ cand : Array (Option MapEntry), cand = (if (L.filter fun (e : MapEntry) => decide (e.born < n)).isEmpty then #[none] else #[]) ++ ((L.filter fun (e : MapEntry) => decide (e.born < n)) ++ (L.filter fun (e : MapEntry) => decide (e.born ≥ n))).map some := ⟨_, rfl⟩
  have hpos : 1 ≤ cand.size := by
    rw [hcand]
    split
    · simp
    · rename_i hne
      have : 0 < (L.filter fun (e : MapEntry) => decide (e.born < n)).size := by
        rcases Nat.eq_zero_or_pos (L.filter fun (e : MapEntry) => decide (e.born < n)).size with q | q
        · exact absurd (Array.isEmpty_iff_size_eq_zero.2 q) (by simpa using hne)
        · exact q
      simp only [Array.size_append, Array.size_map, Array.size_empty]
      omega
  obtain ⟨j, w1, e1, hj, a1, a2, a3, a4, a5⟩ := choose_run P w hpos
  have hrun : (Instr.next (.pointer (some ⟨c.1, 0, none⟩)) false ty).run P w = (match cand[j]? with
      | some (some e) => (do setObj c.1 (.mapIter (some cm.1) n (seen.toArray.push e.born) n); pure (.tuple #[.bool true, e.key, e.val]) : Sem Value)
      | some none => pure (.tuple #[.bool false])
      | none => stuck "Next: no such candidate").run P w1 := by
    rw [hcand, hL]
    rw [hcand, hL] at e1
    simp only [Instr.next, Sem.run_bind, hget, hobj, Result.andThen, hstop, Bool.false_eq_true, if_false, e1]
    rfl
  have hnew : (L.filter fun (e : MapEntry) => decide (e.born ≥ n)) = #[] := by
    rw [Array.filter_eq_empty_iff]
    intro y hy
    rw [hL, Array.mem_filter] at hy
    have := hall y (Array.mem_toList_iff.2 hy.1)
    simp only [decide_eq_true_eq]
    omega
  have hz : cand[j]? = some cand[j] := Array.getElem?_eq_getElem hj
  cases hcj : cand[j] with
  | none =>
    rw [hz, hcj] at hrun
    have hemp : (L.filter fun (e : MapEntry) => decide (e.born < n)).isEmpty = true := by
      apply Classical.byContradiction
      intro hne
      have hmem : (none : Option MapEntry) ∈ cand := by rw [← hcj]; exact Array.getElem_mem hj
      rw [hcand, if_neg hne] at hmem
      simp at hmem
    have hw : w1 = w := a5 (by
      rw [hcand, if_pos hemp, hnew, Array.isEmpty_iff.1 hemp]
      simp)
    subst hw
    refine ⟨_, _, .inl ⟨fun i hi' => ?_, rfl, rfl⟩, .tuple #[.bool false], w1, σ, hrun, hi, Step.refl _ _ _, by simp only [ARel, DRel]; exact ⟨_, rfl, by simp [DVals, DRel]⟩⟩
    apply Classical.byContradiction
    intro hs
    have hlt : i < E.toList.length := by omega
    have hb' := hborn i (E.toList[i]) (List.getElem?_eq_getElem hlt)
    have hm' : E.toList[i] ∈ L.filter fun (e : MapEntry) => decide (e.born < n) := by
      rw [Array.mem_filter, hL, Array.mem_filter]
      refine ⟨⟨Array.mem_toList_iff.1 (List.getElem_mem hlt), ?_⟩, by rw [hb']; simpa using hi'⟩
      rw [hb']
      simpa using hs
    rw [Array.isEmpty_iff.1 hemp] at hm'
    exact absurd hm' (Array.not_mem_empty _)
  | some e =>
    rw [hz, hcj] at hrun
    have hmem : (some e : Option MapEntry) ∈ cand := by rw [← hcj]; exact Array.getElem_mem hj
    have heL : e ∈ L := by
      rw [hcand, Array.mem_append] at hmem
      rcases hmem with hmem | hmem
      · split at hmem <;> simp at hmem
      · rw [hnew, Array.append_empty, Array.mem_map] at hmem
        obtain ⟨y, hy, e2⟩ := hmem
        cases e2
        exact (Array.mem_filter.1 hy).1
    rw [hL, Array.mem_filter] at heL
    obtain ⟨heE, hns⟩ := heL
    obtain ⟨i, hi', he⟩ := List.getElem_of_mem (Array.mem_toList_iff.2 heE)
    have hbi := hborn i e (by rw [List.getElem?_eq_getElem hi', he])
    obtain ⟨d, hd⟩ : ∃ d, nth es i = some d := by
      rw [nth_eq]
      exact ⟨es[i]'(by omega), List.getElem?_eq_getElem (by omega)⟩
    obtain ⟨y', q1, q2, q3, q4, q5⟩ := g3.get i d hd
    rw [List.getElem?_eq_getElem hi', he] at q1
    cases q1
    have hseen : i ∉ seen := by
      rw [hbi] at hns
      simpa using hns
    have h3' : w1.heap[c.1]? = some (.mapIter (some cm.1) n seen.toArray n) := by rw [a1]; exact h3
    have hset : (setObj c.1 (.mapIter (some cm.1) n (seen.toArray.push e.born) n)).run P w1 = .ok () { w1 with heap := w1.heap.setIfInBounds c.1 (.mapIter (some cm.1) n (seen.toArray.push e.born) n) } := by simp [setObj, Sem.run, h3']
    have hb' : BRel { w1 with heap := w1.heap.setIfInBounds c.1 (.mapIter (some cm.1) n (seen.toArray.push e.born) n) } σ (setNth h b (.mit m n (seen ++ [i]))) b (.mit m n (seen ++ [i])) := by
      refine ⟨c, cm, hc, h2, ?_, ?_⟩
      · rw [set_same h3', hbi]; simp
      · intro x hx
        rcases List.mem_append.1 hx with hx | hx
        · exact h4 x hx
        · simp only [List.mem_singleton] at hx; omega
    obtain ⟨k1, k2⟩ := hi.write (x := .mit m n (seen ++ [i])) (w' := { w1 with heap := w1.heap.setIfInBounds c.1 (.mapIter (some cm.1) n (seen.toArray.push e.born) n) }) hb rfl hc rfl a2 a3 a4 (by simp [a1]) (fun k hk => by simp [a1, Array.getElem?_setIfInBounds_ne (Ne.symm hk)]) hb'
    refine ⟨_, _, .inr ⟨i, d, by omega, hseen, hd, rfl, rfl⟩, .tuple #[.bool true, e.key, e.val], _, _, hrun.trans (by
      show ((setObj c.1 (.mapIter (some cm.1) n (seen.toArray.push e.born) n)) >>= fun _ => pure (.tuple #[.bool true, e.key, e.val]) : Sem Value).run P w1 = _
      rw [Sem.run_bind, hset]; rfl), k1, k2, ?_⟩
    have hG : ∀ k, σ.G k → σ.G k ∧ ({ w1 with heap := w1.heap.setIfInBounds c.1 (.mapIter (some cm.1) n (seen.toArray.push e.born) n) } : World).heap[k]? = w.heap[k]? := fun k hk => ⟨hk, by
      have : k ≠ c.1 := by rintro rfl; exact hi.sep _ ⟨b, c, ⟨_, hb, rfl⟩, hc, rfl⟩ hk
      simp [a1, Array.getElem?_setIfInBounds_ne (Ne.symm this)]⟩
    simp only [ARel, DRel]
    refine ⟨_, rfl, ?_⟩
    simp only [DVals]
    exact ⟨_, _, rfl, by simp [DRel], _, _, rfl, DRel.mono hG _ _ q3, _, _, rfl, DRel.mono hG _ _ q4, rfl⟩
end
end Go.AE

/- Regions that begin with the next entry of a map; functions whose code comes to one of some outcomes. -/
namespace Go.AE
open Go

section
variable {P : Program} {C : Ctx} {fid N n : Nat} {ro : Option Nat} {w0 : World} {σ0 : Sg} {h0 : List Blk}

theorem Sat.region_next (hT : TOK P C.T) (hE : EqOK P C.T) {E : Ev} (hV : EvOK P E) {id : Nat} {ops : Array Oper} {s : St} {Post : Ex → St → Prop} {o : Oper} {x : Operand} {rest : List Oper} (hops : ops.toList = o :: rest) (hop : o.op = .next x false) (hgd : o.guard = none)
    {b m nn : Nat} {seen : List Nat} {es : List (DV × DV)} (hev : ev s.env x = .ref b 0) (hb : nth s.heap b = some (.mit m nn seen)) (hm : nth s.heap m = some (.mp es)) (hn : es.length = nn)
    (hall : ∀ v h', NextOut b m nn seen es s.heap v h' → runE C E ops.toList rest (putE o.dst v s.env) h' (fun env h => ind Post .norm ⟨env, h, s.marks⟩) = some ()) : Sat P C fid N ro n w0 σ0 h0 (.region id ops false) s Post := by
  intro a w σ DF Q hok hs hp hmk hQ
  have hd : ∀ o ∈ ops.toList, ∀ t, o.dst = some t → t < N := by
    intro o ho t ht
    simp only [okCode, Bool.and_eq_true, List.all_eq_true] at hok
    have := hok.1 o ho
    rw [ht] at this
    simpa [Nat.blt_eq] using this
  refine wpIn_region ?_
  have hsz : ops.size = rest.length + 1 := by rw [← Array.length_toList, hops]; rfl
  rw [List.range_eq_range', hsz, List.range'_succ]
  have ho : ops[0]? = some o := by rw [← Array.getElem?_toList, hops]; rfl
  simp only [wpOpsIn, ho]
  have hwant : Region.wanted o (yielded ops a.tmps) = true := by unfold Region.wanted; rw [hgd]
  rw [if_pos hwant]
  refine ⟨fun _ _ => trivial, ?_⟩
  rw [semAt_FW ro o a.eval (by rw [hop]; intro c; simp)]
  have hx := ev_rel hs.inv.glob hs.env x
  rw [hev] at hx
  obtain ⟨v, h', hout, u, w', σ', k1, k2, k3, k4⟩ := next_any (P := P) (ty := o.type) hs.inv hx hb hm hn
  have hO : Out P w σ s.heap (execOp a.eval o) v h' := by
    have := Out.made (P := P) k1 k2 k3 k4
    unfold execOp
    rw [hop]
    exact this
  obtain ⟨nx, u', w2, σ2, j1, j2, j3, j4, j5⟩ := hO
  rw [j1]
  have hgo := runE_wp (K := fun env h => ind Post .norm ⟨env, h, s.marks⟩) hT hE hV (ops := ops) (ro := ro) (n := n) (Q := Q) rest [o] (putE o.dst v s.env) h' (a.put o.dst u') w2 σ2 (by rw [hops]; rfl) (fun o' ho' => hd o' (by rw [hops]; exact List.mem_cons_of_mem _ ho')) (SR.put ⟨hs.inv, hs.env, hs.size, hs.defers⟩ j3 j4 j5 (hd o (by rw [hops]; exact List.mem_cons_self ..))) (hall v h' hout)
    (fun env' h2 a' w3 σ3 q1 q2 q3 => hQ .norm ⟨env', h2, s.marks⟩ .normal a' w3 σ3 DF (ind_some q1) rfl q2 ((hp.trans j4).trans q3) ((hmk.mono j4.keeps hs.inv.len).mono q3.keeps j3.len))
  cases nx <;> simp [taken] at j2
  · subst j2; exact hgo
  · subst j2; exact hgo

/-- A function's call, by what its code comes to. -/
theorem sat_calls {R : Type} {r : R} (hT : TOK P C.T) {fn : Func} (hf : FnOK P C fid fn) {c : Code} (hc : fn.body = some c) {args : List AV} {h : List Blk} {K : AV → List Blk → Option R} (hle : Nat.ble args.length fn.ntmps = true)
    (hS : ∀ (w : World) (σ : Sg), HInv w σ h → Sat P C fid fn.ntmps none 0 w σ h c ⟨envOf 0 args, h, []⟩ fun ex s' => doneE C fn h.length K ex s' = some r) : Enters P fid ∧ ∀ (w : World) (σ : Sg) (vs : Array Value), HInv w σ h → AVals w σ h args vs.toList →
    Calls P fid vs w fun e w' => ∃ v h' u σ', K v h' = some r ∧ e = .returned u ∧ HInv w' σ' h' ∧ Step w σ h w' σ' h' ∧ ARel w' σ' h' v u := by
  refine ⟨⟨fn, hf.at_, hf.name, by rw [hc]; rfl⟩, ?_⟩
  intro w σ vs hi q
  refine callsIn_wide.1 (callsIn_of_wp_marks (n := 0) hf.at_ hc trivial ?_ rfl)
  have hlen := q.get.1
  have hle := Nat.le_of_ble_eq_true hle
  have hs : SR fn.ntmps [] w σ (envOf 0 args) h { tmps := vs ++ Array.replicate (fn.ntmps - vs.size) undef, defers := [] } :=
    ⟨hi, enter_rel q, by simp at hlen ⊢; omega, rfl⟩
  refine hS w σ hi _ w σ [] _ (hf.code c hc) hs (Step.refl _ _ _) rfl ?_
  intro ex s' e a' w' σ' DF' k1 k2 k3 k4 k5
  have fin : ∀ (v : AV) (h' : List Blk) (u : Value) (w' : World) (σ' : Sg), K v h' = some r → HInv w' σ' h' → Step w σ h w' σ' h' → ARel w' σ' h' v u →
      (fun (e : Ending) (w' : World) => ∃ v h' u σ', K v h' = some r ∧ e = .returned u ∧ HInv w' σ' h' ∧ Step w σ h w' σ' h' ∧ ARel w' σ' h' v u) (.returned u) w' := fun v h' u w' σ' g1 g2 g3 g4 => ⟨v, h', u, σ', g1, rfl, g2, g3, g4⟩
  cases ex with
  | exit i => simp [doneE] at k1
  | norm =>
    simp only [ExRel] at k2; subst k2
    simp only [doneE] at k1
    obtain ⟨s2, t1, k1⟩ := Option.bind_eq_some_iff.1 k1
    obtain ⟨σ2, t2, t3, t4⟩ := tidy_sound hi k3 k4 k5 t1
    exact (out_sound (F := Fence.wide) (n := 0) (Rr := fun e w' => ∃ v h' u σ', K v h' = some r ∧ e = .returned u ∧ HInv w' σ' h' ∧ Step w σ h w' σ' h' ∧ ARel w' σ' h' v u) hT t2 t3 t4 k1 fin)
  | ret =>
    simp only [ExRel] at k2; subst k2
    simp only [doneE] at k1
    exact (out_sound (F := Fence.wide) (n := 0) (Rr := fun e w' => ∃ v h' u σ', K v h' = some r ∧ e = .returned u ∧ HInv w' σ' h' ∧ Step w σ h w' σ' h' ∧ ARel w' σ' h' v u) hT k3 k4 k5 k1 fin)

/-- A function's contract, from data to data, by what its code comes to. -/
theorem pure_of_sat (hT : TOK P C.T) {fn : Func} (hf : FnOK P C fid fn) {c : Code} (hc : fn.body = some c) {ds : List DV} {d : DV} (hle : Nat.ble ds.length fn.ntmps = true)
    (hS : ∀ (w : World) (σ : Sg), HInv w σ [] → Sat P C fid fn.ntmps none 0 w σ [] c ⟨envOf 0 (ds.map .d), [], []⟩ fun ex s' => doneE C fn 0 (fun v h => freezeP fid h v) ex s' = some d) : PureOK P fid ds d := by
  obtain ⟨k1, k2⟩ := sat_calls (h := []) (K := fun v h => freezeP fid h v) hT hf hc (args := ds.map .d) (by simpa using hle) hS
  refine ⟨k1, fun w G vs hG hg q => ?_⟩
  have hi : HInv w ⟨G, []⟩ [] := ⟨rfl, by intro b x hb; simp [nth] at hb, by rintro b1 b2 c1 c2 ⟨x, hx, _⟩; simp [nth] at hx, by rintro k ⟨b, c, ⟨x, hx, _⟩, _⟩; simp [nth] at hx, hG, hg⟩
  refine Calls.mono (k2 w ⟨G, []⟩ vs hi (AVals.to_D q)) ?_
  rintro e w' ⟨v, h', u, σ', g1, rfl, g2, g3, g4⟩
  have hno : ∀ k, ¬ Mine ⟨G, []⟩ [] k := by rintro k ⟨b, c, ⟨x, hx, _⟩, _⟩; simp [nth] at hx
  refine ⟨u, rfl, ⟨g3.os, g3.tape, g3.output, g3.size, fun k hk => g3.other k hk (hno k)⟩, ?_⟩
  refine (freezeP_rel g2 g1 g4).wider ?_
  rintro k (⟨hfr, hk⟩ | ⟨b, c, _, hb, hc, rfl⟩)
  · rcases g3.more k hk with m | m | m
    · exact .inl ⟨hfr, m⟩
    · exact absurd m (hno k)
    · exact .inr ⟨m, g2.bound k hk⟩
  · rcases g3.mine c.1 ⟨b, c, hb, hc, rfl⟩ with m | m
    · exact absurd m (hno _)
    · exact .inr ⟨m, g2.lt ⟨b, c, hb, hc, rfl⟩⟩
end
end Go.AE

/- Code by its parts; regions that begin with an entry of a map. -/
namespace Go.AE
open Go

/-- A part of code. -/
def kid (i : Nat) : Code → Code
  | .seq a b => match i with
    | 0 => a
    | _ => b
  | .cond _ a b => match i with
    | 0 => a
    | _ => b
  | .block _ b => b
  | .loop b => b
  | .scope b => b
  | _ => .skip
def isSeq : Code → Bool
  | .seq _ _ => true
  | _ => false
def isLoop : Code → Bool
  | .loop _ => true
  | _ => false
def isBlock (id : Nat) : Code → Bool
  | .block i _ => Nat.beq i id
  | _ => false
def opsOf : Code → List Oper
  | .region _ ops _ => ops.toList
  | _ => []
def isReg : Code → Bool
  | .region _ _ d => !d
  | _ => false
theorem seq_of : ∀ {c : Code}, isSeq c = true → c = .seq (kid 0 c) (kid 1 c)
  | .seq _ _, _ => rfl
theorem loop_of : ∀ {c : Code}, isLoop c = true → c = .loop (kid 0 c)
  | .loop _, _ => rfl
theorem block_of {id : Nat} : ∀ {c : Code}, isBlock id c = true → c = .block id (kid 0 c)
  | .block i _, h => by rw [show i = id from Nat.eq_of_beq_eq_true h]; rfl
theorem reg_of : ∀ {c : Code}, isReg c = true → ∃ i ops, c = .region i ops false ∧ ops.toList = opsOf c
  | .region i ops d, h => by
    cases d with
    | true => cases h
    | false => exact ⟨i, ops, rfl, rfl⟩

/-- Only what ends as it should goes on. -/
def nk {X : Type} (D : St → Option X) : Ex → St → Option X
  | .norm, s => D s
  | _, _ => none
theorem nk_some {X : Type} {D : St → Option X} {ex : Ex} {s : St} {x : X} (h : nk D ex s = some x) : ex = .norm ∧ D s = some x := by
  cases ex <;> first | exact ⟨rfl, h⟩ | cases h
/-- The first parts of a chain of code. -/
def spineC : Nat → Code → List Code
  | 0, _ => []
  | n + 1, c => kid 0 c :: spineC n (kid 1 c)
def back : Nat → Code → Code
  | 0, c => c
  | n + 1, c => back n (kid 1 c)
def allSeq : Nat → Code → Bool
  | 0, _ => true
  | n + 1, c => isSeq c && allSeq n (kid 1 c)
/-- Codes one by one. -/
def chainE {X : Type} (C : Ctx) (E : Ev) (fid base k : Nat) (res : List Nat) (out : Option Nat) (bid : Nat) : List Code → (St → Option X) → St → Option X
  | [], F, s => F s
  | c :: cs, F, s => codeE C E fid base k res out bid c s (nk (chainE C E fid base k res out bid cs F))

section
variable {P : Program} {C : Ctx} {fid N n : Nat} {ro : Option Nat} {w0 : World} {σ0 : Sg} {h0 : List Blk}

theorem Sat.seq' {c : Code} {s : St} {Q1 Post : Ex → St → Prop} (hc : isSeq c = true) (h1 : Sat P C fid N ro n w0 σ0 h0 (kid 0 c) s Q1) (h2 : ∀ s', Q1 .norm s' → Sat P C fid N ro n w0 σ0 h0 (kid 1 c) s' Post) (h3 : ∀ ex s', ex ≠ .norm → Q1 ex s' → Post ex s') : Sat P C fid N ro n w0 σ0 h0 c s Post := by
  rw [seq_of hc]; exact Sat.seq h1 h2 h3
/-- A piece that ends in one state, then the rest. -/
theorem Sat.then {c : Code} {s s1 : St} {Post : Ex → St → Prop} (hc : isSeq c = true) (h1 : Sat P C fid N ro n w0 σ0 h0 (kid 0 c) s fun ex s' => ex = .norm ∧ s' = s1) (h2 : Sat P C fid N ro n w0 σ0 h0 (kid 1 c) s1 Post) : Sat P C fid N ro n w0 σ0 h0 c s Post :=
  Sat.seq' hc h1 (fun s' h => h.2 ▸ h2) fun ex s' hne h => absurd h.1 hne
theorem Sat.block' {id : Nat} {c : Code} {s : St} {Q1 Post : Ex → St → Prop} (hc : isBlock id c = true) (h : Sat P C fid N ro n w0 σ0 h0 (kid 0 c) s Q1) (h1 : ∀ s', Q1 .norm s' → Post .norm s') (h2 : ∀ s', Q1 .ret s' → Post .ret s') (h3 : ∀ i s', Q1 (.exit i) s' → if i = id then Post .norm s' else Post (.exit i) s') : Sat P C fid N ro n w0 σ0 h0 c s Post := by
  rw [block_of hc]; exact Sat.block h h1 h2 h3
theorem Sat.loop' (hi0 : HInv w0 σ0 h0) {c : Code} {bid : Nat} {Post : Ex → St → Prop} (hc : isLoop c = true) (I : Nat → St → Prop)
    (hb : ∀ m s, I m s → ∃ s1, tidyP h0.length (C.pol fid bid) s = some s1 ∧ Sat P C fid N ro n w0 σ0 h0 (kid 0 c) s1 fun ex s' => match ex with
      | .norm => ∃ m', m' < m ∧ I m' s'
      | e => Post e s') : ∀ m s, I m s → Sat P C fid N ro n w0 σ0 h0 c s Post := by
  rw [loop_of hc]; exact Sat.loop hi0 I hb
/-- Code whose outcome is told: what is shown of it is a value that its outcome has. -/
theorem Sat.code' (hT : TOK P C.T) (hE : EqOK P C.T) (hm : P.follows .mixedOrders = true) {E : Ev} (hV : EvOK P E) {k : Nat} {res : List Nat} {out : Option Nat} (ho : ∀ M, out = some M → M = N ∧ ro = none) (hi0 : HInv w0 σ0 h0)
    {c : Code} {bid : Nat} {s : St} {X : Type} (D : Ex → St → Option X) {x : X} (h : codeE C E fid h0.length k res out bid c s D = some x) : Sat P C fid N ro n w0 σ0 h0 c s fun ex s' => D ex s' = some x :=
  fun a w σ DF Q hok hs hp hmk hQ => codeE_wp hT hE hm hV ho hi0 c bid s D a w σ DF Q hok hs hp hmk h fun ex s' e a' w' σ' DF' k1 => hQ ex s' e a' w' σ' DF' k1
/-- The first parts of a chain are told; then the rest. -/
theorem Sat.spine (hT : TOK P C.T) (hE : EqOK P C.T) (hm : P.follows .mixedOrders = true) {E : Ev} (hV : EvOK P E) {k : Nat} {res : List Nat} {out : Option Nat} (ho : ∀ M, out = some M → M = N ∧ ro = none) (hi0 : HInv w0 σ0 h0) {bid : Nat} {Post : Ex → St → Prop} {X : Type} {x : X} (F : St → Option X) :
    ∀ (m : Nat) (c : Code) (s : St), allSeq m c = true → chainE C E fid h0.length k res out bid (Go.AE.spineC m c) F s = some x → (∀ s', F s' = some x → Sat P C fid N ro n w0 σ0 h0 (back m c) s' Post) → Sat P C fid N ro n w0 σ0 h0 c s Post
  | 0, c, s, _, h, hF => hF s h
  | m + 1, c, s, ha, h, hF => by
    simp only [allSeq, Bool.and_eq_true] at ha
    refine Sat.seq' ha.1 (Sat.code' hT hE hm hV ho hi0 _ h) (fun s' h' => ?_) (fun ex s' hne h' => absurd (nk_some h').1 hne)
    exact Sat.spine hT hE hm hV ho hi0 F m (kid 1 c) s' ha.2 (nk_some h').2 hF
/-- A region that takes a map's next entry first. -/
theorem Sat.next' (hT : TOK P C.T) (hE : EqOK P C.T) {E : Ev} (hV : EvOK P E) {c : Code} {s : St} {Post : Ex → St → Prop} {o : Oper} {x : Operand} {rest : List Oper} (hc : isReg c = true) (hops : opsOf c = o :: rest) (hop : o.op = .next x false) (hgd : o.guard = none)
    {b m nn : Nat} {seen : List Nat} {es : List (DV × DV)} (hev : ev s.env x = .ref b 0) (hb : nth s.heap b = some (.mit m nn seen)) (hm : nth s.heap m = some (.mp es)) (hn : es.length = nn)
    (hall : ∀ v h', NextOut b m nn seen es s.heap v h' → runE C E (opsOf c) rest (putE o.dst v s.env) h' (fun env h => ind Post .norm ⟨env, h, s.marks⟩) = some ()) : Sat P C fid N ro n w0 σ0 h0 c s Post := by
  obtain ⟨i, ops, e1, e2⟩ := reg_of hc
  rw [← e2] at hall hops
  rw [e1]
  exact Sat.region_next hT hE hV hops hop hgd hev hb hm hn hall

end
end Go.AE

/- Ranges over maps with many entries, in any order; loops that are told round by round, as parts of code. -/
namespace Go.AE
open Go

/-- The entry at which an iterator stands, for residuals. -/
def entW {X : Type} (seen : List Nat) (es : List (DV × DV)) (n : Nat) (K : DV → DV → Option X) : Option X :=
  bif Nat.beq es.length n then (seen.getLast?).bind fun i => (nth es i).bind fun e => K e.1 e.2 else none
theorem entW_at {X : Type} {seen : List Nat} {i : Nat} {es : List (DV × DV)} {e : DV × DV} (h : nth es i = some e) (K : DV → DV → Option X) : entW (seen ++ [i]) es es.length K = K e.1 e.2 := by
  unfold entW
  rw [Nat.beq_refl, cond_true, List.getLast?_concat, Option.bind_some, h]
  rfl

/-- How many entries are left. -/
def leftN (n : Nat) (seen : List Nat) : Nat := ((List.range n).filter fun i => !seen.contains i).length
theorem leftN_lt {n i : Nat} {seen : List Nat} (hi : i < n) (hs : i ∉ seen) : leftN n (seen ++ [i]) < leftN n seen := by
  unfold leftN
  have h1 : (List.range n).filter (fun j => !(seen ++ [i]).contains j) = ((List.range n).filter fun j => !seen.contains j).filter fun j => j != i := by
    rw [List.filter_filter]
    refine List.filter_congr fun j _ => ?_
    rw [Bool.eq_iff_iff]
    simp
    exact And.comm
  rw [h1]
  refine List.length_filter_lt_length_iff_exists.2 ⟨i, ?_, by simp⟩
  simp [hi, hs]

section
variable {P : Program} {C : Ctx} {fid N n : Nat} {ro : Option Nat} {w0 : World} {σ0 : Sg} {h0 : List Blk}

theorem Sat.ofRuns (hT : TOK P C.T) (hE : EqOK P C.T) (hm : P.follows .mixedOrders = true) {E : Ev} (hV : EvOK P E) {res : List Nat} {out : Option Nat} (ho : ∀ M, out = some M → M = N ∧ ro = none) (hi0 : HInv w0 σ0 h0)
    {c : Code} {bid : Nat} {s s1 : St} {ex : Ex} (h : Runs C E fid h0.length res out bid c s ex s1) : Sat P C fid N ro n w0 σ0 h0 c s fun e s' => e = ex ∧ s' = s1 := by
  obtain ⟨k, h⟩ := h
  have h1 : codeE C E fid h0.length k res out bid c s (fun e s => some (e, s)) = some (ex, s1) := h k (Nat.le_refl _) _ _
  refine Sat.mono (Sat.code' hT hE hm hV ho hi0 _ h1) fun e s' q => ?_
  simp only [Option.some.injEq, Prod.mk.injEq] at q
  exact q

/-- A range over a map: what holds of the state with what has been seen, and the way out. -/
theorem Sat.mapLoop (hT : TOK P C.T) (hE : EqOK P C.T) {E : Ev} (hV : EvOK P E) (hi0 : HInv w0 σ0 h0) {c : Code} {bid : Nat} {Post : Ex → St → Prop} (hc : isLoop c = true) (hq : isSeq (kid 0 c) = true) (hr : isReg (kid 0 (kid 0 c)) = true)
    {o : Oper} {rest : List Oper} {x : Operand} (e1 : opsOf (kid 0 (kid 0 c)) = o :: rest) (e2 : o.op = .next x false) (e3 : o.guard = none) {es : List (DV × DV)} (I : List Nat → St → Prop)
    (hI : ∀ seen s, I seen s → ∃ s1 b m, tidyP h0.length (C.pol fid bid) s = some s1 ∧ ev s1.env x = .ref b 0 ∧ nth s1.heap b = some (.mit m es.length seen) ∧ nth s1.heap m = some (.mp es) ∧
      ((∀ i, i < es.length → i ∈ seen) → ∃ s2, runE C E (opsOf (kid 0 (kid 0 c))) rest (putE o.dst (.d (.tup [.bool false])) s1.env) s1.heap (fun env h => some (⟨env, h, s1.marks⟩ : St)) = some s2 ∧ Sat P C fid N ro n w0 σ0 h0 (kid 1 (kid 0 c)) s2 fun ex s' => ex ≠ .norm ∧ Post ex s') ∧
      ∀ i e, i < es.length → i ∉ seen → nth es i = some e → ∃ s2, runE C E (opsOf (kid 0 (kid 0 c))) rest (putE o.dst (.d (.tup [.bool true, e.1, e.2])) s1.env) (setNth s1.heap b (.mit m es.length (seen ++ [i]))) (fun env h => some (⟨env, h, s1.marks⟩ : St)) = some s2 ∧
        Sat P C fid N ro n w0 σ0 h0 (kid 1 (kid 0 c)) s2 fun ex s' => match ex with
          | .norm => I (seen ++ [i]) s'
          | e => Post e s') : ∀ seen s, I seen s → Sat P C fid N ro n w0 σ0 h0 c s Post := by
  intro seen0 s0 h00
  refine Sat.loop' hi0 (bid := bid) hc (fun r s => ∃ seen, r = leftN es.length seen ∧ I seen s) ?_ _ s0 ⟨seen0, rfl, h00⟩
  rintro r s ⟨seen, rfl, hs⟩
  obtain ⟨s1, b, m, h1, h2, h3, h4, hdone, hmore⟩ := hI seen s hs
  refine ⟨s1, h1, ?_⟩
  refine Sat.seq' (Q1 := fun ex s' => ex = .norm ∧ (((∀ i, i < es.length → i ∈ seen) ∧ runE C E (opsOf (kid 0 (kid 0 c))) rest (putE o.dst (.d (.tup [.bool false])) s1.env) s1.heap (fun env h => some (⟨env, h, s1.marks⟩ : St)) = some s') ∨
      ∃ i e, i < es.length ∧ i ∉ seen ∧ nth es i = some e ∧ runE C E (opsOf (kid 0 (kid 0 c))) rest (putE o.dst (.d (.tup [.bool true, e.1, e.2])) s1.env) (setNth s1.heap b (.mit m es.length (seen ++ [i]))) (fun env h => some (⟨env, h, s1.marks⟩ : St)) = some s')) hq
    (Sat.next' hT hE hV hr e1 e2 e3 h2 h3 h4 rfl ?_) ?_ (fun ex s' hne h => absurd h.1 hne)
  · rintro v h' (⟨q1, rfl, rfl⟩ | ⟨i, e, q1, q2, q3, rfl, rfl⟩)
    · obtain ⟨s2, q4, _⟩ := hdone q1
      obtain ⟨e', h', k1, k2⟩ := (fac_runE (C := C) (E := E) (all := opsOf (kid 0 (kid 0 c))) (ops := rest) (env := putE o.dst (.d (.tup [.bool false])) s1.env) (h := s1.heap)).keep q4
      rw [k2]
      exact ind_of ⟨rfl, .inl ⟨q1, by rw [q4, ← k1]⟩⟩
    · obtain ⟨s2, q4, _⟩ := hmore i e q1 q2 q3
      obtain ⟨e', h', k1, k2⟩ := (fac_runE (C := C) (E := E) (all := opsOf (kid 0 (kid 0 c))) (ops := rest) (env := putE o.dst (.d (.tup [.bool true, e.1, e.2])) s1.env) (h := setNth s1.heap b (.mit m es.length (seen ++ [i])))).keep q4
      rw [k2]
      exact ind_of ⟨rfl, .inr ⟨i, e, q1, q2, q3, by rw [q4, ← k1]⟩⟩
  · rintro s' ⟨-, (⟨q1, q2⟩ | ⟨i, e, q1, q2, q3, q4⟩)⟩
    · obtain ⟨s2, q4, q5⟩ := hdone q1
      rw [q4] at q2; cases q2
      refine Sat.mono q5 fun ex s' q6 => ?_
      cases ex with
      | norm => exact absurd rfl q6.1
      | exit i => exact q6.2
      | ret => exact q6.2
    · obtain ⟨s2, q5, q6⟩ := hmore i e q1 q2 q3
      rw [q5] at q4; cases q4
      refine Sat.mono q6 fun ex s' q7 => ?_
      cases ex with
      | norm => exact ⟨_, leftN_lt q1 q2, _, rfl, q7⟩
      | exit i => exact q7
      | ret => exact q7
end
end Go.AE
