/- Part 6 of what the law stands on: the abstract machine over the model, and what the functions answer. No condition. -/
import Derived.WalkKit
import Derived.ProofKit
import Derived.OpenShut
import Derived.Carry
import Derived.Test.YtigijjinlalnaaaK5
set_option linter.unusedSimpArgs false
set_option linter.unusedVariables false

/- From a law on data to the given statement: what the arguments read as is data; nothing that was there turns. -/
namespace Go.AE
open Go Go.ChangeShapes Go.WideShapes Go.ChangeAt Go.RowKit

/-- Kinds of arguments. -/
inductive Ty where
  | bool
  | int
  | slice (t : Ty)
  | arr (n : Nat) (t : Ty)

def Ty.size : Ty → Nat
  | .arr n t => n * t.size
  | _ => 1

/-- Cells of data of a kind. -/
def Ty.fits : Ty → List DV → Prop
  | .bool, cs => ∃ b, cs = [bD b]
  | .int, cs => ∃ n, cs = [iD n] ∧ -9223372036854775808 ≤ n ∧ n < 9223372036854775808
  | .slice t, cs => ∃ (xs : List (List DV)) (nl : Bool), (∀ x ∈ xs, t.fits x) ∧ (nl = true → xs = []) ∧ xs.length < 9223372036854775808 ∧ cs = [.sl xs.flatten xs.length t.size false nl]
  | .arr n t, cs => ∃ xs : List (List DV), xs.length = n ∧ (∀ x ∈ xs, t.fits x) ∧ cs = xs.flatten

inductive TyIs (P : Program) : TypeId → Ty → Prop where
  | bool {t : TypeId} (h : P.underlying t = some .bool) (hc : P.cellsOf t = 1) : TyIs P t .bool
  | int {t : TypeId} (h : P.underlying t = some (.int .i64)) (hc : P.cellsOf t = 1) : TyIs P t .int
  | slice {t e : TypeId} {y : Ty} (h : P.underlying t = some (.slice e)) (hc : P.cellsOf t = 1) (hs : 1 ≤ y.size) (he : TyIs P e y) : TyIs P t (.slice y)
  | arr {t e : TypeId} {n : Nat} {y : Ty} (h : P.underlying t = some (.array n e)) (hc : P.cellsOf t = n * P.cellsOf e) (he : TyIs P e y) : TyIs P t (.arr n y)

theorem TyIs.size {P : Program} {t : TypeId} {y : Ty} (h : TyIs P t y) : P.cellsOf t = y.size := by
  induction h with
  | bool h hc => exact hc
  | int h hc => exact hc
  | slice h hc _ _ _ => exact hc
  | arr h hc _ ih => rw [hc, ih]; rfl

section
variable {H : Type} {enc : TypeId × Value → H} {P : Program} {w : World} {spare : Nat → Bool} {held : Bool}

/-- Cells that are read in a row hold data. -/
theorem cells_of_vals {b : Nat} {w : World} {G : Nat → Prop} (hG : G b) : ∀ (ds : List DV) (vs : List Value) (off : Nat), DVals w G ds vs → (∀ i v, vs[i]? = some v → w.cell? ⟨b, off + i, none⟩ = some v ∧ v.oneCell' = true) → DCells w G ds b off
  | [], vs, off, _, _ => trivial
  | d :: ds, vs, off, h, hc => by
    obtain ⟨v, r, rfl, h1, h2⟩ := h
    have h0 := hc 0 v rfl
    refine ⟨hG, ⟨v, h0.1, h0.2, h1⟩, cells_of_vals hG ds r (off + 1) h2 fun i u hu => ?_⟩
    have := hc (i + 1) u hu
    rw [show off + (i + 1) = off + 1 + i by omega] at this
    exact this

theorem Ty.fits_len : ∀ {y : Ty} {cs : List DV}, y.fits cs → cs.length = y.size
  | .bool, cs, h => by obtain ⟨b, rfl⟩ := h; rfl
  | .int, cs, h => by obtain ⟨n, rfl, _⟩ := h; rfl
  | .slice t, cs, h => by obtain ⟨xs, nl, _, _, _, rfl⟩ := h; rfl
  | .arr n t, cs, h => by
    obtain ⟨xs, h1, h2, rfl⟩ := h
    have : ∀ xs : List (List DV), (∀ x ∈ xs, t.fits x) → xs.flatten.length = xs.length * t.size := by
      intro xs
      induction xs with
      | nil => intro _; simp
      | cons x r ih =>
        intro h
        simp only [List.flatten_cons, List.length_append, List.length_cons, ih fun y hy => h y (List.mem_cons_of_mem _ hy), Ty.fits_len (h x (List.mem_cons_self ..))]
        rw [Nat.succ_mul, Nat.add_comm]
    rw [this xs h2, h1]; rfl

theorem flatten_len {t : Ty} : ∀ xs : List (List DV), (∀ x ∈ xs, t.fits x) → xs.flatten.length = xs.length * t.size
  | [], _ => by simp
  | x :: r, h => by
    simp only [List.flatten_cons, List.length_append, List.length_cons, flatten_len r fun y hy => h y (List.mem_cons_of_mem _ hy), Ty.fits_len (h x (List.mem_cons_self ..))]
    rw [Nat.succ_mul, Nat.add_comm]

theorem oneCells {w : World} {G : Nat → Prop} : ∀ {y : Ty} {cs : List DV} {vs : List Value}, y.fits cs → DVals w G cs vs → ∀ v ∈ vs, v.oneCell' = true
  | .bool, cs, vs, h, hv => by
    obtain ⟨b, rfl⟩ := h
    obtain ⟨v, r, rfl, h1, h2⟩ := hv
    have : r = [] := h2
    subst this
    intro v' hv'
    simp only [List.mem_singleton] at hv'
    subst hv'
    simp only [DRel] at h1
    subst h1; rfl
  | .int, cs, vs, h, hv => by
    obtain ⟨b, rfl, _⟩ := h
    obtain ⟨v, r, rfl, h1, h2⟩ := hv
    have : r = [] := h2
    subst this
    intro v' hv'
    simp only [List.mem_singleton] at hv'
    subst hv'
    simp only [DRel] at h1
    subst h1; rfl
  | .slice t, cs, vs, h, hv => by
    obtain ⟨xs, nl, _, _, _, rfl⟩ := h
    obtain ⟨v, r, rfl, h1, h2⟩ := hv
    have : r = [] := h2
    subst this
    intro v' hv'
    simp only [List.mem_singleton] at hv'
    subst hv'
    simp only [DRel] at h1
    cases nl with
    | true => obtain ⟨_, _, rfl⟩ := h1; rfl
    | false => obtain ⟨_, b, off, cap, sp, rfl, _⟩ := h1; rfl
  | .arr n t, cs, vs, h, hv => by
    obtain ⟨xs, hn, h2, rfl⟩ := h
    have : ∀ (xs : List (List DV)) (vs : List Value), (∀ x ∈ xs, t.fits x) → DVals w G xs.flatten vs → ∀ v ∈ vs, v.oneCell' = true := by
      intro xs
      induction xs with
      | nil => intro vs _ hv v hm; have : vs = [] := hv; subst this; cases hm
      | cons x r ih =>
        intro vs hx hv v hm
        have split : ∀ (a b : List DV) (vs : List Value), DVals w G (a ++ b) vs → ∃ u u', vs = u ++ u' ∧ DVals w G a u ∧ DVals w G b u' := by
          intro a
          induction a with
          | nil => intro b vs h; exact ⟨[], vs, rfl, rfl, h⟩
          | cons d a iha =>
            intro b vs h
            obtain ⟨v, r, rfl, h1, h2⟩ := h
            obtain ⟨u, u', rfl, h3, h4⟩ := iha b r h2
            exact ⟨v :: u, u', rfl, ⟨v, u, rfl, h1, h3⟩, h4⟩
        obtain ⟨u, u', rfl, h3, h4⟩ := split x r.flatten vs hv
        rcases List.mem_append.1 hm with hm | hm
        · exact oneCells (hx x (List.mem_cons_self ..)) h3 v hm
        · exact ih u' (fun y hy => hx y (List.mem_cons_of_mem _ hy)) h4 v hm
    exact this xs vs h2 hv

/-- n readings, one behind the other: as lists of data. -/
theorem rows_of {y : Ty} {f : Nat → Option (List Value)} {G : Nat → Prop} (n : Nat) (h : ∀ i, i < n → ∃ vs ds, f i = some vs ∧ y.fits ds ∧ DVals w G ds vs) :
    ∃ (xs : List (List DV)) (us : List (List Value)), xs.length = n ∧ us.length = n ∧ (∀ x ∈ xs, y.fits x) ∧ DVals w G xs.flatten us.flatten ∧ (∀ i, i < n → f i = us[i]?) ∧ ∀ u ∈ us, u.length = y.size := by
  induction n with
  | zero => exact ⟨[], [], rfl, rfl, by simp, rfl, by intro i hi; omega, by simp⟩
  | succ n ih =>
    obtain ⟨xs, us, h1, h2, h3, h4, h5, h6⟩ := ih fun i hi => h i (by omega)
    obtain ⟨vs, ds, g1, g2, g3⟩ := h n (by omega)
    refine ⟨xs ++ [ds], us ++ [vs], by simp [h1], by simp [h2], ?_, ?_, ?_, ?_⟩
    · intro x hx
      rcases List.mem_append.1 hx with hx | hx
      · exact h3 x hx
      · simp at hx; subst hx; exact g2
    · rw [List.flatten_append, List.flatten_append]
      refine DVals.append h4 ?_
      simpa using g3
    · intro i hi
      by_cases c : i < n
      · rw [h5 i c, List.getElem?_append_left (by omega)]
      · have : i = n := by omega
        subst this
        rw [g1, List.getElem?_append_right (by omega), h2]; simp
    · intro u hu
      rcases List.mem_append.1 hu with hu | hu
      · exact h6 u hu
      · simp at hu; subst hu; rw [DVals.len g3, Ty.fits_len g2]

theorem flatten_get {s : Nat} (hs : 0 < s) : ∀ (us : List (List Value)), (∀ u ∈ us, u.length = s) → ∀ k v, us.flatten[k]? = some v → ∃ i j u, i < us.length ∧ j < s ∧ k = i * s + j ∧ us[i]? = some u ∧ u[j]? = some v
  | [], _, k, v, h => by simp at h
  | u :: r, hl, k, v, h => by
    have hu := hl u (List.mem_cons_self ..)
    rw [List.flatten_cons] at h
    by_cases c : k < u.length
    · rw [List.getElem?_append_left c] at h
      exact ⟨0, k, u, by simp, by omega, by omega, rfl, h⟩
    · rw [List.getElem?_append_right (by omega)] at h
      obtain ⟨i, j, u', h1, h2, h3, h4, h5⟩ := flatten_get hs r (fun x hx => hl x (List.mem_cons_of_mem _ hx)) _ _ h
      refine ⟨i + 1, j, u', by simp; omega, h2, ?_, by simpa using h4, h5⟩
      rw [Nat.succ_mul]; omega

/-- What cells read as is data. -/
theorem data_of_trod : ∀ {t : TypeId} {y : Ty}, TyIs P t y → ∀ {fuel : Nat} {cs : List Value} {x : DataW H × List MemPlace}, DataW.trod enc P w 0 (fun _ => true) held fuel t cs = some x →
    ∃ ds, y.fits ds ∧ DVals w (fun b => b < w.heap.size) ds cs := by
  intro t y h
  induction h with
  | bool h hc =>
    intro fuel cs x hx
    obtain ⟨b, rfl, _⟩ := DataW.trod_bool h hx
    exact ⟨[bD b], ⟨b, rfl⟩, .bool b, [], rfl, rfl, rfl⟩
  | int h hc =>
    intro fuel cs x hx
    obtain ⟨n, rfl, _, hw⟩ := DataW.trod_int h hx
    simp only [Lit.wf, Bool.and_eq_true, decide_eq_true_eq] at hw
    have h1 : IntKind.i64.min = -9223372036854775808 := by decide
    have h2 : IntKind.i64.max = 9223372036854775807 := by decide
    exact ⟨[iD n], ⟨n, rfl, by omega, by omega⟩, .int .i64 n, [], rfl, rfl, rfl⟩
  | @slice t e y h hc hs1 he ih =>
    intro fuel cs x hx
    rcases DataW.trod_slice h hx with ⟨rfl, _⟩ | ⟨a, len, cap, elems, rest, m, _, rfl, _, _, hlc, hcm, hel, hE, hS, _⟩
    · refine ⟨[.sl [] 0 y.size false true], ⟨[], true, by simp, fun _ => rfl, by simp, rfl⟩, .slice none 0 0, [], rfl, ?_, rfl⟩
      simp [DRel]
    · have rd : ∀ i, i < len → ∃ vs ds, (w.cells? 0 (a.add (i * P.cellsOf e)) (P.cellsOf e)) = some vs ∧ y.fits ds ∧ DVals w (fun b => b < w.heap.size) ds vs := by
        intro i hi
        have := hE i hi
        rw [List.getElem?_eq_getElem (by omega)] at this
        obtain ⟨vs, h1, h2⟩ := Option.bind_eq_some_iff.1 this
        obtain ⟨ds, h3, h4⟩ := ih h2
        exact ⟨vs, ds, h1, h3, h4⟩
      obtain ⟨xs, us, l1, l2, l3, l4, l5, l6⟩ := rows_of (y := y) (f := fun i => w.cells? 0 (a.add (i * P.cellsOf e)) (P.cellsOf e)) len rd
      have hmax : len < 9223372036854775808 := by
        have : maxLen < 9223372036854775808 := by decide
        omega
      have hsz := he.size
      have spot0 : ∀ (b : Addr) (v : Value), w.cell? b = some v → b.spot = none ∧ b.block < w.heap.size := by
        intro b v hv
        unfold World.cell? at hv
        split at hv
        · rename_i c t fr hb
          refine ⟨?_, (Array.getElem?_eq_some_iff.1 hb).1⟩
          cases hs : b.spot with
          | none => rfl
          | some _ => rw [hs] at hv; simp at hv
        · cases hv
      have zero : ∀ vs, w.cells? 0 a (P.cellsOf e) = some vs → a.spot = none ∧ a.block < w.heap.size := by
        intro vs hv
        have := (World.cells?_some hv).2.2 0 (by omega)
        have hlv := (World.cells?_some hv).2.1
        rw [show a.add 0 = a by simp [Addr.add], List.getElem?_eq_getElem (by omega)] at this
        exact spot0 _ _ this
      refine ⟨[.sl xs.flatten xs.length y.size false false], ⟨xs, false, l3, by simp, by omega, rfl⟩, .slice (some a) len cap, [], rfl, ?_, rfl⟩
      simp only [DRel, cond_false]
      refine ⟨flatten_len xs l3, a.block, a.off, cap, a.spot, by rw [l1], by omega, by simp, ?_, ?_⟩
      · -- some cell is read: the address is a plain one
        intro hc0
        by_cases hl0 : 0 < len
        · obtain ⟨vs, ds, h1, _⟩ := rd 0 hl0
          rw [show a.add (0 * P.cellsOf e) = a by simp [Addr.add]] at h1
          exact (zero vs h1).1
        · obtain ⟨hrl, hr⟩ := hS rfl
          have := hr 0 (by omega)
          rw [List.getElem?_eq_getElem (by omega)] at this
          obtain ⟨vs, h1, _⟩ := Option.bind_eq_some_iff.1 this
          rw [show a.add ((len + 0) * P.cellsOf e) = a by simp [show len = 0 by omega, Addr.add]] at h1
          exact (zero vs h1).1
      · by_cases hl0 : 0 < len
        · obtain ⟨vs, ds, h1, _⟩ := rd 0 hl0
          rw [show a.add (0 * P.cellsOf e) = a by simp [Addr.add]] at h1
          obtain ⟨g1, g2⟩ := zero vs h1
          obtain ⟨b, off, sp⟩ := a
          simp only at g1 g2
          subst g1
          refine cells_of_vals (G := fun b => b < w.heap.size) g2 _ us.flatten off l4 ?_
          intro k v hk
          obtain ⟨i, j, u, q1, q2, q3, q4, q5⟩ := flatten_get (s := y.size) (by omega) us l6 k v hk
          have hu := l5 i (by omega)
          rw [q4] at hu
          have := (World.cells?_some hu).2.2 j (by omega)
          rw [Addr.add_add, Addr.add_mid, q5, hsz] at this
          have hin : v ∈ us.flatten := List.mem_of_getElem? hk
          refine ⟨by rw [q3]; exact this, ?_⟩
          exact oneCells (y := .arr xs.length y) ⟨xs, rfl, l3, rfl⟩ l4 v hin
        · have : xs = [] := List.length_eq_zero_iff.1 (by omega)
          subst this
          trivial
  | @arr t e n y h hc he ih =>
    intro fuel cs x hx
    obtain ⟨xs0, m, _, _, hlen, hxl, hE⟩ := DataW.trod_array h hx
    have hsz := he.size
    have rd : ∀ i, i < n → ∃ vs ds, some ((cs.drop (i * P.cellsOf e)).take (P.cellsOf e)) = some vs ∧ y.fits ds ∧ DVals w (fun b => b < w.heap.size) ds vs := by
      intro i hi
      have := hE i hi
      rw [List.getElem?_eq_getElem (by omega)] at this
      obtain ⟨ds, h3, h4⟩ := ih this
      exact ⟨_, ds, rfl, h3, h4⟩
    obtain ⟨xs, us, l1, l2, l3, l4, l5, l6⟩ := rows_of (y := y) (f := fun i => some ((cs.drop (i * P.cellsOf e)).take (P.cellsOf e))) n rd
    refine ⟨xs.flatten, ⟨xs, l1, l3, rfl⟩, ?_⟩
    have : us.flatten = cs := by
      have key : ∀ (us : List (List Value)) (cs : List Value), cs.length = us.length * y.size → (∀ i, i < us.length → some ((cs.drop (i * y.size)).take y.size) = us[i]?) → us.flatten = cs := by
        intro us
        induction us with
        | nil => intro cs hl _; simp at hl; simp [List.length_eq_zero_iff.1 (by simpa using hl)]
        | cons u r ihr =>
          intro cs hl hg
          have h0 := hg 0 (by simp)
          simp only [Nat.zero_mul, List.drop_zero, List.getElem?_cons_zero, Option.some.injEq] at h0
          rw [List.flatten_cons, ← h0, ihr (cs.drop y.size) ?_ ?_, List.take_append_drop]
          · rw [List.length_drop, hl, List.length_cons, Nat.succ_mul]; omega
          · intro i hi
            have := hg (i + 1) (by simp; omega)
            rw [List.getElem?_cons_succ] at this
            rw [← this, List.drop_drop, Nat.succ_mul, Nat.add_comm]
      refine key us cs (by rw [hlen, hc, l2, hsz]) ?_
      intro i hi
      have := l5 i (by omega)
      rw [hsz] at this
      exact this
    rw [← this]; exact l4

/-- An argument: an array's cells together, or one cell. -/
def Ty.fitArg (y : Ty) (d : DV) : Prop := match y with
  | .arr n t => ∃ cs, d = .agg cs ∧ (Ty.arr n t).fits cs
  | y => y.fits [d]

/-- All arguments. -/
def fitAll : List Ty → List DV → Prop
  | [], ds => ds = []
  | y :: ys, ds => ∃ d r, ds = d :: r ∧ y.fitArg d ∧ fitAll ys r

/-- Kinds that arguments may have. -/
def Ty.one (_ : Ty) : Bool := true

def okArg (y : Ty) (v : Value) : Prop := match y with
  | .arr _ _ => ∃ cs, v = .agg cs
  | _ => v.oneCell' = true
def okArgs : List Ty → List Value → Prop
  | [], vs => vs = []
  | y :: ys, vs => ∃ v r, vs = v :: r ∧ okArg y v ∧ okArgs ys r

inductive TysAre (P : Program) : List TypeId → List Ty → Prop where
  | nil : TysAre P [] []
  | cons {t : TypeId} {y : Ty} {ts : List TypeId} {ys : List Ty} (h : TyIs P t y) (ho : y.one = true) (hr : P.readableRec t = true) (ht : t < P.types.size) (hs : TysAre P ts ys) : TysAre P (t :: ts) (y :: ys)

theorem data_all : ∀ {ts : List TypeId} {ys : List Ty}, TysAre P ts ys → ∀ {vs : List Value} {xs : List (DataW H)} {ps : List MemPlace}, DataW.TrodAll enc P w 0 (fun _ => true) held ts vs xs ps →
    okArgs ys vs → ∃ ds, fitAll ys ds ∧ DVals w (fun b => b < w.heap.size) ds vs := by
  intro ts ys h
  induction h with
  | nil =>
    intro vs xs ps hx _
    obtain ⟨rfl, rfl, rfl⟩ := trodAll_nil hx
    exact ⟨[], rfl, rfl⟩
  | @cons t y ts ys h ho hr ht hs ih =>
    intro vs xs ps hx h1
    obtain ⟨v, vs', d, ds', p, q, rfl, rfl, rfl, g1, g2⟩ := trodAll_cons hx
    obtain ⟨fuel, g1⟩ := g1
    obtain ⟨v0, r0, e0, h2, h3⟩ := h1
    obtain ⟨rfl, rfl⟩ := List.cons.inj e0
    obtain ⟨r, k3, k4⟩ := ih g2 h3
    have one : v.oneCell' = true → y.fitArg = (fun d => y.fits [d]) → ∃ ds, fitAll (y :: ys) ds ∧ DVals w (fun b => b < w.heap.size) ds (v :: vs') := fun h2 hy => by
      have hv : v.cells.toList = [v] := by cases v <;> simp_all [Value.oneCell', Value.cells]
      rw [hv] at g1
      obtain ⟨ds, k1, k2⟩ := data_of_trod h g1
      have hl := k2.len
      match ds, hl, k1, k2 with
      | [d'], _, k1, k2 =>
        obtain ⟨v'', r'', e2, k7, _⟩ := k2
        obtain ⟨rfl, _⟩ := List.cons.inj e2
        exact ⟨d' :: r, ⟨d', r, rfl, by rw [hy]; exact k1, k3⟩, v, vs', rfl, k7, k4⟩
    cases y with
    | bool => exact one h2 rfl
    | int => exact one h2 rfl
    | slice t => exact one h2 rfl
    | arr n t =>
      obtain ⟨cs, rfl⟩ := h2
      obtain ⟨ds, k1, k2⟩ := data_of_trod h g1
      have k2' : DVals w (fun b => b < w.heap.size) ds cs.toList := k2
      exact ⟨.agg ds :: r, ⟨_, r, rfl, ⟨ds, rfl, k1⟩, k3⟩, .agg cs, vs', rfl, by simp only [DRel]; exact ⟨cs, rfl, k2', fun x hx => oneCells k1 k2' x hx⟩, k4⟩

/-- Arguments read behind the call as they did. -/
theorem args_stay (hl : laidOutB P = true) : ∀ {ts : List TypeId} {ys : List Ty}, TysAre P ts ys → ∀ {W W' : World} {sp : Nat → Bool} {vs : List Value} {xs : List (DataW H)} {ps : List MemPlace}, DataW.TrodAll enc P W 0 (fun _ => true) true ts vs xs ps →
    Below W.heap.size W W' → (∀ x ∈ ps, x.block < W.heap.size) → (∀ x ∈ ps, sp x.block = true) → DataW.TrodAll enc P W' 0 sp true ts vs xs ps := by
  intro ts ys h
  induction h with
  | nil =>
    intro W W' sp vs xs ps hx _ _ _
    obtain ⟨rfl, rfl, rfl⟩ := trodAll_nil hx
    exact trodAll_mk0
  | cons h ho hr ht hs ih =>
    intro W W' sp vs xs ps hx hb h1 h2
    obtain ⟨v, vs', d, ds', p, q, rfl, rfl, rfl, g1, g2⟩ := trodAll_cons hx
    refine trodAll_cons_mk (WideElems.Trod_stays hl hr ht g1 (fun x hx => hb.same (h1 x (List.mem_append_left _ hx))) fun x hx => h2 x (List.mem_append_left _ hx))
      (ih g2 hb (fun x hx => h1 x (List.mem_append_right _ hx)) fun x hx => h2 x (List.mem_append_right _ hx))
end

/-- Behind the call: the answer is true; the arguments read as they did; nothing that was there has turned. -/
theorem post_law {H : Type} {enc : TypeId × Value → H} {P : Program} {f : Func} {s : ChangeSpec} {apart fresh handsOn again : Bool} {W W' : World} {args : Array Value} {ds gs : List (DataW H)} {before : List MemPlace} {ys : List Ty} {tb : TypeId}
    (hl : laidOutB P = true) (hT : TysAre P f.params.toList ys) (hW : DataW.Whole enc P f.params.toList s.vars apart W args.toList ds gs before) (hv : s.vars = [])
    (hfn : (s.fn H (ds ++ gs)).results = [.lit (.bool true)] ∧ (s.fn H (ds ++ gs)).args = ds ∧ (s.fn H (ds ++ gs)).vars = [])
    (hr : f.resultTypes = #[tb]) (htb : P.underlying tb = some .bool) (hB : Below W.heap.size W W') : s.post enc P f apart fresh handsOn again W args (.bool true) W' := by
  have hlt := hW.lt
  obtain ⟨p, q, hA, hV, rfl, hz, hn⟩ := hW
  have hV0 := hV
  rw [hv] at hV
  obtain ⟨rfl, rfl⟩ := trodVars_none hV
  have hres : ∀ (b : Nat) (sp : Nat → Bool) (hd : Bool), DataW.TrodAll enc P W' b sp hd f.resultTypes.toList ((Value.bool true).resultList f.resultTypes.size) (s.fn H (ds ++ [])).results [] := by
    intro b sp hd
    rw [hfn.1, hr]
    exact trodAll_mk1 (shut_bool htb _)
  have hargs : ∀ sp : Nat → Bool, (∀ x ∈ p, sp x.block = true) → DataW.TrodAll enc P W' 0 sp true f.params.toList args.toList (s.fn H (ds ++ [])).args p := by
    intro sp hsp
    rw [hfn.2.1]
    exact args_stay hl hT hA hB (fun x hx => hlt x (List.mem_append_left _ hx)) hsp
  have hvars : ∀ sp : Nat → Bool, DataW.TrodVars enc P W' sp s.vars (s.fn H (ds ++ [])).vars [] := by
    intro sp; rw [hfn.2.2, hv]; rfl
  refine ⟨ds, [], p ++ [], [], p, [], ⟨p, [], hA, hV0, rfl, hz, hn⟩, hres _ _ _, hargs _ fun x hx => by simpa using hlt x (List.mem_append_left _ hx), hvars _, World.keptBut_mono (fun p hp => ⟨hp, ?_⟩) (hB.frame _), fun _ => ?_⟩
  · exact Or.inr (by simpa using hp)
  · refine ⟨?_, _, _, ([] ++ p) ++ [], ⟨[] ++ p, [], trodAll_append (hargs _ (fun _ _ => rfl)) (hres _ _ _), hvars _, rfl, ?_, ?_⟩, ?_⟩
    · exact ok_one hr rfl (okWide_bool_mk htb _)
    · intro b off hp
      have : (⟨b, off, none⟩ : Addr).block < W.heap.size := hlt (.cell b off) (by simpa using hp)
      rw [hB.frozen this]
      exact hz b off (by simpa using hp)
    · intro ha
      have := hn ha
      simpa using this
    · intro p hp _
      simpa using hp

theorem one_of_ok {P : Program} {W : World} {r : Reach} {b : Nat} {t : TypeId} {y : Ty} (h : TyIs P t y) {v : Value} (hv : Value.okWide P W r b t v) : okArg y v := by
  cases h with
  | bool h hc => show v.oneCell' = true; cases v <;> simp_all [Value.okWide, Cell.okWide, Cell.ok, Value.oneCell']
  | int h hc => show v.oneCell' = true; cases v <;> simp_all [Value.okWide, Cell.okWide, Cell.ok, Value.oneCell']
  | slice h hc hs he => show v.oneCell' = true; cases v <;> simp_all [Value.okWide, Cell.okWide, Cell.ok, Value.oneCell']
  | arr h hc he =>
    simp only [Value.okWide, h] at hv
    obtain ⟨cs, e, _⟩ := hv
    exact ⟨cs, e⟩

theorem ones_of_ok {P : Program} {W : World} {r : Reach} {b : Nat} : ∀ {ts : List TypeId} {ys : List Ty}, TysAre P ts ys → ∀ {vs : List Value}, vs.length = ts.length →
    (∀ (j : Nat) t v, ts[j]? = some t → vs[j]? = some v → Value.okWide P W r b t v) → okArgs ys vs := by
  intro ts ys h
  induction h with
  | nil => intro vs hl _; exact List.length_eq_zero_iff.1 hl
  | cons h ho hr ht hs ih =>
    intro vs hl hok
    match vs, hl, hok with
    | u :: us, hl, hok => exact ⟨u, us, rfl, one_of_ok h (hok 0 _ _ rfl rfl), ih (by simpa using hl) (fun j t v h1 h2 => hok (j + 1) t v (by simpa using h1) (by simpa using h2))⟩

theorem trodAll_len {H : Type} {enc : TypeId × Value → H} {P : Program} {w : World} {base : Nat} {spare : Nat → Bool} {held : Bool} : ∀ {ts : List TypeId} {vs : List Value} {ds : List (DataW H)} {ps : List MemPlace}, DataW.TrodAll enc P w base spare held ts vs ds ps → vs.length = ts.length
  | [], vs, ds, ps, h => by obtain ⟨rfl, _, _⟩ := trodAll_nil h; rfl
  | t :: ts, vs, ds, ps, h => by
    obtain ⟨v, vs', d, ds', p, q, rfl, rfl, rfl, _, h2⟩ := trodAll_cons h
    simp [trodAll_len h2]

/-- A law on data is the given statement's step. -/
theorem law_step {H : Type} {enc : TypeId × Value → H} {P : Program} {f : FuncId} {fn : Func} {s : ChangeSpec} {apart fresh handsOn again : Bool} {ys : List Ty} {tb : TypeId}
    (hl : laidOutB P = true) (hT : TysAre P fn.params.toList ys) (hv : s.vars = []) (hr : fn.resultTypes = #[tb]) (htb : P.underlying tb = some .bool) (hp : ∀ ds, fitAll ys ds → PureOK P f ds (bD true))
    {W : World} {base : Nat} {args : Array Value} {ds gs : List (DataW H)} {before : List MemPlace}
    (hfn : (s.fn H (ds ++ gs)).results = [.lit (.bool true)] ∧ (s.fn H (ds ++ gs)).args = ds ∧ (s.fn H (ds ++ gs)).vars = [])
    (hglob : GlobOK W fun b => b < W.heap.size)
    (hval : ∀ (j : Nat) t v, fn.params[j]? = some t → args[j]? = some v → Value.okWide P W .any base t v)
    (hW : DataW.Whole enc P fn.params.toList s.vars apart W args.toList ds gs before) :
    Calls P f args W fun e W' => ∃ v, e = .returned v ∧ s.post enc P fn apart fresh handsOn again W args v W' := by
  have hW' := hW
  obtain ⟨p, q, hA, _⟩ := hW
  have h1 := ones_of_ok (W := W) (r := .any) (b := base) hT (trodAll_len hA) fun j t v g1 g2 => hval j t v (by simpa using g1) (by simpa using g2)
  obtain ⟨xs, k1, k2⟩ := data_all hT hA h1
  refine Calls.mono ((hp xs k1).2 W _ args (fun k hk => hk) hglob k2) ?_
  rintro e W' ⟨v, rfl, hB, hd⟩
  simp only [DRel] at hd
  subst hd
  exact ⟨_, rfl, post_law hl hT hW' hv hfn hr htb hB⟩

/-! ### The kinds that are met -/
theorem flat_ints : ∀ {xs : List (List DV)}, (∀ x ∈ xs, Ty.int.fits x) → ∃ l : List Int, xs.flatten = ints l ∧ l.length = xs.length ∧ ∀ n ∈ l, -9223372036854775808 ≤ n ∧ n < 9223372036854775808
  | [], _ => ⟨[], rfl, rfl, by simp⟩
  | x :: xs, h => by
    obtain ⟨n, rfl, h1, h2⟩ := h x (List.mem_cons_self ..)
    obtain ⟨l, e, hl, hb⟩ := flat_ints fun y hy => h y (List.mem_cons_of_mem _ hy)
    exact ⟨n :: l, by rw [List.flatten_cons, e]; rfl, by simp [hl], by
      intro m hm
      rcases List.mem_cons.1 hm with rfl | hm
      · exact ⟨h1, h2⟩
      · exact hb m hm⟩

theorem fits_ints {d : DV} (h : (Ty.slice .int).fits [d]) : ∃ (l : List Int) (nl : Bool), d = .sl (ints l) l.length 1 false nl ∧ (nl = true → l = []) ∧ l.length < 9223372036854775808 ∧ ∀ n ∈ l, -9223372036854775808 ≤ n ∧ n < 9223372036854775808 := by
  obtain ⟨xs, nl, h1, h2, h3, h4⟩ := h
  obtain ⟨l, e, hl, hb⟩ := flat_ints h1
  cases h4
  exact ⟨l, nl, by rw [e, hl]; rfl, fun q => List.length_eq_zero_iff.1 (by rw [hl, h2 q]; rfl), by omega, hb⟩

theorem fits_int {d : DV} (h : Ty.int.fits [d]) : ∃ n : Int, d = iD n ∧ -9223372036854775808 ≤ n ∧ n < 9223372036854775808 := by
  obtain ⟨n, h1, h2, h3⟩ := h
  cases h1
  exact ⟨n, rfl, h2, h3⟩

theorem fits_pair {x : List DV} (h : (Ty.arr 2 .int).fits x) : ∃ a b : Int, x = [iD a, iD b] ∧ (-9223372036854775808 ≤ a ∧ a < 9223372036854775808) ∧ (-9223372036854775808 ≤ b ∧ b < 9223372036854775808) := by
  obtain ⟨xs, hl, hx, rfl⟩ := h
  match xs, hl, hx with
  | [u, v], _, hx =>
    obtain ⟨a, rfl, a1, a2⟩ := hx u (by simp)
    obtain ⟨b, rfl, b1, b2⟩ := hx v (by simp)
    exact ⟨a, b, rfl, ⟨a1, a2⟩, b1, b2⟩

theorem flat_pairs : ∀ {xs : List (List DV)}, (∀ x ∈ xs, (Ty.arr 2 .int).fits x) → ∃ E : List (Int × Int), xs.flatten = edD E ∧ E.length = xs.length ∧ ∀ e ∈ E, (-9223372036854775808 ≤ e.1 ∧ e.1 < 9223372036854775808) ∧ (-9223372036854775808 ≤ e.2 ∧ e.2 < 9223372036854775808)
  | [], _ => ⟨[], rfl, rfl, by simp⟩
  | x :: xs, h => by
    obtain ⟨a, b, rfl, h1, h2⟩ := fits_pair (h x (List.mem_cons_self ..))
    obtain ⟨l, e, hl, hb⟩ := flat_pairs fun y hy => h y (List.mem_cons_of_mem _ hy)
    exact ⟨(a, b) :: l, by rw [List.flatten_cons, e]; rfl, by simp [hl], by
      intro m hm
      rcases List.mem_cons.1 hm with rfl | hm
      · exact ⟨h1, h2⟩
      · exact hb m hm⟩

theorem fits_pairs {d : DV} (h : (Ty.slice (.arr 2 .int)).fits [d]) : ∃ (E : List (Int × Int)) (nl : Bool), d = .sl (edD E) E.length 2 false nl ∧ (nl = true → E = []) ∧ E.length < 9223372036854775808 ∧
    ∀ e ∈ E, (-9223372036854775808 ≤ e.1 ∧ e.1 < 9223372036854775808) ∧ (-9223372036854775808 ≤ e.2 ∧ e.2 < 9223372036854775808) := by
  obtain ⟨xs, nl, h1, h2, h3, h4⟩ := h
  obtain ⟨l, e, hl, hb⟩ := flat_pairs h1
  cases h4
  exact ⟨l, nl, by rw [e, hl]; rfl, fun q => List.length_eq_zero_iff.1 (by rw [hl, h2 q]; rfl), by omega, hb⟩
end Go.AE

/- Chapter 04: what the arguments of the laws are. -/
namespace Go.Proofs.Ytigijjinlalnaaa
open Go Go.AE
theorem flat_rows3 : ∀ {xs : List (List DV)}, (∀ x ∈ xs, (Ty.slice (.arr 2 .int)).fits x) → ∃ R : List (List (Int × Int)), isRows xs.flatten R ∧ R.length = xs.length
  | [], _ => ⟨[], trivial, rfl⟩
  | x :: xs, h => by
    obtain ⟨R, e, hl⟩ := flat_rows3 fun y hy => h y (List.mem_cons_of_mem _ hy)
    have hx := h x (List.mem_cons_self ..)
    obtain ⟨d, hd⟩ : ∃ d, x = [d] := by
      obtain ⟨_, _, _, _, _, h4⟩ := hx
      exact ⟨_, h4⟩
    rw [hd] at hx
    obtain ⟨E, nl, e2, _⟩ := fits_pairs hx
    refine ⟨E :: R, ?_, by simp [hl]⟩
    rw [List.flatten_cons, hd, e2]
    exact ⟨⟨false, nl, rfl⟩, e⟩
theorem fits_rows3 {d : DV} (h : (Ty.slice (.slice (.arr 2 .int))).fits [d]) : ∃ (D : List DV) (R : List (List (Int × Int))) (nl : Bool), isRows D R ∧ d = .sl D R.length 1 false nl := by
  obtain ⟨xs, nl, h1, h2, h3, h4⟩ := h
  obtain ⟨R, e, hl⟩ := flat_rows3 h1
  cases h4
  exact ⟨_, R, nl, e, by rw [hl]; rfl⟩
end Go.Proofs.Ytigijjinlalnaaa
