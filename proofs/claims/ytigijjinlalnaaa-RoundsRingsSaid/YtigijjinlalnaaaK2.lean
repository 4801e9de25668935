/- Part 2 of what the law stands on: the abstract machine over the model, and what the functions answer. No condition. -/
import Derived.Deep.Upon
import Derived.MapKept
import Derived.WideKeyRuns
import Derived.TacticsIn
import Derived.Test.YtigijjinlalnaaaK1
set_option linter.unusedSimpArgs false
set_option linter.unusedVariables false

/- Slice expressions. -/
namespace Go.AE
open Go

section
variable {P : Program} {T : Tab TI} {w : World} {σ : Sg} {h : List Blk} {G : Nat → Prop} {R : Type} {r : R}

def OptRel (w : World) (σ : Sg) (h : List Blk) : Option AV → Option Value → Prop
  | none, none => True
  | some a, some x => ARel w σ h a x
  | _, _ => False

theorem run_bound {k : IntKind} {i : Int} {y : Nat} {code : BoundsCode} (h0 : 0 ≤ i) (h1 : i ≤ (y : Int)) : (Instr.sliceBound (.int k i) y code).run P w = .ok i.toNat w := by
  simp [Instr.sliceBound, asIntOf, h0, h1]

theorem lowE_sound {lo : Option AV} {xlo : Option Value} {K : Nat → Nat → Nat → Option R} {u m : Nat} (h1 : OptRel w σ h lo xlo) (hK : lowE lo K u m = some r) :
    ∃ l, K l u m = some r ∧ l ≤ u ∧ ((xlo = none ∧ l = 0) ∨ ∃ k i, xlo = some (.int k i) ∧ 0 ≤ i ∧ i ≤ (u : Int) ∧ l = i.toNat) := by
  cases lo with
  | none =>
    cases xlo with
    | none => exact ⟨0, hK, Nat.zero_le _, .inl ⟨rfl, rfl⟩⟩
    | some _ => exact h1.elim
  | some a =>
    cases xlo with
    | none => exact h1.elim
    | some x =>
      cases a with
      | d d =>
        cases d with
        | int k i =>
          have hx : x = .int k i := by
            have h1' : ARel w σ h (.d (.int k i)) x := h1
            exact h1'.int
          obtain ⟨hc, hK⟩ := cond_none hK
          simp only [Bool.and_eq_true, decide_eq_true_eq] at hc
          exact ⟨_, hK, by omega, .inr ⟨k, i, by rw [hx], hc.1, hc.2, rfl⟩⟩
        | _ => cases hK
      | _ => cases hK

theorem boundsE_sound {isSl : Bool} {len cap cap' : Nat} {lo hi mx : Option AV} {xlo xhi xmx : Option Value} {K : Nat → Nat → Nat → Option R} (hlc : len ≤ cap) (hcc : cap ≤ cap')
    (h1 : OptRel w σ h lo xlo) (h2 : OptRel w σ h hi xhi) (h3 : OptRel w σ h mx xmx) (hK : boundsE len cap lo hi mx K = some r) :
    ∃ l u m, K l u m = some r ∧ l ≤ u ∧ u ≤ m ∧ m ≤ cap ∧ (mx = none → m = cap) ∧
      (Instr.sliceBounds isSl len cap' xlo xhi xmx).run P w = .ok (l, u, cond mx.isSome m cap') w := by
  unfold boundsE at hK
  cases mx with
  | none =>
    cases xmx with
    | some _ => exact h3.elim
    | none =>
      cases hi with
      | none =>
        cases xhi with
        | some _ => exact h2.elim
        | none =>
          obtain ⟨l, k1, k2, k3⟩ := lowE_sound h1 hK
          refine ⟨l, len, cap, k1, k2, hlc, Nat.le_refl _, fun _ => rfl, ?_⟩
          rcases k3 with ⟨rfl, rfl⟩ | ⟨k, i, rfl, g0, g1, rfl⟩
          · simp [Instr.sliceBounds]
          · simp [Instr.sliceBounds, run_bound g0 g1]
      | some a =>
        cases xhi with
        | none => exact h2.elim
        | some x =>
          cases a with
          | d d =>
            cases d with
            | int k i =>
              have hx : x = .int k i := by
                have h2' : ARel w σ h (.d (.int k i)) x := h2
                exact h2'.int
              obtain ⟨hc, hK⟩ := cond_none hK
              simp only [Bool.and_eq_true, decide_eq_true_eq] at hc
              obtain ⟨l, k1, k2, k3⟩ := lowE_sound h1 hK
              refine ⟨l, i.toNat, cap, k1, k2, by clear k3; omega, Nat.le_refl _, fun _ => rfl, ?_⟩
              have hb : ∀ code, (Instr.sliceBound (.int k i) cap' code).run P w = .ok i.toNat w := fun code => run_bound hc.1 (by clear k3; omega)
              subst hx
              rcases k3 with ⟨rfl, rfl⟩ | ⟨k', i', rfl, g0, g1, rfl⟩
              · simp [Instr.sliceBounds, hb]
              · simp [Instr.sliceBounds, hb, run_bound g0 g1]
            | _ => cases hK
          | _ => cases hK
  | some a =>
    cases xmx with
    | none => exact h3.elim
    | some x =>
      cases a with
      | d d =>
        cases d with
        | int k m =>
          have hx : x = .int k m := by
            have h3' : ARel w σ h (.d (.int k m)) x := h3
            exact h3'.int
          obtain ⟨hc, hK⟩ := cond_none hK
          simp only [Bool.and_eq_true, decide_eq_true_eq] at hc
          cases hi with
          | none => cases hK
          | some a =>
            cases xhi with
            | none => exact h2.elim
            | some y =>
              cases a with
              | d d =>
                cases d with
                | int k' i =>
                  have hy : y = .int k' i := by
                    have h2' : ARel w σ h (.d (.int k' i)) y := h2
                    exact h2'.int
                  obtain ⟨hc2, hK⟩ := cond_none hK
                  simp only [Bool.and_eq_true, decide_eq_true_eq] at hc2
                  obtain ⟨l, k1, k2, k3⟩ := lowE_sound h1 hK
                  refine ⟨l, i.toNat, m.toNat, k1, k2, by clear k3; omega, by clear k3; omega, (by intro e; cases e), ?_⟩
                  have hb : ∀ code, (Instr.sliceBound (.int k m) cap' code).run P w = .ok m.toNat w := fun code => run_bound hc.1 (by clear k3; omega)
                  have hb2 : ∀ code, (Instr.sliceBound (.int k' i) m.toNat code).run P w = .ok i.toNat w := fun code => run_bound hc2.1 (by omega)
                  subst hx; subst hy
                  rcases k3 with ⟨rfl, rfl⟩ | ⟨k'', i', rfl, g0, g1, rfl⟩
                  · simp [Instr.sliceBounds, hb, hb2]
                  · simp [Instr.sliceBounds, hb, hb2, run_bound g0 g1]
                | _ => cases hK
              | _ => cases hK
        | _ => cases hK
      | _ => cases hK

theorem run_slice_sl {t e : TypeId} {i0 : TypeInfo} {p : Option Addr} {n c l u m : Nat} {lo hi mx : Option Value} (hu : P.underlying t = some (.slice e)) (hi0 : P.info? e = some i0)
    (hb : (Instr.sliceBounds true n c lo hi mx).run P w = .ok (l, u, m) w) :
    (Instr.sliceAt t (.slice p n c) lo hi mx).run P w = .ok (.slice (if m = l then p else p.map (·.add (l * i0.size))) (u - l) (m - l)) w := by
  simp [Instr.sliceAt, run_underlying hu, Instr.slice, hb, sizeOf, typeInfo, hi0]

theorem run_slice_arr {t e k : TypeId} {i0 : TypeInfo} {b off l u m : Nat} {lo hi mx : Option Value} (hu : P.underlying t = some (.array k e)) (hi0 : P.info? e = some i0)
    (hb : (Instr.sliceBounds false k k lo hi mx).run P w = .ok (l, u, m) w) :
    (Instr.sliceAt t (.pointer (some ⟨b, off, none⟩)) lo hi mx).run P w = .ok (.slice (some (if m = l then ⟨b, off, none⟩ else ⟨b, off + l * i0.size, none⟩)) (u - l) (m - l)) w := by
  simp [Instr.sliceAt, run_underlying hu, Instr.sureAddr, hb, sizeOf, typeInfo, hi0, Addr.add_mid]

theorem dcells_sub {cs : List DV} {b off : Nat} (hc : DCells w G cs b off) (o n : Nat) : DCells w G (sub cs o n) b (off + o) := by
  have key : ∀ (ds : List DV) (b off : Nat), (∀ i d, nth ds i = some d → G b ∧ ∃ x, w.cell? ⟨b, off + i, none⟩ = some x ∧ x.oneCell' = true ∧ DRel w G d x) → DCells w G ds b off := by
    intro ds
    induction ds with
    | nil => intro _ _ _; simp [DCells]
    | cons d ds ih =>
      intro b off q
      simp only [DCells]
      obtain ⟨g1, x, g2, g3, g4⟩ := q 0 d rfl
      refine ⟨g1, ⟨x, by simpa using g2, g3, g4⟩, ih b (off + 1) fun i e he => ?_⟩
      obtain ⟨k1, y, k2, k3⟩ := q (i + 1) e (by simpa [nth] using he)
      exact ⟨k1, y, by rw [show off + 1 + i = off + (i + 1) by omega]; exact k2, k3⟩
  refine key _ _ _ fun i d hd => ?_
  have := nth_sub cs o n i hd
  obtain ⟨g1, x, g2, g3⟩ := hc.get _ _ this
  exact ⟨g1, x, by rw [Nat.add_assoc]; exact g2, g3⟩

theorem rowPart_sound {t e : TypeId} {i0 : TypeInfo} {b off n cap cap' sz l u m : Nat} {ex : Bool} {cc : Nat × Nat} {mx : Option AV} {xlo xhi xmx : Option Value} {K : AV → Option R} (hu : P.underlying t = some (.slice e)) (hi0 : P.info? e = some i0) (hs : i0.size = sz)
    (hK : rowPart b off l u m sz ex K = some r) (k2 : l ≤ u) (k3 : u ≤ m) (k4 : m ≤ cap) (k5 : mx = none → m = cap)
    (k6 : (Instr.sliceBounds true n cap' xlo xhi xmx).run P w = .ok (l, u, cond mx.isSome m cap') w) (hc : nth σ.ι b = some cc) (hcc : cap ≤ cap') (hroom : off + cap' * sz ≤ cc.2)
    (hex : ex = true → mx.isSome = true ∨ cap' = cap) :
    ∃ v, K v = some r ∧ ∃ y, (Instr.sliceAt t (.slice (some ⟨cc.1, off, none⟩) n cap') xlo xhi xmx).run P w = .ok y w ∧ ARel w σ h v y := by
  have hm' : m ≤ cond mx.isSome m cap' := by cases mx.isSome <;> simp [cond] <;> omega
  have hm2 : cond mx.isSome m cap' ≤ cap' := by cases mx.isSome <;> simp [cond] <;> omega
  unfold rowPart at hK
  rcases cond_some hK with ⟨hz, hK⟩ | ⟨hz, hK⟩
  · refine ⟨_, hK, _, run_slice_sl hu hi0 k6, ?_⟩
    have haddr : (if cond mx.isSome m cap' = l then (some ⟨cc.1, off, none⟩ : Option Addr) else (some (⟨cc.1, off, none⟩ : Addr)).map (·.add (l * i0.size))) = some ⟨cc.1, off + l * sz, none⟩ := by
      simp only [Bool.or_eq_true] at hz
      split
      · rename_i e
        rcases hz with hz | hz
        · have := Nat.eq_of_beq_eq_true hz; subst this; simp
        · have hz := Nat.le_of_ble_eq_true hz; omega
      · simp [Addr.add_mid, hs]
    rw [haddr]
    simp only [ARel]
    refine ⟨rfl, .inr ⟨cc, _, hc, rfl, by omega, by omega, ?_, ?_⟩⟩
    · intro e
      rcases hex e with e | e
      · rw [e]; rfl
      · cases hmx : mx.isSome with
        | true => rfl
        | false =>
          have : mx = none := by cases mx <;> simp_all
          have := k5 this
          simp only [cond]; omega
    · have : (cond mx.isSome m cap' - l) * sz + l * sz ≤ cap' * sz := by rw [← Nat.add_mul]; exact Nat.mul_le_mul_right _ (by omega)
      omega
  · obtain ⟨hul, hK⟩ := cond_none hK
    have hul := Nat.eq_of_beq_eq_true hul
    refine ⟨_, hK, _, run_slice_sl hu hi0 k6, ?_⟩
    simp only [ARel, DRel, cond]
    have e0 : u - l = 0 := by omega
    rw [e0]
    refine ⟨by simp, ?_⟩
    split
    · exact ⟨_, _, _, _, rfl, by omega, by simp, fun _ => rfl, by simp [DCells]⟩
    · exact ⟨cc.1, off + l * i0.size, cond mx.isSome m cap' - l, none, by rw [Option.map_some, Addr.add_mid]; rfl, by omega, by simp, fun _ => rfl, by simp [DCells]⟩

/-- A block stands for a row that has at least as many cells. -/
theorem HInv.size_le (hi : HInv w σ h) {b mm : Nat} {blk : Blk} {c : Nat × Nat} (hb : nth h b = some blk) (hm : clen blk = some mm) (hc : nth σ.ι b = some c) : mm ≤ c.2 := by
  have hB := hi.blk b _ hb
  cases blk with
  | dc cs =>
    simp only [BRel] at hB
    simp [clen] at hm
    rcases hB with hB | ⟨c', C, E, h1, h2, h3, h4⟩
    · subst hB; simp at hm; omega
    · rw [hc] at h1; cases h1
      rcases Nat.lt_or_ge C.size mm with k | k
      · obtain ⟨d, hd⟩ := nth_of_lt (l := cs) (n := C.size) (by omega)
        obtain ⟨x, hx, _⟩ := h4 _ d hd
        simp at hx
      · omega
  | ac cs =>
    simp only [BRel] at hB
    simp [clen] at hm
    rcases hB with hB | ⟨c', C, E, h1, h2, h3, h4⟩
    · subst hB; simp at hm; omega
    · rw [hc] at h1; cases h1
      rcases Nat.lt_or_ge C.size mm with k | k
      · obtain ⟨d, hd⟩ := nth_of_lt (l := cs) (n := C.size) (by omega)
        obtain ⟨x, hx, _⟩ := h4 _ d hd
        simp at hx
      · omega
  | _ => simp [clen] at hm

theorem sliceE_sound (hT : TOK P T) (hI : HInv w σ h) {t : Nat} {a : AV} {x : Value} {lo hi mx : Option AV} {xlo xhi xmx : Option Value} {K : AV → Option R} (ha : ARel w σ h a x)
    (h1 : OptRel w σ h lo xlo) (h2 : OptRel w σ h hi xhi) (h3 : OptRel w σ h mx xmx) (hK : sliceE T t a lo hi mx h K = some r) :
    ∃ v, K v = some r ∧ ∃ u, (Instr.sliceAt t x xlo xhi xmx).run P w = .ok u w ∧ ARel w σ h v u := by
  unfold sliceE at hK
  split at hK
  · cases hK
  · rename_i ti ht
    split at hK
    · rename_i e hg
      split at hK
      · cases hK
      · rename_i te hte
        obtain ⟨i0, hi0, hsz, _⟩ := hT.info hte
        have hu := hT.slice ht hg
        cases a with
        | d x0 =>
          cases x0 with
          | sl cs n sz cl nl =>
            obtain ⟨hs, hK2⟩ := cond_none hK
            clear hK
            simp only [ARel, DRel] at ha
            obtain ⟨hlen, ha⟩ := ha
            cases nl with
            | true =>
              simp only [cond] at ha
              obtain ⟨rfl, rfl⟩ := ha
              obtain ⟨l, u, m, k1, k2, k3, k4, k5, k6⟩ := boundsE_sound (P := P) (isSl := true) (cap' := 0) (Nat.le_refl _) (Nat.le_refl _) h1 h2 h3 hK2
              refine ⟨_, k1, _, run_slice_sl hu hi0 k6, ?_⟩
              have hl : l = 0 := by omega
              have hu' : u = 0 := by omega
              subst hl; subst hu'
              have hcs : cs = [] := List.length_eq_zero_iff.1 (by omega)
              subst hcs
              simp only [ARel, DRel, cond_true]
              refine ⟨by simp [sub], by simp, ?_⟩
              have : (cond mx.isSome m 0) = 0 := by cases mx.isSome <;> simp [cond]; omega
              simp [this]
            | false =>
              simp only [cond] at ha
              obtain ⟨b, off, cap, sp, rfl, hnc, hcl, hsp, hcs⟩ := ha
              have hs' : sz = te.size := Nat.eq_of_beq_eq_true (by simpa using hs)
              obtain ⟨l, u, m, k1, k2, k3, k4, k5, k6⟩ := boundsE_sound (P := P) (isSl := true) (cap' := cap) (Nat.le_refl _) hnc h1 h2 h3 hK2
              refine ⟨_, k1, _, run_slice_sl hu hi0 k6, ?_⟩
              have hul : l * te.size + (u - l) * te.size ≤ cs.length := by
                rw [hlen, hs', ← Nat.add_mul]; exact Nat.mul_le_mul_right _ (by omega)
              simp only [ARel, DRel, cond_false]
              refine ⟨length_sub _ _ _ hul, ?_⟩
              have hm' : u ≤ cond mx.isSome m cap := by cases mx.isSome <;> simp [cond] <;> omega
              have hmc : cond mx.isSome m cap ≤ cap := by cases mx.isSome <;> simp [cond] <;> omega
              have hclo : (mx.isSome && Nat.beq m u) = true → cond mx.isSome m cap - l = u - l := by
                intro e
                simp only [Bool.and_eq_true] at e
                rw [e.1]; simp only [cond]; rw [Nat.eq_of_beq_eq_true e.2]
              by_cases e : cond mx.isSome m cap = l
              · rw [if_pos e]
                have e2 : u = l := by omega
                refine ⟨b, off, _, sp, by rw [e2], by omega, hclo, fun k => hsp (by omega), ?_⟩
                have : sub cs (l * te.size) ((u - l) * te.size) = [] := by rw [e2]; simp [sub]
                rw [this]; simp [DCells]
              · rw [if_neg e]
                obtain rfl := hsp (by omega)
                exact ⟨b, off + l * te.size, _, none, by simp [Addr.add_mid, hsz], by omega, hclo, fun _ => rfl, dcells_sub hcs _ _⟩
          | _ => cases hK
        | row b off n c sz ex =>
          obtain ⟨hs, hK2⟩ := cond_none hK
          clear hK
          simp only [Bool.and_eq_true] at hs
          have hs1 := Nat.eq_of_beq_eq_true hs.1
          simp only [ARel] at ha
          rcases ha.2 with e | ⟨cc, cap', hc, rfl, g1, g2, g3, g4⟩
          · exact absurd e (alive_not hs.2)
          · obtain ⟨l, u, m, k1, k2, k3, k4, k5, k6⟩ := boundsE_sound (P := P) (isSl := true) (cap' := cap') g1 g2 h1 h2 h3 hK2
            exact rowPart_sound hu hi0 (by rw [hsz, hs1]) k1 k2 k3 k4 k5 k6 hc g2 g4 (fun e => by
              simp only [Bool.or_eq_true] at e; exact e.symm.imp id g3)
        | grow b sz nn =>
          simp only [ARel] at ha
          have key : ∀ (blk : Blk) (mm : Nat), nth h b = some blk → clen blk = some mm → (cond (Nat.beq sz te.size) (cond (Nat.beq mm 0) (boundsE 0 0 lo hi mx fun _ _ _ => K (.d (.sl [] 0 sz nn (!nn)))) (boundsE (lenOf sz mm) (lenOf sz mm) lo hi mx fun l u m => rowPart b 0 l u m sz mx.isSome K)) none) = some r →
              ∃ v, K v = some r ∧ ∃ u, (Instr.sliceAt t x xlo xhi xmx).run P w = .ok u w ∧ ARel w σ h v u := by
            intro blk mm hx hm hK
            obtain ⟨hs, hK2⟩ := cond_none hK
            clear hK
            have hs1 := Nat.eq_of_beq_eq_true hs
            rcases ha.2 with e | ⟨blk', m', hx', hm', q⟩
            · exact absurd e (not_dead hx (by rintro rfl; simp [clen] at hm))
            · rw [hx] at hx'; cases hx'
              rw [hm] at hm'; cases hm'
              rcases q with ⟨rfl, q⟩ | ⟨h0, c, n, cap', hc, rfl, g1, g2, g3⟩
              · simp only [Nat.beq_refl, cond_true] at hK2
                cases nn with
                | false =>
                  simp only [cond] at q
                  subst q
                  obtain ⟨l, u, m, k1, k2, k3, k4, k5, k6⟩ := boundsE_sound (P := P) (isSl := true) (cap' := 0) (Nat.le_refl _) (Nat.le_refl _) h1 h2 h3 hK2
                  refine ⟨_, k1, _, run_slice_sl hu hi0 k6, ?_⟩
                  have hl : l = 0 := by omega
                  have hu' : u = 0 := by omega
                  subst hl; subst hu'
                  simp only [ARel, DRel, Bool.not_false, cond_true]
                  refine ⟨by simp, by simp, ?_⟩
                  have : (cond mx.isSome m 0) = 0 := by cases mx.isSome <;> simp [cond]; omega
                  simp [this]
                | true =>
                  simp only [cond] at q
                  obtain ⟨⟨b', off', sp'⟩, rfl⟩ := q
                  obtain ⟨l, u, m, k1, k2, k3, k4, k5, k6⟩ := boundsE_sound (P := P) (isSl := true) (cap' := 0) (Nat.le_refl _) (Nat.le_refl _) h1 h2 h3 hK2
                  refine ⟨_, k1, _, run_slice_sl hu hi0 k6, ?_⟩
                  have hl : l = 0 := by omega
                  have hu' : u = 0 := by omega
                  subst hl; subst hu'
                  have hcap : (cond mx.isSome m 0) = 0 := by cases mx.isSome <;> simp [cond]; omega
                  simp only [ARel, DRel, Bool.not_true, cond_false]
                  refine ⟨by simp, b', off', 0, sp', ?_, Nat.le_refl _, fun _ => rfl, fun k => by omega, by simp [DCells]⟩
                  simp [hcap]
              · rw [show Nat.beq mm 0 = false by cases mm with | zero => omega | succ _ => rfl] at hK2
                simp only [cond_false] at hK2
                have hsz0 : 0 < sz := by
                  rcases Nat.eq_zero_or_pos sz with e | e
                  · subst e; rw [Nat.mul_zero] at g1; omega
                  · exact e
                have hlen : lenOf sz mm = n := by
                  rw [g1]; unfold lenOf; split
                  · simp
                  · exact Nat.mul_div_cancel n hsz0
                rw [hlen] at hK2
                obtain ⟨l, u, m, k1, k2, k3, k4, k5, k6⟩ := boundsE_sound (P := P) (isSl := true) (cap' := cap') (Nat.le_refl _) g2 h1 h2 h3 hK2
                exact rowPart_sound hu hi0 (by rw [hsz, hs1]) k1 k2 k3 k4 k5 k6 hc g2 (by omega) (fun e => .inl e)
          simp only at hK
          split at hK
          · rename_i cs hx; exact key _ _ hx rfl hK
          · rename_i cs hx; exact key _ _ hx rfl hK
          · cases hK
        | _ => cases hK
    · rename_i n e hg
      split at hK
      · cases hK
      · rename_i te hte
        obtain ⟨i0, hi0, hsz, _⟩ := hT.info hte
        have hu := hT.array ht hg
        cases a with
        | d x0 =>
          cases x0 with
          | ptr cs off =>
            simp only [ARel, DRel] at ha
            obtain ⟨b, o', rfl, hcs⟩ := ha
            obtain ⟨l, u, m, k1, k2, k3, k4, k5, k6⟩ := boundsE_sound (P := P) (isSl := false) (cap' := n) (Nat.le_refl _) (Nat.le_refl _) h1 h2 h3 hK
            obtain ⟨hle, k1⟩ := cond_none k1
            have hle := Nat.le_of_ble_eq_true hle
            refine ⟨_, k1, _, run_slice_arr hu hi0 k6, ?_⟩
            simp only [ARel, DRel, cond_false]
            have hm' : u ≤ cond mx.isSome m n := by cases mx.isSome <;> simp [cond] <;> omega
            have hul : off + l * te.size + (u - l) * te.size ≤ cs.length := by
              have : l * te.size + (u - l) * te.size = u * te.size := by rw [← Nat.add_mul]; congr 1; omega
              omega
            refine ⟨length_sub _ _ _ hul, ?_⟩
            by_cases e : cond mx.isSome m n = l
            · rw [if_pos e]
              have e2 : u = l := by omega
              refine ⟨b, o' + off, _, none, by rw [e2], by omega, by simp, fun _ => rfl, ?_⟩
              have : sub cs (off + l * te.size) ((u - l) * te.size) = [] := by rw [e2]; simp [sub]
              rw [this]; simp [DCells]
            · rw [if_neg e]
              exact ⟨b, o' + off + l * te.size, _, none, by rw [hsz], by omega, by simp, fun _ => rfl, by rw [Nat.add_assoc]; exact dcells_sub hcs _ _⟩
          | _ => cases hK
        | ref b off =>
          simp only [ARel] at ha
          have key : ∀ (blk : Blk) (mm : Nat), nth h b = some blk → clen blk = some mm → (cond (Nat.ble (off + n * te.size) mm) (boundsE n n lo hi mx fun l u m => rowPart b off l u m te.size true K) none) = some r →
              ∃ v, K v = some r ∧ ∃ u, (Instr.sliceAt t x xlo xhi xmx).run P w = .ok u w ∧ ARel w σ h v u := by
            intro blk mm hx hm hK
            obtain ⟨hs, hK2⟩ := cond_none hK
            clear hK
            have hle := Nat.le_of_ble_eq_true hs
            rcases ha.2 with e | ⟨c, hc, rfl⟩
            · exact absurd e (not_dead hx (by rintro rfl; simp [clen] at hm))
            · obtain ⟨l, u, m, k1, k2, k3, k4, k5, k6⟩ := boundsE_sound (P := P) (isSl := false) (cap' := n) (Nat.le_refl _) (Nat.le_refl _) h1 h2 h3 hK2
              have hsz2 := hI.size_le hx hm hc
              have hm' : u ≤ cond mx.isSome m n := by cases mx.isSome <;> simp [cond] <;> omega
              have hm2 : m = cond mx.isSome m n := by
                cases hmx : mx.isSome with
                | true => rfl
                | false => simp only [cond_false]; exact k5 (by cases mx <;> simp_all)
              unfold rowPart at k1
              rcases cond_some k1 with ⟨hz, k1⟩ | ⟨hz, k1⟩
              · refine ⟨_, k1, _, run_slice_arr hu hi0 k6, ?_⟩
                have haddr : (if cond mx.isSome m n = l then (⟨c.1, off, none⟩ : Addr) else ⟨c.1, off + l * i0.size, none⟩) = ⟨c.1, off + l * te.size, none⟩ := by
                  simp only [Bool.or_eq_true] at hz
                  split
                  · rename_i e
                    rcases hz with hz | hz
                    · have := Nat.eq_of_beq_eq_true hz; subst this; simp
                    · have hz := Nat.le_of_ble_eq_true hz; omega
                  · rw [hsz]
                rw [haddr, ← hm2]
                simp only [ARel]
                refine ⟨rfl, .inr ⟨c, _, hc, rfl, by omega, by omega, fun _ => rfl, ?_⟩⟩
                have : (m - l) * te.size + l * te.size ≤ n * te.size := by rw [← Nat.add_mul]; exact Nat.mul_le_mul_right _ (by omega)
                omega
              · obtain ⟨hul, k1⟩ := cond_none k1
                have hul := Nat.eq_of_beq_eq_true hul
                refine ⟨_, k1, _, run_slice_arr hu hi0 k6, ?_⟩
                simp only [ARel, DRel, cond_false]
                have e0 : u - l = 0 := by omega
                rw [e0]
                refine ⟨by simp, ?_⟩
                split
                · exact ⟨_, _, _, none, rfl, by omega, by simp, fun _ => rfl, by simp [DCells]⟩
                · exact ⟨_, _, _, none, rfl, by omega, by simp, fun _ => rfl, by simp [DCells]⟩
          simp only at hK
          split at hK
          · rename_i cs hx; exact key _ _ hx rfl hK
          · rename_i cs hx; exact key _ _ hx rfl hK
          · cases hK
        | _ => cases hK
    · rename_i hg
      have hu := hT.str ht hg
      cases a with
      | d x0 =>
        cases x0 with
        | str s =>
          have := ha.str; subst this
          obtain ⟨l, u, m, k1, k2, k3, k4, k5, k6⟩ := boundsE_sound (P := P) (isSl := false) (mx := none) (xmx := none) (cap' := s.size) (Nat.le_refl _) (Nat.le_refl _) h1 h2 trivial hK
          rcases cond_some k1 with ⟨_, k1⟩ | ⟨hmx, k1⟩
          · cases k1
          · cases mx with
            | some _ => simp at hmx
            | none =>
              cases xmx with
              | some _ => exact h3.elim
              | none =>
                refine ⟨_, k1, .string (s.extract l u), ?_, by simp [ARel, DRel]⟩
                simp [Instr.sliceAt, run_underlying hu, Instr.slice, k6]
        | _ => cases hK
      | _ => cases hK
    · cases hK
end
end Go.AE

/- Append. -/
namespace Go.AE
open Go

section
variable {P : Program} {T : Tab TI} {w w' : World} {σ σ' : Sg} {h h' : List Blk} {G : Nat → Prop} {R : Type} {r : R}

/-- Cells of a block as values. -/
def CR (w : World) (σ : Sg) (h : List Blk) : Blk → List Value → Prop
  | .dc ds, vs => DVals w σ.G ds vs
  | .ac l, vs => AVals w σ h l vs
  | _, _ => False

theorem CR.len {c : Blk} {vs : List Value} (q : CR w σ h c vs) : clen c = some vs.length := by
  cases c with
  | dc ds => simp [clen, (DVals.get q).1]
  | ac l => simp [clen, (AVals.get q).1]
  | _ => exact q.elim

theorem CR.step (hi : HInv w σ h) (p : Step w σ h w' σ' h') {c : Blk} {vs : List Value} (q : CR w σ h c vs) : CR w' σ' h' c vs := by
  cases c with
  | dc ds => exact DVals.mono (p.dataSame hi) ds vs q
  | ac l => exact AVals.mono (p.dataSame hi) p.keeps hi.len l vs q
  | _ => exact q.elim

theorem AVals.append : ∀ {l l' : List AV} {vs vs' : List Value}, AVals w σ h l vs → AVals w σ h l' vs' → AVals w σ h (l ++ l') (vs ++ vs')
  | [], l', vs, vs', q, q' => by simp only [AVals] at q; subst q; simpa using q'
  | a :: l, l', vs, vs', q, q' => by
    simp only [AVals] at q
    obtain ⟨v, rr, rfl, h1, h2⟩ := q
    simp only [List.cons_append, AVals]
    exact ⟨v, rr ++ vs', rfl, h1, AVals.append h2 q'⟩

theorem DVals.append : ∀ {l l' : List DV} {vs vs' : List Value}, DVals w G l vs → DVals w G l' vs' → DVals w G (l ++ l') (vs ++ vs')
  | [], l', vs, vs', q, q' => by simp only [DVals] at q; subst q; simpa using q'
  | a :: l, l', vs, vs', q, q' => by
    simp only [DVals] at q
    obtain ⟨v, rr, rfl, h1, h2⟩ := q
    simp only [List.cons_append, DVals]
    exact ⟨v, rr ++ vs', rfl, h1, DVals.append h2 q'⟩

theorem CR.app {a c x : Blk} {vs us : List Value} (q : CR w σ h a vs) (q' : CR w σ h c us) (hx : appB a c = some x) : CR w σ h x (vs ++ us) := by
  cases a <;> cases c <;> simp only [appB] at hx <;> first | (cases hx; done) | skip
  · cases hx; exact DVals.append q q'
  · cases hx; exact AVals.append (AVals.to_D q) q'
  · cases hx; exact AVals.append q (AVals.to_D q')
  · cases hx; exact AVals.append q q'

theorem HInv.drew (hi : HInv w σ h) : HInv w.drew σ h ∧ Step w σ h w.drew σ h := by
  have s : Step w σ h w.drew σ h := ⟨rfl, rfl, rfl, Nat.le_refl _, fun _ _ _ => rfl, fun _ hk => .inl hk, fun _ hk => hk, Keeps.refl _ _, fun _ hk => .inl hk⟩
  refine ⟨⟨hi.len, fun b x hb => ?_, hi.inj, hi.sep, hi.bound, hi.glob.mono fun b hb => ⟨hb, rfl⟩⟩, s⟩
  exact BRel.keep hb (hi.blk b x hb) (fun b hb => ⟨hb, rfl⟩) (Keeps.refl _ _) hi.len hb rfl (fun _ _ _ => rfl) (fun _ _ _ hcd => hcd)

/-- The first cells of a new row are known. -/
theorem BRel.newC (hi : HInv w σ h) {E : TypeId} {C : Array Value} {c : Blk} {vs rest : List Value} (hc : CR w σ h c vs) (h1 : ∀ x ∈ vs, x.oneCell' = true) (hC : C.toList = vs ++ rest) :
    BRel (w.alloc (.cells C E)) ⟨σ.G, σ.ι ++ [(w.heap.size, C.size)]⟩ (h ++ [c]) h.length c := by
  have get : ∀ i x, nth vs i = some x → C[i]? = some x := by
    intro i x hx
    have hlt := nth_some_lt hx
    rw [← Array.getElem?_toList, hC, List.getElem?_append_left hlt, ← nth_eq]; exact hx
  cases c with
  | dc ds =>
    simp only [BRel]
    refine .inr ⟨(w.heap.size, C.size), C, E, by rw [← hi.len, nth_append_len]; rfl, heap_new w _, rfl, ?_⟩
    intro i d hd
    obtain ⟨x, k1, k2⟩ := (DVals.get hc).2 i d hd
    exact ⟨x, get i x k1, h1 x (mem_of_nth k1), DRel.mono (fun b hb => ⟨hb, Go.RowKit.Below.heap_alloc w _ b (hi.bound b hb)⟩) d x k2⟩
  | ac l =>
    simp only [BRel]
    refine .inr ⟨(w.heap.size, C.size), C, E, by rw [← hi.len, nth_append_len]; rfl, heap_new w _, rfl, ?_⟩
    intro i d hd
    obtain ⟨x, k1, k2⟩ := (AVals.get hc).2 i d hd
    exact ⟨x, get i x k1, h1 x (mem_of_nth k1), ARel.mono (σ := σ) (σ' := ⟨σ.G, σ.ι ++ [(w.heap.size, C.size)]⟩) (fun b hb => ⟨hb, Go.RowKit.Below.heap_alloc w _ b (hi.bound b hb)⟩) (Keeps.push σ.ι h _ _ hi.len) hi.len d x k2⟩
  | _ => exact hc.elim

/-- Append has made a new row. -/
theorem grow_new (hi : HInv w σ h) {E : TypeId} {C : Array Value} {c : Blk} {vs rest : List Value} {n cap sz : Nat} {nn : Bool} (hc : CR w σ h c vs) (h1 : ∀ x ∈ vs, x.oneCell' = true) (hC : C.toList = vs ++ rest)
    (hpos : 0 < vs.length) (hn : vs.length = n * sz) (hcap : n ≤ cap) (hroom : cap * sz ≤ C.size) :
    HInv (w.drew.alloc (.cells C E)) ⟨σ.G, σ.ι ++ [(w.heap.size, C.size)]⟩ (h ++ [c]) ∧ Step w σ h (w.drew.alloc (.cells C E)) ⟨σ.G, σ.ι ++ [(w.heap.size, C.size)]⟩ (h ++ [c]) ∧
    ARel (w.drew.alloc (.cells C E)) ⟨σ.G, σ.ι ++ [(w.heap.size, C.size)]⟩ (h ++ [c]) (.grow h.length sz nn) (.slice (some ⟨w.heap.size, 0, none⟩) n cap) := by
  obtain ⟨d1, d2⟩ := hi.drew
  obtain ⟨p1, p2⟩ := d1.push (.cells C E) C.size c (BRel.newC d1 (hc.step hi d2) h1 hC)
  refine ⟨p1, d2.trans p2, ?_⟩
  simp only [ARel]
  refine ⟨rfl, .inr ⟨c, vs.length, by rw [nth_append_len]; rfl, hc.len, .inr ⟨hpos, (w.heap.size, C.size), n, cap, by rw [← hi.len, nth_append_len]; rfl, rfl, hn, hcap, hroom⟩⟩⟩

theorem solid_of_len {c : Blk} {m : Nat} (hm : clen c = some m) (h0 : 0 < m) : solid c = true := by
  cases c with
  | dc cs => cases cs with | nil => simp [clen] at hm; omega | cons _ _ => rfl
  | ac cs => cases cs with | nil => simp [clen] at hm; omega | cons _ _ => rfl
  | _ => simp [clen] at hm

/-- An empty block needs no row. -/
theorem HInv.pushEmpty (hi : HInv w σ h) {c : Blk} (hc : clen c = some 0) : HInv w ⟨σ.G, σ.ι ++ [(0, 0)]⟩ (h ++ [c]) ∧ Step w σ h w ⟨σ.G, σ.ι ++ [(0, 0)]⟩ (h ++ [c]) := by
  have hns : solid c = false := by
    cases c with
    | dc cs => simp [clen] at hc; subst hc; rfl
    | ac cs => simp [clen] at hc; subst hc; rfl
    | _ => simp [clen] at hc
  have hlive : ∀ b, Live (h ++ [c]) b → Live h b := by
    intro b hb
    rcases hb.push with hb | ⟨_, hs⟩
    · exact hb
    · rw [hns] at hs; cases hs
  have hnm : ∀ {b}, Live h b → nth (σ.ι ++ [(0, 0)]) b = nth σ.ι b := fun hb => nth_append_lt (by have := hb.bound; have := hi.len; omega)
  have hmine : ∀ k, Mine ⟨σ.G, σ.ι ++ [(0, 0)]⟩ (h ++ [c]) k → Mine σ h k := by
    rintro k ⟨b, c', hb, hc', rfl⟩
    have hb' := hlive b hb
    exact ⟨b, c', hb', by rw [← hnm hb']; exact hc', rfl⟩
  have hk := Keeps.push σ.ι h (0, 0) c hi.len
  refine ⟨⟨by simp [hi.len], ?_, ?_, fun k hm => hi.sep k (hmine k hm), hi.bound, hi.glob⟩, ⟨rfl, rfl, rfl, Nat.le_refl _, fun _ _ _ => rfl, fun k hm => .inl (hmine k hm), fun _ hk => hk, hk, fun _ hk => .inl hk⟩⟩
  · intro b y hy
    rcases Nat.lt_trichotomy b h.length with k | k | k
    · have hy' : nth h b = some y := by rw [nth_append_lt k] at hy; exact hy
      refine BRel.keep hy' (hi.blk b y hy') (fun b hb => ⟨hb, rfl⟩) hk hi.len hy (nth_append_lt (by have := hi.len; omega)) (fun _ _ _ => rfl) ?_
      intro df cd _ hcd
      show nth (σ.ι ++ [(0, 0)]) df = some cd
      rw [nth_append_lt (nth_some_lt hcd)]; exact hcd
    · subst k
      rw [nth_append_len] at hy
      simp [nth] at hy; subst hy
      cases c with
      | dc cs => simp [clen] at hc; subst hc; simp [BRel]
      | ac cs => simp [clen] at hc; subst hc; simp [BRel]
      | _ => simp [clen] at hc
    · have := nth_some_lt hy; simp at this; omega
  · intro b1 b2 c1 c2 l1 l2 n1 n2 e
    have l1 := hlive _ l1
    have l2 := hlive _ l2
    exact hi.inj b1 b2 c1 c2 l1 l2 (by rw [← hnm l1]; exact n1) (by rw [← hnm l2]; exact n2) e

theorem grow_empty {c : Blk} {sz : Nat} {nn : Bool} {y : Value} (hc : clen c = some 0) (hy : cond nn (∃ a, y = .slice (some a) 0 0) (y = .slice none 0 0)) :
    ARel w σ' (h ++ [c]) (.grow h.length sz nn) y := by
  simp only [ARel]
  refine ⟨?_, .inr ⟨c, 0, by rw [nth_append_len]; rfl, hc, .inl ⟨rfl, hy⟩⟩⟩
  cases nn with
  | true => simp only [cond] at hy; obtain ⟨a, rfl⟩ := hy; rfl
  | false => simp only [cond] at hy; subst hy; rfl

/-- A block dies and comes again under a new name, its cells written. -/
theorem HInv.move (hi : HInv w σ h) {b : Nat} {x0 x : Blk} {c : Nat × Nat} (h0 : nth h b = some x0) (hs : solid x0 = true) (hc : nth σ.ι b = some c)
    (hos : w'.os = w.os) (htape : w'.tape = w.tape) (hout : w'.output = w.output) (hsize : w'.heap.size = w.heap.size) (hother : ∀ k, k ≠ c.1 → w'.heap[k]? = w.heap[k]?)
    (hx : BRel w' ⟨σ.G, σ.ι ++ [c]⟩ (setNth h b .dead ++ [x]) h.length x) :
    HInv w' ⟨σ.G, σ.ι ++ [c]⟩ (setNth h b .dead ++ [x]) ∧ Step w σ h w' ⟨σ.G, σ.ι ++ [c]⟩ (setNth h b .dead ++ [x]) := by
  have hlive0 : Live h b := ⟨x0, h0, hs⟩
  have hm0 : Mine σ h c.1 := ⟨b, c, hlive0, hc, rfl⟩
  have hlen : (setNth h b .dead).length = h.length := length_setNth _ _ _
  have hlive : ∀ b', Live (setNth h b .dead ++ [x]) b' → (Live h b' ∧ b' ≠ b) ∨ b' = h.length := by
    intro b' hb
    rcases hb.push with hb | ⟨e, _⟩
    · exact .inl hb.kill
    · exact .inr (by rw [e, hlen])
  have hnm : ∀ {b'}, Live h b' → nth (σ.ι ++ [c]) b' = nth σ.ι b' := fun hb => nth_append_lt (by have := hb.bound; have := hi.len; omega)
  have hnew : nth (σ.ι ++ [c]) h.length = some c := by rw [← hi.len, nth_append_len]; rfl
  have hmine : ∀ k, Mine ⟨σ.G, σ.ι ++ [c]⟩ (setNth h b .dead ++ [x]) k → Mine σ h k := by
    rintro k ⟨b', c', hb, hc', rfl⟩
    rcases hlive b' hb with ⟨hb, _⟩ | rfl
    · exact ⟨b', c', hb, by rw [← hnm hb]; exact hc', rfl⟩
    · have hc2 : nth (σ.ι ++ [c]) h.length = some c' := hc'
      rw [hnew] at hc2; cases hc2; exact hm0
  have hk1 : Keeps σ.ι h (σ.ι ++ [c]) (setNth h b .dead ++ [x]) := (Keeps.kill σ.ι h b).trans (Keeps.push σ.ι (setNth h b .dead) c x (by rw [hlen]; exact hi.len))
  have hG : ∀ k, σ.G k → σ.G k ∧ w'.heap[k]? = w.heap[k]? := fun k hk => ⟨hk, hother k (by rintro rfl; exact hi.sep _ hm0 hk)⟩
  refine ⟨⟨by simp [hi.len, hlen], ?_, ?_, fun k hm => hi.sep k (hmine k hm), fun k hk => by rw [hsize]; exact hi.bound k hk, hi.glob.mono hG⟩,
    ⟨hos, htape, hout, by omega, fun k _ hm => hother k (by rintro rfl; exact hm hm0), fun k hm => .inl (hmine k hm), fun _ hk => hk, hk1, fun _ hk => .inl hk⟩⟩
  · intro b' y hy
    rcases Nat.lt_trichotomy b' h.length with k | k | k
    · have hy1 : nth (setNth h b .dead) b' = some y := by rw [nth_append_lt (by omega)] at hy; exact hy
      by_cases e : b' = b
      · subst e
        rw [nth_setNth_same k] at hy1
        cases hy1; trivial
      · have hy' : nth h b' = some y := by rw [nth_setNth_other e] at hy1; exact hy1
        refine BRel.keep hy' (hi.blk b' y hy') hG hk1 hi.len hy (nth_append_lt (by have := hi.len; omega)) (fun c' hs' hc' => hother _ ?_) ?_
        · intro e'
          exact e (hi.inj b' b c' c ⟨y, hy', hs'⟩ hlive0 hc' hc e')
        · intro df cd _ hcd
          show nth (σ.ι ++ [c]) df = some cd
          rw [nth_append_lt (nth_some_lt hcd)]; exact hcd
    · subst k
      have : nth (setNth h b .dead ++ [x]) h.length = some x := by rw [← hlen, nth_append_len]; rfl
      rw [this] at hy; cases hy; exact hx
    · have := nth_some_lt hy; simp [hlen] at this; omega
  · intro b1 b2 c1 c2 l1 l2 n1 n2 e
    rcases hlive _ l1 with ⟨l1, e1⟩ | rfl <;> rcases hlive _ l2 with ⟨l2, e2⟩ | rfl
    · exact hi.inj b1 b2 c1 c2 l1 l2 (by rw [← hnm l1]; exact n1) (by rw [← hnm l2]; exact n2) e
    · have n2' : nth (σ.ι ++ [c]) h.length = some c2 := n2
      rw [hnew] at n2'; cases n2'
      exact absurd (hi.inj b1 b c1 c l1 hlive0 (by rw [← hnm l1]; exact n1) hc e) e1
    · have n1' : nth (σ.ι ++ [c]) h.length = some c1 := n1
      rw [hnew] at n1'; cases n1'
      exact absurd (hi.inj b2 b c2 c l2 hlive0 (by rw [← hnm l2]; exact n2) hc e.symm) e2
    · rfl
end
end Go.AE

/- Append, joined. -/
namespace Go.AE
open Go

section
variable {P : Program} {T : Tab TI} {w w' : World} {σ σ' : Sg} {h h' : List Blk} {G : Nat → Prop} {R : Type} {r : R}

theorem sub_vals {cs : List DV} {c : Nat × Nat} (hcs : ∀ i d, nth cs i = some d → ∃ x, w.cell? ⟨c.1, i, none⟩ = some x ∧ x.oneCell' = true ∧ DRel w G d x) (off n : Nat) (hle : off + n ≤ cs.length) :
    ∃ vs : List Value, vs.length = n ∧ w.rangeAt c.1 off vs ∧ DVals w G (sub cs off n) vs ∧ ∀ x ∈ vs, x.oneCell' = true := by
  obtain ⟨vs, k1, k2, k3, k4⟩ := collectD (w := w) (G := G) (b := c.1) (sub cs off n) off fun i d hd => hcs _ d (nth_sub cs off n i hd)
  exact ⟨vs, by rw [k1, length_sub cs off n hle], k2, k3, k4⟩

theorem sub_valsA {cs : List AV} {c : Nat × Nat} (hcs : ∀ i d, nth cs i = some d → ∃ x, w.cell? ⟨c.1, i, none⟩ = some x ∧ x.oneCell' = true ∧ ARel w σ h d x) (off n : Nat) (hle : off + n ≤ cs.length) :
    ∃ vs : List Value, vs.length = n ∧ w.rangeAt c.1 off vs ∧ AVals w σ h (sub cs off n) vs ∧ ∀ x ∈ vs, x.oneCell' = true := by
  obtain ⟨vs, k1, k2, k3, k4⟩ := collectA (w := w) (σ := σ) (h := h) (b := c.1) (sub cs off n) off fun i d hd => hcs _ d (nth_sub cs off n i hd)
  exact ⟨vs, by rw [k1, length_sub cs off n hle], k2, k3, k4⟩

/-- A part of an own block, as values. -/
theorem subB_vals (hi : HInv w σ h) {b off n : Nat} {blk a : Blk} {c : Nat × Nat} (hb : nth h b = some blk) (hc : nth σ.ι b = some c) (ha : subB blk off n = some a) :
    ∃ vs : List Value, vs.length = n ∧ w.rangeAt c.1 off vs ∧ CR w σ h a vs ∧ ∀ x ∈ vs, x.oneCell' = true := by
  cases blk with
  | dc cs =>
    simp only [subB] at ha
    cases hle : Nat.ble (off + n) cs.length with
    | false => rw [hle] at ha; simp [cond] at ha
    | true =>
      rw [hle] at ha; simp [cond] at ha; subst ha
      exact sub_vals (hi.cellsD hb hc) off n (Nat.le_of_ble_eq_true hle)
  | ac cs =>
    simp only [subB] at ha
    cases hle : Nat.ble (off + n) cs.length with
    | false => rw [hle] at ha; simp [cond] at ha
    | true =>
      rw [hle] at ha; simp [cond] at ha; subst ha
      exact sub_valsA (hi.cellsA hb hc) off n (Nat.le_of_ble_eq_true hle)
  | _ => simp [subB] at ha

theorem src_of {sz n cap b off : Nat} {tx e : TypeId} {vs : List Value} (hk : P.underlying tx = some (.slice e)) (hl : vs.length = n * sz) (hr : w.rangeAt b off vs) (h1 : ∀ x ∈ vs, x.oneCell' = true) :
    Src P sz tx (.slice (some ⟨b, off, none⟩) n cap) n vs w :=
  Src.ofSlice w hk ⟨b, off, none⟩ n cap vs hl (fun j u hu => by rw [Addr.add_mid]; exact hr j u hu) h1

theorem nil_len {sz : Nat} : lenOf sz 0 = 0 := by unfold lenOf; split <;> simp

theorem srcE_sound (hi : HInv w σ h) {sz : Nat} {tx e : TypeId} {x : AV} {y : Value} {K : Blk → Nat → Option R} (hk : P.underlying tx = some (.slice e)) (ha : ARel w σ h x y) (hK : srcE sz x h K = some r) :
    ∃ c n vs, K c n = some r ∧ CR w σ h c vs ∧ (∀ u ∈ vs, u.oneCell' = true) ∧ Src P sz tx y n vs w := by
  unfold srcE at hK
  cases x with
  | d x0 =>
    cases x0 with
    | sl cs n sz' cl nl =>
      obtain ⟨hs, hK2⟩ := cond_none hK
      clear hK
      simp only [ARel, DRel] at ha
      obtain ⟨hlen, ha⟩ := ha
      cases nl with
      | true =>
        simp only [cond] at ha
        obtain ⟨rfl, rfl⟩ := ha
        have hcs : cs = [] := List.length_eq_zero_iff.1 (by omega)
        subst hcs
        exact ⟨_, _, [], hK2, by simp [CR, DVals], by simp, Src.ofNil w hk 0⟩
      | false =>
        simp only [cond] at ha
        obtain ⟨b, off, cap, sp, rfl, hnc, hcl, hsp, hcs⟩ := ha
        have hs' : sz' = sz := Nat.eq_of_beq_eq_true (by simpa using hs)
        obtain ⟨vs, k1, k2, k3, k4⟩ := collectD (w := w) (G := σ.G) (b := b) cs off fun i d hd => (hcs.get i d hd).2
        refine ⟨_, _, vs, hK2, k3, k4, ?_⟩
        rcases Nat.eq_zero_or_pos cap with e | e
        · have : vs = [] := List.length_eq_zero_iff.1 (by rw [k1, hlen, show n = 0 by omega]; simp)
          subst this
          exact Src.ofSlice w hk ⟨b, off, sp⟩ n cap [] (by rw [show n = 0 by omega]; simp) (fun j u hu => by simp at hu) (by simp)
        · obtain rfl := hsp e
          exact src_of hk (by rw [k1, hlen, hs']) k2 k4
    | _ => cases hK
  | row b off n cap sz' ex =>
    obtain ⟨hs, hK⟩ := cond_none hK
    have hs := Nat.eq_of_beq_eq_true hs
    simp only [ARel] at ha
    cases hb : nth h b with
    | none => rw [hb] at hK; cases hK
    | some blk =>
      rw [hb] at hK
      simp only [Option.bind_eq_some_iff] at hK
      obtain ⟨a, hsub, hK⟩ := hK
      rcases ha.2 with q | ⟨c, cap', hc, rfl, _⟩
      · unfold isDead at q; rw [q] at hb; cases hb; simp [subB] at hsub
      · obtain ⟨vs, k1, k2, k3, k4⟩ := subB_vals hi hb hc hsub
        exact ⟨_, _, vs, hK, k3, k4, src_of hk k1 k2 k4⟩
  | grow b sz' nn =>
    obtain ⟨hs, hK⟩ := cond_none hK
    have hs := Nat.eq_of_beq_eq_true hs
    subst hs
    simp only [ARel] at ha
    have key : ∀ (blk : Blk) (m : Nat), nth h b = some blk → clen blk = some m → K blk (lenOf sz' m) = some r → ∃ c n vs, K c n = some r ∧ CR w σ h c vs ∧ (∀ u ∈ vs, u.oneCell' = true) ∧ Src P sz' tx y n vs w := by
      intro blk m hx hm hK
      rcases ha.2 with e | ⟨blk', m', hx', hm', q⟩
      · exact absurd e (not_dead hx (by rintro rfl; simp [clen] at hm))
      · rw [hx] at hx'; cases hx'
        rw [hm] at hm'; cases hm'
        rcases q with ⟨rfl, q⟩ | ⟨h0, c, n, cap', hc, rfl, g1, g2, g3⟩
        · rw [nil_len] at hK
          have hCR : CR w σ h blk [] := by
            cases blk with
            | dc cs => simp [clen] at hm; subst hm; simp [CR, DVals]
            | ac cs => simp [clen] at hm; subst hm; simp [CR, AVals]
            | _ => simp [clen] at hm
          refine ⟨_, _, [], hK, hCR, by simp, ?_⟩
          cases nn with
          | true => simp only [cond] at q; obtain ⟨a', rfl⟩ := q; exact Src.ofSlice w hk a' 0 0 [] (by simp) (fun j u hu => by simp at hu) (by simp)
          | false => simp only [cond] at q; subst q; exact Src.ofNil w hk 0
        · have hsz0 : 0 < sz' := by
            rcases Nat.eq_zero_or_pos sz' with e | e
            · subst e; rw [Nat.mul_zero] at g1; omega
            · exact e
          have hlen : lenOf sz' m = n := by
            rw [g1]; unfold lenOf; split
            · simp
            · exact Nat.mul_div_cancel n hsz0
          rw [hlen] at hK
          cases blk with
          | dc cs =>
            simp [clen] at hm
            obtain ⟨vs, k1, k2, k3, k4⟩ := collectD (w := w) (G := σ.G) (b := c.1) cs 0 (by simpa using hi.cellsD hx hc)
            exact ⟨_, _, vs, hK, k3, k4, src_of hk (by rw [k1, hm, g1]) k2 k4⟩
          | ac cs =>
            simp [clen] at hm
            obtain ⟨vs, k1, k2, k3, k4⟩ := collectA (w := w) (σ := σ) (h := h) (b := c.1) cs 0 (by simpa using hi.cellsA hx hc)
            exact ⟨_, _, vs, hK, k3, k4, src_of hk (by rw [k1, hm, g1]) k2 k4⟩
          | _ => simp [clen] at hm
    split at hK
    · rename_i cs hx; exact key _ _ hx rfl hK
    · rename_i cs hx; exact key _ _ hx rfl hK
    · cases hK
  | _ => cases hK

theorem settleE_sound (hi : HInv w σ h) {on : Bool} {c : Blk} {vs : List Value} {K : Blk → List Blk → Option R} (hc : CR w σ h c vs) (hK : settleE on c h K = some r) :
    ∃ c' h' σ', K c' h' = some r ∧ HInv w σ' h' ∧ Step w σ h w σ' h' ∧ CR w σ' h' c' vs := by
  unfold settleE at hK
  have same : K c h = some r → ∃ c' h' σ', K c' h' = some r ∧ HInv w σ' h' ∧ Step w σ h w σ' h' ∧ CR w σ' h' c' vs := fun hK => ⟨c, h, σ, hK, hi, Step.refl _ _ _, hc⟩
  split at hK
  · rename_i l
    rcases cond_some hK with ⟨_, hK⟩ | ⟨_, hK⟩
    · split at hK
      · rename_i ds hds
        obtain ⟨s1, s2⟩ := hi.settle (l.flatMap (idsF h 4))
        refine ⟨_, _, _, hK, s1, s2, ?_⟩
        simp only [CR]
        refine AVals.of_frozen (w := w) (σ := σ) (h := h) (P := fun a d => freezeV h 4 a = some d ∧ a ∈ l) (fun a d x hp hx => (freeze_rel hi 4 a d x hp.1 hx).wider fun k hk => hk.imp id fun o => o.mono fun b hb => ?_) l ds vs (mapO_nth hds).1 (fun i d hd => ?_) hc
        · obtain ⟨a, k1, k2⟩ := (mapO_nth hds).2 i d hd
          exact ⟨a, k1, k2, mem_of_nth k1⟩
        · simp only [List.mem_flatMap]; exact ⟨a, hp.2, hb⟩
      · exact same hK
    · exact same hK
  · exact same hK

theorem room_le {n : Nat} (hr : room n = true) : n ≤ 1048576 := Nat.le_of_ble_eq_true hr

theorem grown_fits {need old bytes : Nat} (hn : need ≤ 1048576) (hb : bytes ≤ 1048576) (hg : old < need) : Builtin.nextslicecap need old * bytes ≤ 281474976710656 :=
  growslice_fits hg (by have : need * bytes ≤ 1048576 * 1048576 := Nat.mul_le_mul hn hb; omega)

/-- What the model does where there is no room. -/
theorem grow_run (hi : HInv w σ h) {st tx ty e : TypeId} {ie : TypeInfo} {z : Value} {base : Option Addr} {m cap n sz : Nat} {olds news : List Value} {x : Value} {nn : Bool} {X : Blk}
    (ht : P.underlying st = some (.slice e)) (hie : P.info? e = some ie) (hz : ie.zero = some z) (hsz : ie.size = sz) (hzs : z.cells.size = sz) (hb : ie.bytes ≤ 1048576)
    (hold : (Builtin.firstCells ie.size m (.slice base m cap)).run P w.drew = .ok olds.toArray w.drew) (holds : olds.length = m * sz) (ho1 : ∀ u ∈ olds, u.oneCell' = true)
    (hsrc : Src P ie.size tx x n news w) (hn1 : ∀ u ∈ news, u.oneCell' = true) (hg : cap < m + n) (hr : m + n ≤ 1048576) (hX : CR w σ h X (olds ++ news)) (hs0 : 1 ≤ sz) (hpos : 0 < m + n) :
    ∃ y w' σ', (Builtin.append_ #[st, tx] ty #[.slice base m cap, x]).run P w = .ok y w' ∧ HInv w' σ' (h ++ [X]) ∧ Step w σ h w' σ' (h ++ [X]) ∧ ARel w' σ' (h ++ [X]) (.grow h.length sz nn) y := by
  have hrun := run_append_grow_src w st tx ty e ie z ht hie hz base m cap olds hold x n news hsrc hg (by omega) (grown_fits hr hb hg)
  have hnl := hsrc.newsLen
  rw [hsz] at hnl
  have hlen : (olds ++ news).length = (m + n) * sz := by rw [List.length_append, holds, hnl, Nat.add_mul]
  have hge := grownCap_ge w (m + n) cap e
  obtain ⟨g1, g2, g3⟩ := grow_new (n := m + n) (cap := grownCap w (m + n) cap e) (sz := sz) (nn := nn) hi (E := e) (C := (olds ++ news).toArray ++ Builtin.zeroCells z.cells (grownCap w (m + n) cap e - (m + n))) (c := X) (vs := olds ++ news)
    (rest := (Builtin.zeroCells z.cells (grownCap w (m + n) cap e - (m + n))).toList) hX (fun u hu => by
      rcases List.mem_append.1 hu with hu | hu
      · exact ho1 u hu
      · exact hn1 u hu) (by simp) (by rw [hlen]; exact Nat.mul_pos hpos hs0) hlen hge (by
      rw [Array.size_append, size_zeroCells]
      have : (olds ++ news).toArray.size = (m + n) * sz := by simpa using hlen
      rw [this, hzs, ← Nat.add_mul]
      exact Nat.mul_le_mul_right _ (by omega))
  exact ⟨_, _, _, hrun, g1, g2, g3⟩

theorem aggB_rel {c : Blk} {vs : List Value} (hc : CR w σ h c vs) (h1 : ∀ u ∈ vs, u.oneCell' = true) : ARel w σ h (aggB c) (.agg vs.toArray) ∧ (cellsA (aggB c)).length = vs.length := by
  cases c with
  | dc ds => exact ⟨by simp only [aggB, ARel, DRel]; exact ⟨_, rfl, by simpa [CR] using hc, by simpa using h1⟩, by simp [aggB, cellsA, cellsD, (DVals.get hc).1]⟩
  | ac l => exact ⟨by simp only [aggB, ARel]; exact ⟨_, rfl, by simpa [CR] using hc, by simpa using h1⟩, by simp [aggB, cellsA, (AVals.get hc).1]⟩
  | _ => exact hc.elim

/-- The old cells, and the new ones behind them, in the row as it has been written. -/
theorem BRel.moved {x : Blk} {c : Nat × Nat} {C C' : Array Value} {E : TypeId} {olds news : List Value} {b : Nat} (hc : nth σ.ι b = some c) (hC : w.heap[c.1]? = some (.cells C' E (0, 0))) (hCs : C.size = c.2) (hC' : C' = setArr C olds.length news)
    (hroom : olds.length + news.length ≤ C.size) (ho : ∀ (i : Nat) (v : Value), olds[i]? = some v → C[i]? = some v) (h1 : ∀ u ∈ olds ++ news, u.oneCell' = true) (hx : CR w σ h x (olds ++ news)) : BRel w σ h b x := by
  have get : ∀ i v, nth (olds ++ news) i = some v → C'[i]? = some v := by
    intro i v hv
    have hlt := nth_some_lt hv
    rw [List.length_append] at hlt
    rw [nth_eq] at hv
    rcases Nat.lt_or_ge i olds.length with k | k
    · rw [List.getElem?_append_left k] at hv
      rw [hC', (get_setArr news C _ i hroom).2 (.inl k)]; exact ho i v hv
    · rw [List.getElem?_append_right k] at hv
      rw [hC', (get_setArr news C _ i hroom).1 ⟨k, hlt⟩]; exact hv
  cases x with
  | dc ds =>
    simp only [BRel]
    refine .inr ⟨c, C', E, hc, hC, by rw [hC', size_setArr]; exact hCs, fun i d hd => ?_⟩
    obtain ⟨v, k1, k2⟩ := (DVals.get hx).2 i d hd
    exact ⟨v, get i v k1, h1 v (mem_of_nth k1), k2⟩
  | ac l =>
    simp only [BRel]
    refine .inr ⟨c, C', E, hc, hC, by rw [hC', size_setArr]; exact hCs, fun i d hd => ?_⟩
    obtain ⟨v, k1, k2⟩ := (AVals.get hx).2 i d hd
    exact ⟨v, get i v k1, h1 v (mem_of_nth k1), k2⟩
  | _ => exact hx.elim

theorem HInv.concrete (hi : HInv w σ h) {b : Nat} {blk : Blk} {m : Nat} {c : Nat × Nat} (hb : nth h b = some blk) (hm : clen blk = some m) (h0 : 0 < m) (hc : nth σ.ι b = some c) : ∃ C E, w.heap[c.1]? = some (.cells C E (0, 0)) ∧ C.size = c.2 := by
  have hB := hi.blk b _ hb
  cases blk with
  | dc cs =>
    simp [clen] at hm
    simp only [BRel] at hB
    rcases hB with hB | ⟨c', C, E, h1, h2, h3, h4⟩
    · subst hB; simp at hm; omega
    · rw [hc] at h1; cases h1; exact ⟨C, E, h2, h3⟩
  | ac cs =>
    simp [clen] at hm
    simp only [BRel] at hB
    rcases hB with hB | ⟨c', C, E, h1, h2, h3, h4⟩
    · subst hB; simp at hm; omega
    · rw [hc] at h1; cases h1; exact ⟨C, E, h2, h3⟩
  | _ => simp [clen] at hm

/-- Behind a row that begins at its block's head and may have room: in place, or in a new row. -/
theorem extend_sound (hi : HInv w σ h) {st tx ty e : TypeId} {ie : TypeInfo} {z : Value} {b m n sz cap' mm : Nat} {blk a c : Blk} {cc : Nat × Nat} {nn : Bool} {olds news : List Value} {x : Value} {K : AV → List Blk → Option R}
    (ht : P.underlying st = some (.slice e)) (hie : P.info? e = some ie) (hz : ie.zero = some z) (hsz : ie.size = sz) (hzs : z.cells.size = sz) (hbytes : ie.bytes ≤ 1048576) (hs0 : 1 ≤ sz)
    (hb : nth h b = some blk) (hmm : clen blk = some mm) (hm0 : 0 < m) (hmle : m * sz ≤ mm) (hcc : nth σ.ι b = some cc) (hroom : cap' * sz ≤ cc.2)
    (holds : olds.length = m * sz) (hrange : w.rangeAt cc.1 0 olds) (ho1 : ∀ u ∈ olds, u.oneCell' = true) (ha : CR w σ h a olds)
    (hc : CR w σ h c news) (hn1 : ∀ u ∈ news, u.oneCell' = true) (hsrc : Src P ie.size tx x n news w) (hK : extendE h b m sz nn a c n K = some r) :
    ∃ v h', K v h' = some r ∧ ∃ y w' σ', (Builtin.append_ #[st, tx] ty #[.slice (some ⟨cc.1, 0, none⟩) m cap', x]).run P w = .ok y w' ∧ HInv w' σ' h' ∧ Step w σ h w' σ' h' ∧ ARel w' σ' h' v y := by
  unfold extendE at hK
  split at hK
  · rename_i X hX
    obtain ⟨hr, hK⟩ := cond_none hK
    have hr := room_le hr
    have hXC := CR.app ha hc hX
    have hnl := hsrc.newsLen
    rw [hsz] at hnl
    have hmpos : 0 < m * sz := Nat.mul_pos hm0 hs0
    obtain ⟨C, E, hC, hCs⟩ := hi.concrete hb hmm (by omega) hcc
    have hsolid := solid_of_len hmm (by omega)
    have h1 : ∀ u ∈ olds ++ news, u.oneCell' = true := fun u hu => by
      rcases List.mem_append.1 hu with hu | hu
      · exact ho1 u hu
      · exact hn1 u hu
    rcases Nat.lt_or_ge cap' (m + n) with hg | hg
    · -- a new row
      obtain ⟨k1, k2⟩ := hi.kill b
      have hlen : (setNth h b .dead).length = h.length := length_setNth _ _ _
      have hold : (Builtin.firstCells ie.size m (.slice (some ⟨cc.1, 0, none⟩) m cap')).run P w.drew = .ok olds.toArray w.drew :=
        run_firstCells_some w.drew ie.size m ⟨cc.1, 0, none⟩ m cap' olds (by rw [holds, hsz]) fun j u hu => by
          rw [Addr.add_mid]; exact hrange j u hu
      obtain ⟨y, w', σ', g1, g2, g3, g4⟩ := grow_run (nn := nn) k1 ht hie hz hsz hzs hbytes hold holds ho1 hsrc hn1 hg hr (hXC.step hi k2) hs0 (by omega)
      rw [hlen] at g4
      exact ⟨_, _, hK, y, w', σ', g1, g2, k2.trans g3, g4⟩
    · -- in place
      have hfit : m * sz + news.length ≤ C.size := by
        rw [hnl, ← Nat.add_mul, hCs]
        exact Nat.le_trans (Nat.mul_le_mul_right _ hg) hroom
      have hcell : ∀ j, j < news.length → (w.cell? ⟨cc.1, 0 + m * ie.size + j, none⟩).isSome = true := by
        intro j hj
        rw [hsz, cell_row hC]
        simp; omega
      have hfr : ∀ j, j < news.length → w.frozen? ⟨cc.1, 0 + m * ie.size + j, none⟩ = false := fun j _ => frozen_of_row w cc.1 _ C E hC
      have hrun := run_append_room_src w st tx ty e ie ht hie cc.1 0 m cap' x n news hsrc hg hcell hfr
      rw [hsz, Nat.zero_add] at hrun
      obtain ⟨s1, s2, s3, s4⟩ := setCells_same cc.1 news (m * sz) w
      have hoth := setCells_other cc.1 news (m * sz) w
      have hm0' : Mine σ h cc.1 := ⟨b, cc, ⟨blk, hb, hsolid⟩, hcc, rfl⟩
      have hlen : (setNth h b .dead).length = h.length := length_setNth _ _ _
      have hk1 : Keeps σ.ι h (σ.ι ++ [cc]) (setNth h b .dead ++ [X]) := (Keeps.kill σ.ι h b).trans (Keeps.push σ.ι (setNth h b .dead) cc X (by rw [hlen]; exact hi.len))
      have hG : ∀ k, σ.G k → σ.G k ∧ (w.setCells cc.1 (m * sz) news).heap[k]? = w.heap[k]? := fun k hk => ⟨hk, hoth k (by rintro rfl; exact hi.sep _ hm0' hk)⟩
      have hXC' : CR (w.setCells cc.1 (m * sz) news) ⟨σ.G, σ.ι ++ [cc]⟩ (setNth h b .dead ++ [X]) X (olds ++ news) := by
        cases X with
        | dc ds => exact DVals.mono hG ds _ hXC
        | ac l => exact AVals.mono (σ := σ) (σ' := ⟨σ.G, σ.ι ++ [cc]⟩) hG hk1 hi.len l _ hXC
        | _ => exact hXC.elim
      have hnew : nth (σ.ι ++ [cc]) h.length = some cc := by rw [← hi.len, nth_append_len]; rfl
      have hBX : BRel (w.setCells cc.1 (m * sz) news) ⟨σ.G, σ.ι ++ [cc]⟩ (setNth h b .dead ++ [X]) h.length X := by
        refine BRel.moved (C := C) (C' := setArr C (m * sz) news) (E := E) hnew (setCells_heap cc.1 E news (m * sz) w C hC) hCs (by rw [holds]) (by rw [holds]; exact hfit) ?_ h1 hXC'
        intro i v hv
        have := hrange i v hv
        rw [cell_row hC] at this
        simpa using this
      obtain ⟨g1, g2⟩ := hi.move hb hsolid hcc s2 s3 s4 s1 hoth hBX
      refine ⟨_, _, hK, _, _, _, hrun, g1, g2, ?_⟩
      simp only [ARel]
      have hXl := hXC.len
      rw [List.length_append, holds, hnl, ← Nat.add_mul] at hXl
      refine ⟨rfl, .inr ⟨X, _, by rw [← hlen, nth_append_len]; rfl, hXl, .inr ⟨Nat.mul_pos (by omega) hs0, cc, m + n, cap', hnew, rfl, rfl, hg, hroom⟩⟩⟩
  · cases hK
end
end Go.AE

/- Append, the operation. -/
namespace Go.AE
open Go

section
variable {P : Program} {T : Tab TI} {w w' : World} {σ σ' : Sg} {h h' : List Blk} {G : Nat → Prop} {R : Type} {r : R}

theorem append_sound_nothing (_hi : HInv w σ h) {st tx ty e : TypeId} {ie : TypeInfo} {base : Option Addr} {m cap n : Nat} {news : List Value} {x : Value}
    (ht : P.underlying st = some (.slice e)) (hie : P.info? e = some ie) (hmc : m ≤ cap) (hn : n = 0) (hsrc : Src P ie.size tx x n news w) :
    (Builtin.append_ #[st, tx] ty #[.slice base m cap, x]).run P w = .ok (.slice base m cap) w ∧ news = [] := by
  subst hn
  have hnl := hsrc.newsLen
  have hnil : news = [] := List.length_eq_zero_iff.1 (by omega)
  subst hnil
  exact ⟨run_append_nothing w st tx ty e ie ht hie base m cap hmc x hsrc, rfl⟩

theorem appendTo_sound (hi : HInv w σ h) {st tx ty e : TypeId} {ie : TypeInfo} {z : Value} {sz n : Nat} {s : AV} {c : Blk} {news : List Value} {x y : Value} {K : AV → List Blk → Option R}
    (ht : P.underlying st = some (.slice e)) (hie : P.info? e = some ie) (hz : ie.zero = some z) (hsz : ie.size = sz) (hzs : z.cells.size = sz) (hbytes : ie.bytes ≤ 1048576) (hs0 : 1 ≤ sz)
    (hs : ARel w σ h s y) (hc : CR w σ h c news) (hn1 : ∀ u ∈ news, u.oneCell' = true) (hsrc : Src P ie.size tx x n news w) (hK : appendTo sz s c n h K = some r) :
    ∃ v h', K v h' = some r ∧ ∃ u w' σ', (Builtin.append_ #[st, tx] ty #[y, x]).run P w = .ok u w' ∧ HInv w' σ' h' ∧ Step w σ h w' σ' h' ∧ ARel w' σ' h' v u := by
  have hnl := hsrc.newsLen
  rw [hsz] at hnl
  -- an empty slice without capacity, nil or not
  have fromEmpty : ∀ (base : Option Addr) (nn : Bool), (cond nn (∃ a, (.slice base 0 0 : Value) = .slice (some a) 0 0) ((.slice base 0 0 : Value) = .slice none 0 0)) → room n = true → y = .slice base 0 0 →
      ∃ u w' σ', (Builtin.append_ #[st, tx] ty #[y, x]).run P w = .ok u w' ∧ HInv w' σ' (h ++ [c]) ∧ Step w σ h w' σ' (h ++ [c]) ∧ ARel w' σ' (h ++ [c]) (.grow h.length sz nn) u := by
    intro base nn hb hr hy
    subst hy
    have hr := room_le hr
    rcases Nat.eq_zero_or_pos n with hn | hn
    · obtain ⟨k1, k2⟩ := append_sound_nothing (ty := ty) (base := base) hi ht hie (Nat.le_refl 0) hn hsrc
      subst k2
      have hc0 : clen c = some 0 := hc.len
      obtain ⟨g1, g2⟩ := hi.pushEmpty hc0
      exact ⟨_, _, _, k1, g1, g2, grow_empty hc0 hb⟩
    · have hold : (Builtin.firstCells ie.size 0 (.slice base 0 0)).run P w.drew = .ok ([] : List Value).toArray w.drew := by
        cases base with
        | none => exact run_firstCells_none w.drew ie.size 0 0 0
        | some a => exact run_firstCells_some w.drew ie.size 0 a 0 0 [] (by simp) (by simp)
      exact grow_run hi ht hie hz hsz hzs hbytes hold (by simp) (by simp) hsrc hn1 (by omega) (by omega) (by simpa using hc) hs0 (by omega)
  cases s with
  | d x0 =>
    cases x0 with
    | sl cs m sz' cl nl =>
      simp only [appendTo] at hK
      simp only [ARel, DRel] at hs
      obtain ⟨hlen, hs⟩ := hs
      cases nl with
      | true =>
        simp only [cond] at hs
        obtain ⟨rfl, rfl⟩ := hs
        rw [cond_true] at hK
        obtain ⟨hr, hK⟩ := cond_none hK
        obtain ⟨u, w', σ', g1, g2, g3, g4⟩ := fromEmpty none false rfl hr rfl
        exact ⟨_, _, hK, u, w', σ', g1, g2, g3, g4⟩
      | false =>
        simp only [cond] at hs
        rw [cond_false] at hK
        obtain ⟨b, off, cap, sp, rfl, hmc, hcl, hsp, hcs⟩ := hs
        obtain ⟨hq, hK⟩ := cond_none hK
        simp only [Bool.and_eq_true] at hq
        have hsz' := Nat.eq_of_beq_eq_true hq.1
        have hcap := hcl hq.2.1
        subst hcap
        have hr := room_le hq.2.2
        rcases cond_some hK with ⟨hm, hK⟩ | ⟨hm, hK⟩
        · have hm := Nat.eq_of_beq_eq_true hm
          subst hm
          obtain ⟨u, w', σ', g1, g2, g3, g4⟩ := fromEmpty (some ⟨b, off, sp⟩) true ⟨_, rfl⟩ (by simpa using hq.2.2) rfl
          exact ⟨_, _, hK, u, w', σ', g1, g2, g3, g4⟩
        · rcases cond_some hK with ⟨hn, hK⟩ | ⟨hn, hK⟩
          · have hn := Nat.eq_of_beq_eq_true hn
            obtain ⟨k1, _⟩ := append_sound_nothing (ty := ty) (base := some ⟨b, off, sp⟩) hi ht hie (Nat.le_refl cap) hn hsrc
            refine ⟨_, _, hK, _, w, σ, k1, hi, Step.refl _ _ _, ?_⟩
            simp only [ARel, DRel, cond_false]
            exact ⟨hlen, b, off, cap, sp, rfl, Nat.le_refl _, fun _ => rfl, hsp, hcs⟩
          · have hn0 : 0 < n := by
              rcases Nat.eq_zero_or_pos n with e | e
              · subst e; simp at hn
              · exact e
            obtain rfl := hsp (by rcases Nat.eq_zero_or_pos cap with e | e
                                  · subst e; simp at hm
                                  · exact e)
            split at hK
            · rename_i X hX
              obtain ⟨olds, k1, k2, k3, k4⟩ := collectD (w := w) (G := σ.G) (b := b) cs off fun i d hd => (hcs.get i d hd).2
              have hX' := CR.app (σ := σ) (h := h) (a := .dc cs) k3 hc hX
              have hold : (Builtin.firstCells ie.size cap (.slice (some ⟨b, off, none⟩) cap cap)).run P w.drew = .ok olds.toArray w.drew :=
                run_firstCells_some w.drew ie.size cap ⟨b, off, none⟩ cap cap olds (by rw [k1, hlen, hsz', hsz]) fun j u hu => by
                  rw [Addr.add_mid]; exact k2 j u hu
              obtain ⟨u, w', σ', g1, g2, g3, g4⟩ := grow_run (nn := true) hi ht hie hz hsz hzs hbytes hold (by rw [k1, hlen, hsz']) k4 hsrc hn1 (by omega) hr hX' hs0 (by omega)
              exact ⟨_, _, hK, u, w', σ', g1, g2, g3, g4⟩
            · cases hK
    | _ => simp [appendTo] at hK
  | row b off m cap sz' ex =>
    simp only [appendTo] at hK
    simp only [ARel] at hs
    cases hb : nth h b with
    | none => rw [hb] at hK; cases hK
    | some blk =>
      rw [hb] at hK
      obtain ⟨hq, hK⟩ := cond_none hK
      have hsz' := Nat.eq_of_beq_eq_true hq
      subst hsz'
      have alive : blk ≠ .dead := by
        rintro rfl
        rcases cond_some hK with ⟨_, hK⟩ | ⟨_, hK⟩
        · simp [putCells] at hK
        · obtain ⟨_, hK⟩ := cond_none hK
          simp [subB] at hK
      rcases hs.2 with q | ⟨cc, cap', hcc, rfl, q1, q2, q3, q4⟩
      · exact absurd q (not_dead hb alive)
      · rcases cond_some hK with ⟨hle, hK⟩ | ⟨hle, hK⟩
        · -- in place
          have hle := Nat.le_of_ble_eq_true hle
          obtain ⟨hA, hAl⟩ := aggB_rel hc hn1
          obtain ⟨blk', k1, k2, k3, k4, k5, k6, k7⟩ := putCells_sound hi hb hcc hA hK
          have hcells : (Value.agg news.toArray).cells.toList = news := by simp [Value.cells]
          rw [hcells] at k6 k7
          have hth : ∀ j, j < news.length → (w.cell? ⟨cc.1, off + m * ie.size + j, none⟩).isSome = true ∧ w.frozen? ⟨cc.1, off + m * ie.size + j, none⟩ = false := by
            intro j hj
            have := k4 (by omega)
            rw [hAl] at this
            rw [hsz]; exact this j hj
          have hrun := run_append_room_src w st tx ty e ie ht hie cc.1 off m cap' x n news hsrc (by omega) (fun j hj => (hth j hj).1) (fun j hj => (hth j hj).2)
          rw [hsz] at hrun
          refine ⟨_, _, k1, _, _, _, hrun, k6, k7, ?_⟩
          simp only [ARel]
          exact ⟨rfl, .inr ⟨cc, cap', hcc, rfl, hle, q2, q3, q4⟩⟩
        · have hle : cap < m + n := by
            rcases Nat.lt_or_ge cap (m + n) with k | k
            · exact k
            · rw [Nat.ble_eq_true_of_le k] at hle; cases hle
          obtain ⟨hoff, hK5⟩ := cond_none hK
          have hoff := Nat.eq_of_beq_eq_true hoff
          clear hK
          subst hoff
          cases hsub : subB blk 0 (m * sz') with
          | none => rw [hsub] at hK5; cases hK5
          | some a =>
            rw [hsub] at hK5
            obtain ⟨olds, k1, k2, k3, k4⟩ := subB_vals hi hb hcc hsub
            simp only at hK5
            rcases cond_some hK5 with ⟨hex, hK6⟩ | ⟨hex, hK6⟩
            all_goals clear hK5
            · have hcap := q3 hex
              subst hcap
              split at hK6
              · rename_i X hX
                obtain ⟨hr, hK7⟩ := cond_none hK6
                have hX' := CR.app k3 hc hX
                have hold : (Builtin.firstCells ie.size m (.slice (some ⟨cc.1, 0, none⟩) m cap')).run P w.drew = .ok olds.toArray w.drew :=
                  run_firstCells_some w.drew ie.size m ⟨cc.1, 0, none⟩ m cap' olds (by rw [k1, hsz]) fun j u hu => by
                    rw [Addr.add_mid]; exact k2 j u hu
                obtain ⟨u, w', σ', g1, g2, g3, g4⟩ := grow_run (nn := true) hi ht hie hz hsz hzs hbytes hold k1 k4 hsrc hn1 hle (room_le hr) hX' hs0 (by omega)
                exact ⟨_, _, hK7, u, w', σ', g1, g2, g3, g4⟩
              · cases hK6
            · obtain ⟨hm, hK7⟩ := cond_none hK6
              have hm := Nat.le_of_ble_eq_true hm
              have hmm : ∃ mm, clen blk = some mm ∧ m * sz' ≤ mm := by
                cases blk with
                | dc cs =>
                  simp only [subB] at hsub
                  cases e : Nat.ble (0 + m * sz') cs.length with
                  | false => rw [e] at hsub; simp [cond] at hsub
                  | true => exact ⟨_, rfl, by have := Nat.le_of_ble_eq_true e; omega⟩
                | ac cs =>
                  simp only [subB] at hsub
                  cases e : Nat.ble (0 + m * sz') cs.length with
                  | false => rw [e] at hsub; simp [cond] at hsub
                  | true => exact ⟨_, rfl, by have := Nat.le_of_ble_eq_true e; omega⟩
                | _ => simp [subB] at hsub
              obtain ⟨mm, hmm1, hmm2⟩ := hmm
              exact extend_sound hi ht hie hz hsz hzs hbytes hs0 hb hmm1 (by omega) hmm2 hcc (by omega) k1 k2 k4 k3 hc hn1 hsrc hK7
  | grow b sz' nn =>
    simp only [ARel] at hs
    have key : ∀ (blk : Blk) (mm : Nat), nth h b = some blk → clen blk = some mm → (cond (Nat.beq sz' sz) (extendE h b (lenOf sz mm) sz nn blk c n K) none) = some r →
        ∃ v h', K v h' = some r ∧ ∃ u w' σ', (Builtin.append_ #[st, tx] ty #[y, x]).run P w = .ok u w' ∧ HInv w' σ' h' ∧ Step w σ h w' σ' h' ∧ ARel w' σ' h' v u := by
      intro blk mm hx hmm hK
      obtain ⟨hq, hK⟩ := cond_none hK
      have hsz' := Nat.eq_of_beq_eq_true hq
      subst hsz'
      rcases hs.2 with q | ⟨blk', m', hx', hm', q⟩
      · exact absurd q (not_dead hx (by rintro rfl; simp [clen] at hmm))
      · rw [hx] at hx'; cases hx'
        rw [hmm] at hm'; cases hm'
        rcases q with ⟨rfl, q⟩ | ⟨h0, cc, m, cap', hcc, rfl, g1, g2, g3⟩
        · -- empty: the block dies, and comes again
          rw [nil_len] at hK
          unfold extendE at hK
          split at hK
          · rename_i X hX
            obtain ⟨hr, hK⟩ := cond_none hK
            obtain ⟨k1, k2⟩ := hi.kill b
            have hlen : (setNth h b .dead).length = h.length := length_setNth _ _ _
            have hnil : CR w σ h blk [] := by
              cases blk with
              | dc cs => simp [clen] at hmm; subst hmm; simp [CR, DVals]
              | ac cs => simp [clen] at hmm; subst hmm; simp [CR, AVals]
              | _ => simp [clen] at hmm
            have hX' : CR w σ h X news := by simpa using CR.app hnil hc hX
            have hX2 := hX'.step hi k2
            have hr := room_le hr
            have hy : ∃ base, y = .slice base 0 0 := by
              cases nn with
              | true => simp only [cond] at q; obtain ⟨a', rfl⟩ := q; exact ⟨_, rfl⟩
              | false => simp only [cond] at q; exact ⟨_, q⟩
            obtain ⟨base, rfl⟩ := hy
            rcases Nat.eq_zero_or_pos n with hn | hn
            · obtain ⟨r1, r2⟩ := append_sound_nothing (ty := ty) (base := base) hi ht hie (Nat.le_refl 0) hn hsrc
              subst r2
              have hc0 : clen X = some 0 := hX'.len
              obtain ⟨p1, p2⟩ := k1.pushEmpty hc0
              refine ⟨_, _, hK, _, _, _, r1, p1, k2.trans p2, ?_⟩
              have := grow_empty (w := w) (σ' := ⟨σ.G, σ.ι ++ [(0, 0)]⟩) (h := setNth h b .dead) (sz := sz') (nn := nn) hc0 q
              rw [hlen] at this; exact this
            · have hold : (Builtin.firstCells ie.size 0 (.slice base 0 0)).run P w.drew = .ok ([] : List Value).toArray w.drew := by
                cases base with
                | none => exact run_firstCells_none w.drew ie.size 0 0 0
                | some a => exact run_firstCells_some w.drew ie.size 0 a 0 0 [] (by simp) (by simp)
              obtain ⟨u, w', σ', p1, p2, p3, p4⟩ := grow_run (nn := nn) k1 ht hie hz hsz hzs hbytes hold (by simp) (by simp) hsrc hn1 (by omega) (by omega) (by simpa using hX2) hs0 (by omega)
              rw [hlen] at p4
              exact ⟨_, _, hK, u, w', σ', p1, p2, k2.trans p3, p4⟩
          · cases hK
        · have hm0 : 0 < m := by
            rcases Nat.eq_zero_or_pos m with e | e
            · subst e; omega
            · exact e
          have hlen : lenOf sz' mm = m := by
            rw [g1]; unfold lenOf; split
            · simp
            · exact Nat.mul_div_cancel m hs0
          rw [hlen] at hK
          have hvals : ∃ olds : List Value, olds.length = m * sz' ∧ w.rangeAt cc.1 0 olds ∧ CR w σ h blk olds ∧ ∀ u ∈ olds, u.oneCell' = true := by
            cases blk with
            | dc cs =>
              simp [clen] at hmm
              obtain ⟨vs, k1, k2, k3, k4⟩ := collectD (w := w) (G := σ.G) (b := cc.1) cs 0 (by simpa using hi.cellsD hx hcc)
              exact ⟨vs, by rw [k1, hmm, g1], k2, k3, k4⟩
            | ac cs =>
              simp [clen] at hmm
              obtain ⟨vs, k1, k2, k3, k4⟩ := collectA (w := w) (σ := σ) (h := h) (b := cc.1) cs 0 (by simpa using hi.cellsA hx hcc)
              exact ⟨vs, by rw [k1, hmm, g1], k2, k3, k4⟩
            | _ => simp [clen] at hmm
          obtain ⟨olds, k1, k2, k3, k4⟩ := hvals
          exact extend_sound hi ht hie hz hsz hzs hbytes hs0 hx hmm hm0 (by omega) hcc g3 k1 k2 k4 k3 hc hn1 hsrc hK
    simp only [appendTo] at hK
    split at hK
    · rename_i cs hx; exact key _ _ hx rfl hK
    · rename_i cs hx; exact key _ _ hx rfl hK
    · cases hK
  | _ => simp [appendTo] at hK

theorem appendE_sound (hT : TOK P T) (hi : HInv w σ h) {on : Bool} {st xt ty : Nat} {a b : AV} {x y : Value} {K : AV → List Blk → Option R} (ha : ARel w σ h a x) (hb : ARel w σ h b y) (hK : appendE T on st xt a b h K = some r) :
    ∃ v h', K v h' = some r ∧ ∃ u w' σ', (Builtin.append_ #[st, xt] ty #[x, y]).run P w = .ok u w' ∧ HInv w' σ' h' ∧ Step w σ h w' σ' h' ∧ ARel w' σ' h' v u := by
  unfold appendE at hK
  split at hK
  · rename_i ti tx hti htx
    split at hK
    · rename_i e e' hg hg'
      split at hK
      · cases hK
      · rename_i te hte
        obtain ⟨hc, hK⟩ := cond_none hK
        simp only [Bool.and_eq_true] at hc
        have c1 := Nat.le_of_ble_eq_true hc.1.1
        have c2 := Nat.le_of_ble_eq_true hc.1.2
        have c3 := Nat.eq_of_beq_eq_true hc.2
        have hne : te.zero ≠ [] := by rintro e0; rw [e0] at c3; simp at c3; omega
        obtain ⟨ie, z, hie, hz0, hzs, hlit⟩ := hT.zero hte c3 (.inr hne)
        obtain ⟨ie', hie', hes, heb⟩ := hT.info hte
        rw [hie] at hie'; cases hie'
        obtain ⟨c, n, news, k1, k2, k3, k4⟩ := srcE_sound (P := P) hi (hT.slice htx hg') hb hK
        obtain ⟨c', h', σ', g1, g2, g3, g4⟩ := settleE_sound hi k2 k1
        obtain ⟨v, h'', p1, u, w', σ'', p2, p3, p4, p5⟩ := appendTo_sound (ty := ty) g2 (hT.slice hti hg) hie hz0 hes (by rw [hzs]) (by rw [heb]; exact c2) c1 (g3.arel hi ha) g4 k3 (by rw [hes]; exact k4) g1
        exact ⟨v, h'', p1, u, w', σ'', p2, p3, g3.trans p4, p5⟩
    · cases hK
  · cases hK
end
end Go.AE

/- Operations on strings that are walked, on maps by whole numbers, and the clearing of rows. -/
namespace Go.AE
open Go Go.MapKept

section
variable {P : Program} {T : Tab TI} {w : World} {σ : Sg} {h : List Blk} {R : Type} {r : R}

/-- A block of another kind turns. -/
theorem HInv.putAt (hi : HInv w σ h) {l : Nat} {x0 x : Blk} {c : Nat × Nat} {o : Obj} (h0 : nth h l = some x0) (hs : solid x0 = true) (hc : nth σ.ι l = some c) (hl : clen x = clen x0)
    (hb : BRel { w with heap := w.heap.setIfInBounds c.1 o } σ (setNth h l x) l x) : HInv { w with heap := w.heap.setIfInBounds c.1 o } σ (setNth h l x) ∧ Step w σ h { w with heap := w.heap.setIfInBounds c.1 o } σ (setNth h l x) :=
  hi.write h0 hs hc hl rfl rfl rfl (by simp) (fun k hk => by simp [Array.getElem?_setIfInBounds_ne (Ne.symm hk)]) hb

theorem set_same {k : Nat} {o o' : Obj} (hk : w.heap[k]? = some o) : ({ w with heap := w.heap.setIfInBounds k o' } : World).heap[k]? = some o' := by
  have : k < w.heap.size := by
    rcases Nat.lt_or_ge k w.heap.size with q | q
    · exact q
    · rw [Array.getElem?_eq_none q] at hk; cases hk
  simp [this]

/-- A map of whole numbers in memory. -/
theorem map_at (hi : HInv w σ h) {b : Nat} {es : List (DV × DV)} {x : Value} (ha : ARel w σ h (.mp b) x) (hb : nth h b = some (.mp es)) :
    ∃ c E, nth σ.ι b = some c ∧ x = .map (some c.1) ∧ w.heap[c.1]? = some (.map E es.length) ∧ MVals w σ.G 0 es E.toList := by
  simp only [ARel] at ha
  rcases ha.2 with e | ⟨c, hc, rfl⟩
  · exact absurd e (not_dead hb (by simp))
  have hB := hi.blk b _ hb
  simp only [BRel] at hB
  obtain ⟨c', E, h1, h2, h3⟩ := hB
  rw [hc] at h1; cases h1
  exact ⟨c, E, hc, rfl, h2, h3⟩

theorem rangeS_sound (hT : TOK P T) (hi : HInv w σ h) {t : Nat} {a : AV} {x : Value} {K : AV → List Blk → Option R} (ha : ARel w σ h a x) (hK : rangeS T t a h K = some r) :
    ∃ v h', K v h' = some r ∧ ∃ u w' σ', (Instr.range t x).run P w = .ok u w' ∧ HInv w' σ' h' ∧ Step w σ h w' σ' h' ∧ ARel w' σ' h' v u := by
  unfold rangeS at hK
  split at hK
  · cases hK
  · rename_i ti ht
    split at hK
    · rename_i hg
      have hu := hT.str ht hg
      split at hK
      · rename_i s
        have := ha.str; subst this
        have hb : BRel (w.alloc (.stringIter s 0)) ⟨σ.G, σ.ι ++ [(w.heap.size, 0)]⟩ (h ++ [.sit s 0]) h.length (.sit s 0) :=
          ⟨(w.heap.size, 0), by rw [← hi.len, nth_append_len]; rfl, heap_new w _⟩
        obtain ⟨k1, k2⟩ := hi.push (.stringIter s 0) 0 (.sit s 0) hb
        refine ⟨_, _, hK, .pointer (some ⟨w.heap.size, 0, none⟩), _, _, ?_, k1, k2, ref_new hi⟩
        simp [Instr.range, run_underlying hu]
      · cases hK
    · rename_i kt et hg
      have hu := hT.map ht hg
      split at hK
      · rename_i b
        split at hK
        · rename_i es hb
          obtain ⟨c, E, hc, rfl, h2, h3⟩ := map_at hi ha hb
          have hlt : b < h.length := nth_some_lt hb
          have hbr : BRel (w.alloc (.mapIter (some c.1) es.length #[] es.length)) ⟨σ.G, σ.ι ++ [(w.heap.size, 0)]⟩ (h ++ [.mit b es.length []]) h.length (.mit b es.length []) :=
            ⟨(w.heap.size, 0), c, by rw [← hi.len, nth_append_len]; rfl, by show nth (σ.ι ++ [(w.heap.size, 0)]) b = some c; rw [nth_append_lt (nth_some_lt hc)]; exact hc, heap_new w _, by simp⟩
          obtain ⟨k1, k2⟩ := hi.push (.mapIter (some c.1) es.length #[] es.length) 0 (.mit b es.length []) hbr
          refine ⟨_, _, hK, .pointer (some ⟨w.heap.size, 0, none⟩), _, _, ?_, k1, k2, ref_new hi⟩
          have hobj := MapKept.run_getObj_map h2 (P := P)
          simp [Instr.range, run_underlying hu, hobj, Result.andThen]
        · cases hK
      · cases hK
    · cases hK

theorem nextME_sound (hi : HInv w σ h) {ty : TypeId} {a : AV} {x : Value} {K : AV → List Blk → Option R} (ha : ARel w σ h a x) (hK : nextME a h K = some r) :
    ∃ v h', K v h' = some r ∧ ∃ u w' σ', (Instr.next x false ty).run P w = .ok u w' ∧ HInv w' σ' h' ∧ Step w σ h w' σ' h' ∧ ARel w' σ' h' v u := by
  unfold nextME at hK
  split at hK
  · rename_i b off
    split at hK
    · rename_i m n begun hb
      split at hK
      · rename_i es hm
        obtain ⟨h00, hK9⟩ := cond_none hK
        clear hK
        have hK := hK9
        clear hK9
        simp only [Bool.and_eq_true] at h00
        obtain ⟨q1, q2, q3⟩ := h00
        have q1 := Nat.eq_of_beq_eq_true q1
        have q2 := Nat.eq_of_beq_eq_true q2
        have q3 := Nat.le_of_ble_eq_true q3
        subst q1
        simp only [ARel] at ha
        rcases ha.2 with e | ⟨c, hc, rfl⟩
        · exact absurd e (not_dead hb (by simp))
        have hB := hi.blk b _ hb
        simp only [BRel] at hB
        obtain ⟨c', cm, h1, h2, h3, h4⟩ := hB
        rw [hc] at h1; cases h1
        have hM := hi.blk m _ hm
        simp only [BRel] at hM
        obtain ⟨cm', E, g1, g2, g3⟩ := hM
        rw [h2] at g1; cases g1
        have hget : (getObj c.1).run P w = .ok (.mapIter (some cm.1) n begun.toArray n) w := by simp [getObj, Sem.run, h3]
        have hobj := MapKept.run_getObj_map g2 (P := P)
        split at hK
        · rename_i e
          simp only [List.length_cons, List.length_nil] at q2 g2 hobj
          subst q2
          simp only [MVals] at g3
          obtain ⟨me, rr, gE, gb, gk, gv, go, rfl⟩ := g3
          have hE : E = #[me] := by rw [← Array.toList_inj]; exact gE
          subst hE
          have hb' : BRel { w with heap := w.heap.setIfInBounds c.1 (.mapIter (some cm.1) 1 #[0] 1) } σ (setNth h b (.mit m 1 [0])) b (.mit m 1 [0]) :=
            ⟨c, cm, hc, h2, set_same h3, by simp⟩
          obtain ⟨k1, k2⟩ := hi.putAt (x := .mit m 1 [0]) (o := .mapIter (some cm.1) 1 #[0] 1) hb rfl hc rfl hb'
          refine ⟨_, _, hK, .tuple #[.bool true, me.key, me.val], _, _, ?_, k1, k2, ?_⟩
          · have hset : (setObj c.1 (.mapIter (some cm.1) 1 #[0] 1)).run P w = .ok () { w with heap := w.heap.setIfInBounds c.1 (.mapIter (some cm.1) 1 #[0] 1) } := by simp [setObj, Sem.run, h3]
            simp [Instr.next, hget, hobj, Result.andThen, gb, choose, Sem.run, Question.forced, hset]
          · have hG : ∀ k, σ.G k → σ.G k ∧ ({ w with heap := w.heap.setIfInBounds c.1 (.mapIter (some cm.1) 1 #[0] 1) } : World).heap[k]? = w.heap[k]? := fun k hk => ⟨hk, by
              have : k ≠ c.1 := by rintro rfl; exact hi.sep _ ⟨b, c, ⟨_, hb, rfl⟩, hc, rfl⟩ hk
              simp [Array.getElem?_setIfInBounds_ne (Ne.symm this)]⟩
            simp only [ARel, DRel]
            refine ⟨_, rfl, ?_⟩
            simp only [DVals]
            exact ⟨_, _, rfl, by simp [DRel], _, _, rfl, DRel.mono hG _ _ gk, _, _, rfl, DRel.mono hG _ _ gv, rfl⟩
        · rename_i hne
          refine ⟨_, _, hK, .tuple #[.bool false], w, σ, ?_, hi, Step.refl _ _ _, ?_⟩
          · cases es with
            | nil =>
              simp only [List.length_nil] at q2 g2 hobj
              subst q2
              simp only [MVals] at g3
              have hE : E = #[] := by rw [← Array.toList_inj]; exact g3
              subst hE
              cases begun <;> simp [Instr.next, hget, hobj, Result.andThen, choose, Sem.run, Question.forced]
            | cons e r =>
              cases r with
              | nil =>
                cases begun with
                | nil => exact absurd rfl (hne e rfl)
                | cons x xs =>
                  simp only [List.length_cons, List.length_nil] at q2 g2 hobj
                  subst q2
                  have hx0 : x = 0 := by have := h4 x (by simp); omega
                  subst hx0
                  simp only [MVals] at g3
                  obtain ⟨me, rr, gE, gb, gk, gv, go, rfl⟩ := g3
                  have hE : E = #[me] := by rw [← Array.toList_inj]; exact gE
                  subst hE
                  simp [Instr.next, hget, hobj, Result.andThen, gb, choose, Sem.run, Question.forced]
              | cons e' r => simp at q2; omega
          · simp only [ARel, DRel]
            exact ⟨_, rfl, by simp [DVals, DRel]⟩
      · cases hK
    · cases hK
  · cases hK

theorem MVals.find {G : Nat → Prop} : ∀ {es : List (DV × DV)} {i0 : Nat} {ms : List MapEntry}, MVals w G i0 es ms → ∀ j e, nth es j = some e → ∃ m, ms.find? (fun y => y.born == i0 + j) = some m ∧ DRel w G e.1 m.key ∧ DRel w G e.2 m.val
  | [], _, _, _, j, e, he => by simp [nth] at he
  | e0 :: es, i0, ms, h, j, e, he => by
    obtain ⟨m, r, rfl, h2, h3, h4, h5, h6⟩ := h
    cases j with
    | zero =>
      simp only [nth, Option.some.injEq] at he; subst he
      refine ⟨m, ?_, h3, h4⟩
      rw [List.find?_cons_of_pos]
      rw [h2]; simp
    | succ j =>
      obtain ⟨m', k1, k2⟩ := MVals.find h6 j e (by simpa [nth] using he)
      refine ⟨m', ?_, k2⟩
      rw [List.find?_cons_of_neg]
      · rw [show i0 + (j + 1) = i0 + 1 + j by omega]; exact k1
      · rw [h2]; simp

theorem entryE_sound (hi : HInv w σ h) {a : AV} {x : Value} {K : AV → Option R} (ha : ARel w σ h a x) (hK : entryE a h K = some r) :
    ∃ v, K v = some r ∧ ∃ u, (Instr.entry x).run P w = .ok u w ∧ ARel w σ h v u := by
  unfold entryE at hK
  split at hK
  · rename_i b off
    split at hK
    · rename_i m n begun hb
      split at hK
      · rename_i es hm
        obtain ⟨h00, hK9⟩ := cond_none hK
        clear hK
        have hK := hK9
        clear hK9
        simp only [Bool.and_eq_true] at h00
        obtain ⟨q1, q2⟩ := h00
        have q1 := Nat.eq_of_beq_eq_true q1
        have q2 := Nat.eq_of_beq_eq_true q2
        subst q1
        simp only [ARel] at ha
        rcases ha.2 with e | ⟨c, hc, rfl⟩
        · exact absurd e (not_dead hb (by simp))
        have hB := hi.blk b _ hb
        simp only [BRel] at hB
        obtain ⟨c', cm, h1, h2, h3, h4⟩ := hB
        rw [hc] at h1; cases h1
        have hM := hi.blk m _ hm
        simp only [BRel] at hM
        obtain ⟨cm', E, g1, g2, g3⟩ := hM
        rw [h2] at g1; cases g1
        rw [q2] at g2
        have hget : (getObj c.1).run P w = .ok (.mapIter (some cm.1) n begun.toArray n) w := by simp [getObj, Sem.run, h3]
        have hobj := MapKept.run_getObj_map g2 (P := P)
        cases hl : begun.getLast? with
        | none => rw [hl] at hK; cases hK
        | some i =>
          rw [hl] at hK
          dsimp only at hK
          cases he : nth es i with
          | none => rw [he] at hK; cases hK
          | some e =>
            rw [he] at hK
            obtain ⟨me, f1, f2, f3⟩ := g3.find i e he
            rw [Nat.zero_add] at f1
            have hback : begun.toArray.back? = some i := by rw [List.back?_toArray]; exact hl
            have hfind : E.find? (fun y => y.born == i) = some me := by rw [← Array.find?_toList]; exact f1
            refine ⟨_, hK, .tuple #[me.key, me.val], ?_, ?_⟩
            · simp [Instr.entry, hget, hobj, Result.andThen, hback, hfind]
            · simp only [ARel, DRel]
              refine ⟨_, rfl, ?_⟩
              simp only [DVals]
              exact ⟨_, _, rfl, f2, _, _, rfl, f3, rfl⟩
      · cases hK
    · cases hK
  · cases hK

theorem nextSE_sound (hi : HInv w σ h) {ty : TypeId} {a : AV} {x : Value} {K : AV → List Blk → Option R} (ha : ARel w σ h a x) (hK : nextSE a h K = some r) :
    ∃ v h', K v h' = some r ∧ ∃ u w' σ', (Instr.next x true ty).run P w = .ok u w' ∧ HInv w' σ' h' ∧ Step w σ h w' σ' h' ∧ ARel w' σ' h' v u := by
  unfold nextSE at hK
  split at hK
  · rename_i b off
    split at hK
    · rename_i s pos hb
      obtain ⟨h00, hK9⟩ := cond_none hK
      clear hK
      have hK := hK9
      clear hK9
      have h00 := Nat.eq_of_beq_eq_true h00
      subst h00
      simp only [ARel] at ha
      rcases ha.2 with e | ⟨c, hc, rfl⟩
      · exact absurd e (not_dead hb (by simp))
      have hB := hi.blk b _ hb
      simp only [BRel] at hB
      obtain ⟨c', h1, h2⟩ := hB
      rw [hc] at h1; cases h1
      have hget : (getObj c.1).run P w = .ok (.stringIter s pos) w := by simp [getObj, Sem.run, h2]
      rcases cond_some hK with ⟨hlt, hK⟩ | ⟨hlt, hK⟩
      · have hlt' : pos < s.size := by simpa only [Nat.blt_eq] using hlt
        have hb' : BRel { w with heap := w.heap.setIfInBounds c.1 (.stringIter s (pos + (Utf8.decode s pos).2)) } σ (setNth h b (.sit s (pos + (Utf8.decode s pos).2))) b (.sit s (pos + (Utf8.decode s pos).2)) :=
          ⟨c, hc, set_same h2⟩
        obtain ⟨k1, k2⟩ := hi.putAt (x := .sit s (pos + (Utf8.decode s pos).2)) (o := .stringIter s (pos + (Utf8.decode s pos).2)) hb rfl hc rfl hb'
        refine ⟨_, _, hK, .tuple #[.bool true, goInt pos, .int .i32 (Utf8.decode s pos).1], _, _, ?_, k1, k2, ?_⟩
        · have hset : (setObj c.1 (.stringIter s (pos + (Utf8.decode s pos).2))).run P w = .ok () { w with heap := w.heap.setIfInBounds c.1 (.stringIter s (pos + (Utf8.decode s pos).2)) } := by simp [setObj, Sem.run, h2]
          simp [Instr.next, hget, Result.andThen, hlt', hset]
        · simp only [ARel, DRel]
          exact ⟨_, rfl, by simp [DVals, DRel, goInt]⟩
      · have hlt' : ¬ pos < s.size := by
          intro q
          have : Nat.blt pos s.size = true := by simpa only [Nat.blt_eq] using q
          rw [this] at hlt; cases hlt
        refine ⟨_, _, hK, .tuple #[.bool false], w, σ, ?_, hi, Step.refl _ _ _, ?_⟩
        · simp [Instr.next, hget, Result.andThen, hlt']
        · simp only [ARel, DRel]
          exact ⟨_, rfl, by simp [DVals, DRel]⟩
    · cases hK
  · cases hK

theorem makeMap_sound (hi : HInv w σ h) {t : TypeId} :
    ∃ u w' σ', (Instr.makeMap t none).run P w = .ok u w' ∧ HInv w' σ' (h ++ [.mp []]) ∧ Step w σ h w' σ' (h ++ [.mp []]) ∧ ARel w' σ' (h ++ [.mp []]) (.mp h.length) u := by
  have hb : BRel (w.alloc (.map #[] 0)) ⟨σ.G, σ.ι ++ [(w.heap.size, 0)]⟩ (h ++ [.mp []]) h.length (.mp []) :=
    ⟨(w.heap.size, 0), #[], by rw [← hi.len, nth_append_len]; rfl, heap_new w _, by simp [MVals]⟩
  obtain ⟨k1, k2⟩ := hi.push (.map #[] 0) 0 (.mp []) hb
  refine ⟨.map (some w.heap.size), _, _, by simp [Instr.makeMap], k1, k2, ?_⟩
  simp only [ARel]
  exact ⟨rfl, .inr ⟨(w.heap.size, 0), by rw [← hi.len, nth_append_len]; rfl, rfl⟩⟩

/-- Keys of whole numbers. -/
theorem keyEq_int {t : Nat} {j : IntKind} {x : Int} {d : DV} {b : Bool} (h : keyEq T t (.int j x) d = some b) : ∃ y, d = .int j y ∧ b = decide (x = y) := by
  unfold keyEq at h
  split at h
  · cases h
  · rename_i ti ht
    split at h
    · rename_i kd hg
      split at h
      · rename_i j0 a j' b' e1
        cases e1
        obtain ⟨q, h⟩ := cond_none h
        simp only [decide_eq_true_eq] at q
        subst q
        simp only [decide_true, cond_true, Option.some.injEq] at h
        exact ⟨b', rfl, h.symm⟩
      · cases h
    · obtain ⟨_, h⟩ := cond_none h
      cases h

/-- Keys of arrays and structs. -/
theorem keyEq_agg {t : Nat} {xs : List DV} {d : DV} {b : Bool} (h : keyEq T t (.agg xs) d = some b) : ∃ ys, d = .agg ys ∧ eqLT T (leaves T 4 t) xs ys = some b := by
  unfold keyEq at h
  cases ht : tget T t with
  | none => rw [ht] at h; cases h
  | some ti =>
    rw [ht] at h
    cases d with
    | agg ys =>
      cases hg : ti.tag <;> simp only [hg] at h <;> first | (cases h; done) | exact ⟨ys, rfl, (cond_none h).2⟩
    | _ => cases hg : ti.tag <;> simp only [hg] at h <;> first | (cases h; done) | (have := (cond_none h).2; cases this)

theorem findM_int {G : Nat → Prop} {t : Nat} {kd : IntKind} {x : Int} : ∀ (es : List (DV × DV)) (ms : List MapEntry) (i0 : Nat) (o : Option Nat), findM T t (.int kd x) es = some o → MVals w G i0 es ms →
    Instr.findNow (.int kd) (.int kd x) ms i0 = some (o.bind fun i => (ms[i]?).map fun m => (i0 + i, m.val))
  | [], ms, i0, o, h, hm => by
    simp only [MVals] at hm; subst hm
    simp only [findM, Option.some.injEq] at h; subst h
    rfl
  | e :: es, ms, i0, o, h, hm => by
    obtain ⟨m, r, rfl, h2, h3, h4, h5, h6⟩ := hm
    simp only [findM, Option.bind_eq_some_iff] at h
    obtain ⟨b, hb, h⟩ := h
    obtain ⟨y, e1, rfl⟩ := keyEq_int hb
    rw [e1] at h3
    simp only [DRel] at h3
    unfold Instr.findNow
    rw [h3]
    simp only [Instr.sameNow, if_true]
    by_cases c : x = y
    · subst c
      simp only [decide_true, cond_true, Option.some.injEq] at h
      subst h
      simp
    · simp only [decide_eq_false c, cond_false] at h
      have : (x == y) = false := by simpa using c
      rw [this]
      cases hf : findM T t (.int kd x) es with
      | none => rw [hf] at h; cases h
      | some o' =>
        rw [hf] at h
        simp only [Option.map_some, Option.some.injEq] at h
        subst h
        have ih := findM_int es r (i0 + 1) o' hf h6
        simp only
        rw [ih]
        cases o' with
        | none => rfl
        | some i => simp [Nat.add_assoc, Nat.add_comm 1 i]

theorem findM_wide (hE : EqOK P T) {G : Nat → Prop} {t : Nat} {ti : TI} (ht : tget T t = some ti) (hag : ti.agg = true) (hfl : flatTy T t = true) {xs : List DV} {vs : Array Value} (hv : DVals w G xs vs.toList) : ∀ (es : List (DV × DV)) (ms : List MapEntry) (i0 : Nat) (o : Option Nat), findM T t (.agg xs) es = some o → MVals w G i0 es ms →
    (Instr.findAsking t (.agg vs) ms i0).run P w = .ok (o.bind fun i => (ms[i]?).map fun m => (i0 + i, m.val)) w
  | [], ms, i0, o, h, hm => by
    simp only [MVals] at hm; subst hm
    simp only [findM, Option.some.injEq] at h; subst h
    rfl
  | e :: es, ms, i0, o, h, hm => by
    obtain ⟨m, r, rfl, h2, h3, h4, h5, h6⟩ := hm
    simp only [findM, Option.bind_eq_some_iff] at h
    obtain ⟨b, hb, h⟩ := h
    obtain ⟨ys, e1, he⟩ := keyEq_agg hb
    rw [e1] at h3
    simp only [DRel] at h3
    obtain ⟨us, hm1, hu, _⟩ := h3
    have hq := (hE.1 t ti xs ys b ht hag hfl he w G vs us hv hu).2
    unfold Instr.findAsking
    rw [hm1, Sem.run_bind, hq, Result.andThen_ok]
    cases b with
    | true =>
      simp only [cond_true, Option.some.injEq] at h
      subst h
      simp
    | false =>
      simp only [cond_false] at h
      cases hf : findM T t (.agg xs) es with
      | none => rw [hf] at h; cases h
      | some o' =>
        rw [hf] at h
        simp only [Option.map_some, Option.some.injEq] at h
        subst h
        have ih := findM_wide hE ht hag hfl hv es r (i0 + 1) o' hf h6
        simp only [Bool.false_eq_true, if_false]
        rw [ih]
        cases o' with
        | none => rfl
        | some i => simp [Nat.add_assoc, Nat.add_comm 1 i]

theorem findM_at {t : Nat} {k : DV} : ∀ (es : List (DV × DV)) (i : Nat), findM T t k es = some (some i) → ∃ e, nth es i = some e ∧ keyEq T t k e.1 = some true
  | [], i, h => by simp [findM] at h
  | e :: es, i, h => by
    simp only [findM, Option.bind_eq_some_iff] at h
    obtain ⟨b, hb, h⟩ := h
    cases b with
    | true =>
      simp only [cond_true, Option.some.injEq] at h
      subst h
      exact ⟨e, rfl, hb⟩
    | false =>
      simp only [cond_false] at h
      cases hf : findM T t k es with
      | none => rw [hf] at h; cases h
      | some o =>
        rw [hf] at h
        cases o with
        | none => cases h
        | some i' =>
          simp only [Option.map_some, Option.some.injEq] at h
          subst h
          obtain ⟨e', k1, k2⟩ := findM_at es i' hf
          exact ⟨e', k1, k2⟩

theorem bytes_eq {a b : ByteArray} (h : (a == b) = true) : a = b := by
  cases a with | mk a => cases b with | mk b =>
  have h2 : (a == b) = true := h
  rw [eq_of_beq h2]

theorem bytes_refl (a : ByteArray) : (a == a) = true := by
  cases a with | mk a =>
  show (a == a) = true
  simp

/-- Scalars that are told equal are the same. -/
theorem same_cell {G : Nat → Prop} {t : Nat} {x y : DV} (h : (reveal T t x fun x' => reveal T t y fun y' => eqD x' y') = some true) {v u : Value} (hv : DRel w G x v) (hu : DRel w G y u) : x = y ∧ v = u ∧ ∀ n, Instr.sameBits n v v = true := by
  have h0 := reveal_sound (reveal_sound h)
  cases x <;> cases y <;> simp only [eqD] at h0 <;> try (cases h0; done)
  · simp only [DRel] at hv hu
    simp only [Option.some.injEq, beq_iff_eq] at h0
    subst h0; subst hv; subst hu
    exact ⟨rfl, rfl, fun n => by unfold Instr.sameBits; simp⟩
  · simp only [DRel] at hv hu
    obtain ⟨q, h1⟩ := cond_none h0
    simp only [decide_eq_true_eq, Option.some.injEq] at q h1
    subst q; subst h1; subst hv; subst hu
    exact ⟨rfl, rfl, fun n => by unfold Instr.sameBits; simp⟩
  · simp only [DRel] at hv hu
    simp only [Option.some.injEq] at h0
    have h1 := bytes_eq h0
    subst h1; subst hv; subst hu
    exact ⟨rfl, rfl, fun n => by unfold Instr.sameBits; exact bytes_refl _⟩

theorem same_cells {G : Nat → Prop} : ∀ {l : List Nat} {xs ys : List DV} {vs us : List Value}, eqLT T l xs ys = some true → DVals w G xs vs → DVals w G ys us → xs = ys ∧ vs = us ∧ ∀ v ∈ vs, ∀ n, Instr.sameBits n v v = true
  | [], [], [], vs, us, _, hv, hu => by
    simp only [DVals] at hv hu
    subst hv; subst hu
    exact ⟨rfl, rfl, by simp⟩
  | [], _ :: _, _, _, _, h, _, _ => by simp [eqLT] at h
  | [], [], _ :: _, _, _, h, _, _ => by simp [eqLT] at h
  | _ :: _, [], _, _, _, h, _, _ => by simp [eqLT] at h
  | _ :: _, _ :: _, [], _, _, h, _, _ => by simp [eqLT] at h
  | t :: l, x :: xs, y :: ys, vs, us, h, hv, hu => by
    simp only [eqLT, Option.bind_eq_some_iff, Option.map_eq_some_iff] at h
    obtain ⟨b1, h1, b2, h2, h3⟩ := h
    simp only [Bool.and_eq_true] at h3
    obtain ⟨rfl, rfl⟩ := h3
    obtain ⟨v, r, rfl, q1, q2⟩ := hv
    obtain ⟨u, r', rfl, q3, q4⟩ := hu
    obtain ⟨rfl, rfl, h5⟩ := same_cell h1 q1 q3
    obtain ⟨rfl, rfl, h6⟩ := same_cells h2 q2 q4
    exact ⟨rfl, rfl, by
      intro v' hv'
      rcases List.mem_cons.1 hv' with rfl | hv'
      · exact h5
      · exact h6 v' hv'⟩

theorem MVals.get {G : Nat → Prop} : ∀ {es : List (DV × DV)} {i0 : Nat} {ms : List MapEntry}, MVals w G i0 es ms → ∀ i e, nth es i = some e → ∃ m, ms[i]? = some m ∧ m.born = i0 + i ∧ DRel w G e.1 m.key ∧ DRel w G e.2 m.val ∧ m.val.oneCell' = true
  | [], _, _, _, i, e, he => by simp [nth] at he
  | e0 :: es, i0, ms, h, i, e, he => by
    obtain ⟨m, r, rfl, h2, h3, h4, h5, h6⟩ := h
    cases i with
    | zero => simp only [nth, Option.some.injEq] at he; subst he; exact ⟨m, rfl, h2, h3, h4, h5⟩
    | succ i =>
      obtain ⟨m', k1, k2, k3⟩ := h6.get i e (by simpa [nth] using he)
      exact ⟨m', by simpa using k1, by omega, k3⟩

theorem MVals.push {G : Nat → Prop} {e : DV × DV} {m : MapEntry} : ∀ {es : List (DV × DV)} {i0 : Nat} {ms : List MapEntry}, MVals w G i0 es ms → m.born = i0 + es.length → DRel w G e.1 m.key → DRel w G e.2 m.val → m.val.oneCell' = true → MVals w G i0 (es ++ [e]) (ms ++ [m])
  | [], i0, ms, h, h1, h2, h3, h4 => by
    simp only [MVals] at h; subst h
    exact ⟨m, [], rfl, by simpa using h1, h2, h3, h4, rfl⟩
  | e0 :: es, i0, ms, h, h1, h2, h3, h4 => by
    obtain ⟨m', r, rfl, k2, k3, k4, k5, k6⟩ := h
    exact ⟨m', r ++ [m], rfl, k2, k3, k4, k5, k6.push (by rw [h1]; simp; omega) h2 h3 h4⟩

theorem MVals.put {G : Nat → Prop} {e : DV × DV} {f : MapEntry → MapEntry} : ∀ {es : List (DV × DV)} {i0 : Nat} {ms : List MapEntry} {i : Nat}, MVals w G i0 es ms → (∀ m, ms[i]? = some m → (f m).born = m.born ∧ DRel w G e.1 (f m).key ∧ DRel w G e.2 (f m).val ∧ (f m).val.oneCell' = true) → MVals w G i0 (setNth es i e) (ms.modify i f)
  | [], i0, ms, i, h, _ => by
    simp only [MVals] at h; subst h
    simp [setNth, MVals]
  | e0 :: es, i0, ms, 0, h, h1 => by
    obtain ⟨m', r, rfl, k2, k3, k4, k5, k6⟩ := h
    obtain ⟨q1, q2, q3, q4⟩ := h1 m' rfl
    exact ⟨f m', r, by simp, q1.trans k2, q2, q3, q4, k6⟩
  | e0 :: es, i0, ms, i + 1, h, h1 => by
    obtain ⟨m', r, rfl, k2, k3, k4, k5, k6⟩ := h
    exact ⟨m', r.modify i f, by simp, k2, k3, k4, k5, k6.put fun m hm => h1 m (by simpa using hm)⟩

/-- What a key of its type does: it is one; where it is; it stays. -/
theorem key_facts (hT : TOK P T) (hE : EqOK P T) {t : Nat} {k : DV} (h : keyOK T t k = true) {v : Value} (hv : DRel w σ.G k v) :
    (∀ em, (Instr.checkKey em 10000 t v).run P w = .ok () w) ∧
    (∀ (es : List (DV × DV)) (ms : List MapEntry) (o : Option Nat), findM T t k es = some o → MVals w σ.G 0 es ms → (Instr.findKey t v ms).run P w = .ok (o.bind fun i => (ms[i]?).map fun m => (i, m.val)) w) ∧
    (∀ (d : DV) (u : Value), keyEq T t k d = some true → DRel w σ.G d u → d = k ∧ u = v ∧ (Instr.keyThatStays v v).run P w = .ok v w) := by
  unfold keyOK at h
  split at h
  · cases h
  · rename_i ti ht
    split at h
    · rename_i kd hg
      split at h
      · rename_i j x
        simp only [decide_eq_true_eq] at h; subst h
        have hku := hT.int ht hg
        simp only [DRel] at hv
        subst hv
        refine ⟨fun em => run_checkKey (P := P) (w := w) (k := .int j x) hku (by simp [IsKey]) em 9999, fun es ms o ho hm => ?_, fun d u hd hu => ?_⟩
        · have := run_findKey (P := P) (w := w) hku (findM_int es ms 0 o ho hm)
          simpa using this
        · obtain ⟨y, rfl, e⟩ := keyEq_int hd
          have := (of_decide_eq_true e.symm).symm
          subst this
          simp only [DRel] at hu
          subst hu
          exact ⟨rfl, rfl, run_keyThatStays (P := P) (w := w) (d := .int j) (k := .int j y) (by simp [IsKey])⟩
      · cases h
    · cases q : (ti.agg && flatTy T t) with
      | true =>
        rw [q] at h
        simp only [cond_true] at h
        simp only [Bool.and_eq_true] at q
        obtain ⟨hag, hfl⟩ := q
        split at h
        · rename_i xs
          have hl := Nat.eq_of_beq_eq_true h
          simp only [DRel] at hv
          obtain ⟨vs, rfl, hv, hone⟩ := hv
          have hsz : vs.size = (leaves T 4 t).length := by have h0 := hv.get.1; simp only [Array.length_toList] at h0; omega
          have htag := hT.tag ht
          have hwide : (match P.underlying t with | some (.array _ _) | some (.struct _) => true | _ => false) = true := by
            cases hg : ti.tag <;> simp [TI.agg, hg] at hag <;> rw [hg] at htag <;> simp only [tagOK] at htag
            · split at htag
              · rename_i hu'; rw [hu']
              · cases htag
            · split at htag
              · rename_i hu'; rw [hu']
              · cases htag
          refine ⟨fun em => hE.2 t ti ht hag hfl w em vs hsz, fun es ms o ho hm => ?_, fun d u hd hu => ?_⟩
          · rw [run_findKey_eq w hwide]
            have := findM_wide hE ht hag hfl hv es ms 0 o ho hm
            simpa using this
          · obtain ⟨ys, rfl, he⟩ := keyEq_agg hd
            simp only [DRel] at hu
            obtain ⟨us, rfl, hu, _⟩ := hu
            obtain ⟨rfl, e2, hb⟩ := same_cells he hv hu
            have : us = vs := Array.toList_inj.1 e2.symm
            subst this
            refine ⟨rfl, rfl, ?_⟩
            have hs : Instr.sameBits 10000 (.agg us) (.agg us) = true := by
              show Instr.sameBits (9999 + 1) (.agg us) (.agg us) = true
              simp only [Instr.sameBits, beq_self_eq_true, Bool.true_and, List.all_eq_true]
              intro p hp
              obtain ⟨i, hi, e⟩ := List.getElem_of_mem hp
              rw [List.getElem_zip] at e
              rw [← e]
              exact hb _ (List.getElem_mem _) 9999
            simp [Instr.keyThatStays, hs]
        · cases h
      | false => rw [q] at h; cases h

theorem lookupE_sound (hT : TOK P T) (hE : EqOK P T) (hi : HInv w σ h) {t : Nat} {a i : AV} {ok : Bool} {x y : Value} {K : AV → Option R} (ha : ARel w σ h a x) (hy : ARel w σ h i y) (hK : lookupE T t a i ok h K = some r) :
    ∃ v, K v = some r ∧ ∃ u, (Instr.lookup t x y ok).run P w = .ok u w ∧ ARel w σ h v u := by
  unfold lookupE at hK
  split at hK
  · cases hK
  · rename_i ti ht
    split at hK
    · rename_i kt et hg
      have hu := hT.map ht hg
      split at hK
      · cases hK
      · rename_i te hte
        split at hK
        · rename_i z b k hz
          split at hK
          · rename_i es hb
            obtain ⟨q, hK9⟩ := cond_none hK
            clear hK
            have hK := hK9
            clear hK9
            simp only [Bool.and_eq_true, Bool.not_eq_true'] at q
            obtain ⟨⟨q1, rfl⟩, q2, q3⟩ := q
            have q3 := Nat.eq_of_beq_eq_true q3
            simp only [ARel] at hy
            obtain ⟨f1, f2, _⟩ := key_facts hT hE q2 hy
            obtain ⟨c, E, hc, rfl, h2, h3⟩ := map_at hi ha hb
            simp only [Option.bind_eq_some_iff] at hK
            obtain ⟨d, hd, hK⟩ := hK
            simp only [findV, Option.bind_eq_some_iff] at hd
            obtain ⟨o, ho, hd⟩ := hd
            have hfind := f2 es E.toList o ho h3
            have hkey := f1 E.isEmpty
            have hobj := MapKept.run_getObj_map h2 (P := P)
            obtain ⟨iz, zv, e1, e2, e3, e4⟩ := hT.zero hte q3 (.inr (by rw [hz]; simp))
            have hzero : (zeroValue et).run P w = .ok zv w := by simp [zeroValue, typeInfo, e1, e2]
            cases o with
            | none =>
              simp only [Option.some.injEq] at hd; subst hd
              simp only [Option.bind_none] at hfind
              obtain ⟨v1, v2⟩ := litD_vals (w := w) (G := σ.G) e4
              rw [hz, hT.zeroOne hte q1 e1 e2] at v1
              have hzd : DRel w σ.G z zv := by
                obtain ⟨zv', rr, w1, w2, w3⟩ := v1
                cases w1; exact w2
              exact ⟨_, reveal_sound hK, zv, by simp [Instr.lookup, run_underlying hu, hobj, hkey, hfind, hzero, Result.andThen], by simpa [ARel] using hzd⟩
            | some i =>
              simp only [Option.map_eq_some_iff] at hd
              obtain ⟨e, he, rfl⟩ := hd
              obtain ⟨m, m1, m2, m3, m4, m5⟩ := h3.get i e he
              simp only [Option.bind_some, m1, Option.map_some] at hfind
              exact ⟨_, reveal_sound hK, m.val, by simp [Instr.lookup, run_underlying hu, hobj, hkey, hfind, Result.andThen], by simpa [ARel] using m4⟩
          · cases hK
        · cases hK
    · cases hK

/-- A map gets an entry. -/
theorem map_push (hi : HInv w σ h) {b : Nat} {es : List (DV × DV)} {c : Nat × Nat} {E : Array MapEntry} (hb : nth h b = some (.mp es)) (hc : nth σ.ι b = some c) (h2 : w.heap[c.1]? = some (.map E es.length)) (h3 : MVals w σ.G 0 es E.toList) {k d : DV} {v z : Value} (hv : DRel w σ.G k v) (hz : DRel w σ.G d z) (hz1 : z.oneCell' = true) :
    HInv { w with heap := w.heap.setIfInBounds c.1 (.map (E.push { key := v, val := z, born := es.length }) (es.length + 1)) } σ (setNth h b (.mp (es ++ [(k, d)]))) ∧
    Step w σ h { w with heap := w.heap.setIfInBounds c.1 (.map (E.push { key := v, val := z, born := es.length }) (es.length + 1)) } σ (setNth h b (.mp (es ++ [(k, d)]))) := by
  have hm0 : Mine σ h c.1 := ⟨b, c, ⟨_, hb, rfl⟩, hc, rfl⟩
  have hG : ∀ (o : Obj) (k : Nat), σ.G k → σ.G k ∧ ({ w with heap := w.heap.setIfInBounds c.1 o } : World).heap[k]? = w.heap[k]? := fun o k hk => ⟨hk, by
    have : k ≠ c.1 := by rintro rfl; exact hi.sep _ hm0 hk
    simp [Array.getElem?_setIfInBounds_ne (Ne.symm this)]⟩
  have hl : E.size = es.length := by have := h3.len; simpa using this
  have hB : BRel { w with heap := w.heap.setIfInBounds c.1 (.map (E.push { key := v, val := z, born := es.length }) (es.length + 1)) } σ (setNth h b (.mp (es ++ [(k, d)]))) b (.mp (es ++ [(k, d)])) := by
    refine ⟨c, E.push { key := v, val := z, born := es.length }, hc, by simpa using set_same h2, ?_⟩
    rw [Array.toList_push]
    exact (h3.push (m := { key := v, val := z, born := es.length }) (e := (k, d)) (by simp) hv hz hz1).mono (hG _)
  exact hi.putAt (x := .mp (es ++ [(k, d)])) (o := .map (E.push { key := v, val := z, born := es.length }) (es.length + 1)) hb rfl hc rfl hB

/-- An entry of a map is told anew. -/
theorem map_put (hi : HInv w σ h) {b i : Nat} {es : List (DV × DV)} {c : Nat × Nat} {E : Array MapEntry} {e : DV × DV} (hb : nth h b = some (.mp es)) (hc : nth σ.ι b = some c) (h2 : w.heap[c.1]? = some (.map E es.length)) (h3 : MVals w σ.G 0 es E.toList) {d : DV} (f : MapEntry → MapEntry)
    (hf : ∀ m, E.toList[i]? = some m → (f m).born = m.born ∧ DRel w σ.G e.1 (f m).key ∧ DRel w σ.G d (f m).val ∧ (f m).val.oneCell' = true) :
    HInv { w with heap := w.heap.setIfInBounds c.1 (.map (E.modify i f) es.length) } σ (setNth h b (.mp (setNth es i (e.1, d)))) ∧
    Step w σ h { w with heap := w.heap.setIfInBounds c.1 (.map (E.modify i f) es.length) } σ (setNth h b (.mp (setNth es i (e.1, d)))) := by
  have hm0 : Mine σ h c.1 := ⟨b, c, ⟨_, hb, rfl⟩, hc, rfl⟩
  have hG : ∀ (o : Obj) (k : Nat), σ.G k → σ.G k ∧ ({ w with heap := w.heap.setIfInBounds c.1 o } : World).heap[k]? = w.heap[k]? := fun o k hk => ⟨hk, by
    have : k ≠ c.1 := by rintro rfl; exact hi.sep _ hm0 hk
    simp [Array.getElem?_setIfInBounds_ne (Ne.symm this)]⟩
  have hB : BRel { w with heap := w.heap.setIfInBounds c.1 (.map (E.modify i f) es.length) } σ (setNth h b (.mp (setNth es i (e.1, d)))) b (.mp (setNth es i (e.1, d))) := by
    refine ⟨c, E.modify i f, hc, by simpa [length_setNth] using set_same h2, ?_⟩
    rw [Array.toList_modify]
    exact MVals.mono (hG _) _ _ _ (h3.put (e := (e.1, d)) hf)
  exact hi.putAt (x := .mp (setNth es i (e.1, d))) (o := .map (E.modify i f) es.length) hb rfl hc rfl hB

theorem setNth_id {α : Type} : ∀ {l : List α} {i : Nat} {x : α}, nth l i = some x → setNth l i x = l
  | [], i, x, h => by simp [nth] at h
  | y :: l, 0, x, h => by simp only [nth, Option.some.injEq] at h; subst h; rfl
  | y :: l, i + 1, x, h => by simp only [nth] at h; simp only [setNth]; rw [setNth_id h]

theorem updateE_sound (hT : TOK P T) (hE : EqOK P T) (hi : HInv w σ h) {t : Nat} {a i d : AV} {x y z : Value} {K : AV → List Blk → Option R} (ha : ARel w σ h a x) (hy : ARel w σ h i y) (hz : ARel w σ h d z) (hK : updateE T t a i d h K = some r) :
    ∃ h', K (.d (.tup [])) h' = some r ∧ ∃ w', (Instr.mapUpdate t x y z).run P w = .ok () w' ∧ HInv w' σ h' ∧ Step w σ h w' σ h' := by
  unfold updateE at hK
  split at hK
  · cases hK
  · rename_i ti ht
    split at hK
    · rename_i kt et hg
      have hu := hT.map ht hg
      split at hK
      · rename_i b k dv
        split at hK
        · rename_i es hb
          obtain ⟨q, hK⟩ := cond_none hK
          simp only [Bool.and_eq_true] at q
          obtain ⟨q1, q2⟩ := q
          have hz1 := oneD_one q1 (by simpa [ARel] using hz)
          simp only [ARel] at hy hz
          obtain ⟨f1, f2, f3⟩ := key_facts hT hE q2 hy
          obtain ⟨c, E, hc, rfl, h2, h3⟩ := map_at hi ha hb
          simp only [Option.bind_eq_some_iff] at hK
          obtain ⟨es', he', hK⟩ := hK
          simp only [putM, Option.bind_eq_some_iff] at he'
          obtain ⟨o, ho, he'⟩ := he'
          have hfind := f2 es E.toList o ho h3
          have hkey := f1 false
          have hobj := MapKept.run_getObj_map h2 (P := P)
          cases o with
          | none =>
            simp only [Option.some.injEq] at he'; subst he'
            simp only [Option.bind_none] at hfind
            obtain ⟨k1, k2⟩ := map_push hi hb hc h2 h3 hy hz hz1
            refine ⟨_, hK, _, ?_, k1, k2⟩
            simp [Instr.mapUpdate, run_underlying hu, hobj, hkey, hfind, MapKept.run_setObj_map _ h2, Result.andThen]
          | some i =>
            simp only [Option.map_eq_some_iff] at he'
            obtain ⟨e, he, rfl⟩ := he'
            obtain ⟨e', e1, e2⟩ := findM_at es i ho
            rw [he] at e1; cases e1
            obtain ⟨m, m1, m2, m3, m4, m5⟩ := h3.get i e he
            obtain ⟨g1, g2, g3⟩ := f3 e.1 m.key e2 m3
            simp only [Option.bind_some, m1, Option.map_some] at hfind
            have hm1 : E[i]? = some m := by rw [← Array.getElem?_toList]; exact m1
            obtain ⟨k1, k2⟩ := map_put hi (e := e) hb hc h2 h3 (d := dv) (fun e => { e with key := y, val := z }) (fun m' hm' => ⟨rfl, by rw [g1]; exact hy, hz, hz1⟩)
            refine ⟨_, hK, _, ?_, k1, k2⟩
            simp [Instr.mapUpdate, run_underlying hu, hobj, hkey, hfind, hm1, g2, g3, MapKept.run_setObj_map _ h2, Result.andThen]
        · cases hK
      · cases hK
    · cases hK

theorem mapEntryE_sound (hT : TOK P T) (hE : EqOK P T) (hi : HInv w σ h) {t : Nat} {a i : AV} {x y : Value} {K : AV → List Blk → Option R} (ha : ARel w σ h a x) (hy : ARel w σ h i y) (hK : mapEntryE T t a i h K = some r) :
    ∃ v h', K v h' = some r ∧ ∃ u w', (Instr.mapEntry t x y).run P w = .ok u w' ∧ HInv w' σ h' ∧ Step w σ h w' σ h' ∧ ARel w' σ h' v u := by
  unfold mapEntryE at hK
  split at hK
  · cases hK
  · rename_i ti ht
    split at hK
    · rename_i kt et hg
      have hu := hT.map ht hg
      split at hK
      · cases hK
      · rename_i te hte
        split at hK
        · rename_i z b k hz
          split at hK
          · rename_i es hb
            obtain ⟨q, hK9⟩ := cond_none hK
            clear hK
            have hK := hK9
            clear hK9
            simp only [Bool.and_eq_true] at q
            obtain ⟨q1, q0, q2, q3⟩ := q
            have q3 := Nat.eq_of_beq_eq_true q3
            simp only [ARel] at hy
            obtain ⟨f1, f2, f3⟩ := key_facts hT hE q2 hy
            obtain ⟨c, E, hc, rfl, h2, h3⟩ := map_at hi ha hb
            simp only [Option.bind_eq_some_iff] at hK
            obtain ⟨o, ho, hK⟩ := hK
            have hfind := f2 es E.toList o ho h3
            have hkey := f1 false
            have hobj := MapKept.run_getObj_map h2 (P := P)
            obtain ⟨iz, zv, e1, e2, e3, e4⟩ := hT.zero hte q3 (.inr (by rw [hz]; simp))
            have hzero : (zeroValue et).run P w = .ok zv w := by simp [zeroValue, typeInfo, e1, e2]
            cases o with
            | none =>
              simp only [Option.bind_none] at hfind
              obtain ⟨v1, v2⟩ := litD_vals (w := w) (G := σ.G) e4
              rw [hz, hT.zeroOne hte q1 e1 e2] at v1
              have hzd : DRel w σ.G z zv := by
                obtain ⟨zv', rr, w1, w2, w3⟩ := v1
                cases w1; exact w2
              have hz1 := oneD_one q0 hzd
              obtain ⟨k1, k2⟩ := map_push hi hb hc h2 h3 hy hzd hz1
              refine ⟨_, _, hK, .tuple #[zv, goInt es.length], _, ?_, k1, k2, ?_⟩
              · simp [Instr.mapEntry, run_underlying hu, hobj, hkey, hfind, hzero, MapKept.run_setObj_map _ h2, Result.andThen]
              · simp only [ARel, DRel]
                have hm0 : Mine σ h c.1 := ⟨b, c, ⟨_, hb, rfl⟩, hc, rfl⟩
                refine ⟨_, rfl, ⟨zv, [goInt es.length], rfl, ?_, ⟨goInt es.length, [], rfl, by simp [DRel, goInt], rfl⟩⟩⟩
                refine DRel.mono (fun k hk => ⟨hk, ?_⟩) _ _ hzd
                have : k ≠ c.1 := by rintro rfl; exact hi.sep _ hm0 hk
                simp [Array.getElem?_setIfInBounds_ne (Ne.symm this)]
            | some i =>
              simp only [Option.bind_eq_some_iff] at hK
              obtain ⟨e, he, hK⟩ := hK
              have hK := reveal_sound hK
              obtain ⟨e', e1', e2'⟩ := findM_at es i ho
              rw [he] at e1'; cases e1'
              obtain ⟨m, m1, m2, m3, m4, m5⟩ := h3.get i e he
              obtain ⟨g1, g2, g3⟩ := f3 e.1 m.key e2' m3
              simp only [Option.bind_some, m1, Option.map_some] at hfind
              have hm1 : E[i]? = some m := by rw [← Array.getElem?_toList]; exact m1
              obtain ⟨k1, k2⟩ := map_put hi (e := e) hb hc h2 h3 (d := e.2) (fun e => { e with key := y }) (fun m' hm' => ⟨rfl, by rw [g1]; exact hy, by rw [m1] at hm'; cases hm'; exact m4, by rw [m1] at hm'; cases hm'; exact m5⟩)
              rw [show setNth es i (e.1, e.2) = es from setNth_id he, setNth_id hb] at k1 k2
              refine ⟨_, _, hK, .tuple #[m.val, goInt m.born], _, ?_, k1, k2, ?_⟩
              · simp [Instr.mapEntry, run_underlying hu, hobj, hkey, hfind, hm1, g2, g3, MapKept.run_setObj_map _ h2, Result.andThen]
              · simp only [ARel, DRel]
                have hm0 : Mine σ h c.1 := ⟨b, c, ⟨_, hb, rfl⟩, hc, rfl⟩
                refine ⟨_, rfl, ⟨m.val, [goInt m.born], rfl, ?_, ⟨goInt m.born, [], rfl, by rw [m2]; simp [DRel, goInt], rfl⟩⟩⟩
                refine DRel.mono (fun k hk => ⟨hk, ?_⟩) _ _ m4
                have : k ≠ c.1 := by rintro rfl; exact hi.sep _ hm0 hk
                simp [Array.getElem?_setIfInBounds_ne (Ne.symm this)]
          · cases hK
        · cases hK
    · cases hK

theorem entryStoreE_sound (hi : HInv w σ h) {t : Nat} {a s d : AV} {x y z : Value} {K : AV → List Blk → Option R} (ha : ARel w σ h a x) (hy : ARel w σ h s y) (hz : ARel w σ h d z) (hK : entryStoreE a s d h K = some r) :
    ∃ h', K (.d (.tup [])) h' = some r ∧ ∃ w', (Instr.entryStore t x y z).run P w = .ok () w' ∧ HInv w' σ h' ∧ Step w σ h w' σ h' := by
  unfold entryStoreE at hK
  split at hK
  · rename_i b n dv
    split at hK
    · rename_i es hb
      obtain ⟨q, hK⟩ := cond_none hK
      simp only [Bool.and_eq_true, decide_eq_true_eq] at q
      obtain ⟨q1, q2⟩ := q
      have hz1 := oneD_one q1 (by simpa [ARel] using hz)
      have := hy.int; subst this
      simp only [ARel] at hz
      simp only [Option.bind_eq_some_iff] at hK
      obtain ⟨e, he, hK⟩ := hK
      obtain ⟨c, E, hc, rfl, h2, h3⟩ := map_at hi ha hb
      have hobj := MapKept.run_getObj_map h2 (P := P)
      obtain ⟨m, m1, m2, m3, m4, m5⟩ := h3.get n.toNat e he
      have hm1 : E[n.toNat]? = some m := by rw [← Array.getElem?_toList]; exact m1
      have hfi : E.findIdx? (fun e => (e.born : Int) == n) = some n.toNat := by
        have hlt : n.toNat < E.size := by
          rcases Nat.lt_or_ge n.toNat E.size with q | q
          · exact q
          · rw [Array.getElem?_eq_none q] at hm1; cases hm1
        rw [Array.findIdx?_eq_some_iff_getElem]
        refine ⟨hlt, ?_, ?_⟩
        · rw [Array.getElem?_eq_getElem hlt] at hm1
          rw [Option.some.inj hm1]
          simp only [beq_iff_eq]
          omega
        · intro j hj
          have hjl : j < es.length := by have := nth_some_lt he; omega
          obtain ⟨ej, hej⟩ : ∃ ej, nth es j = some ej := by rw [nth_eq]; exact ⟨es[j], List.getElem?_eq_getElem hjl⟩
          obtain ⟨mj, j1, j2, _⟩ := h3.get j ej hej
          have hj1 : E[j]? = some mj := by rw [← Array.getElem?_toList]; exact j1
          rw [Array.getElem?_eq_getElem (by omega)] at hj1
          rw [Option.some.inj hj1]
          simp only [beq_iff_eq]
          omega
      obtain ⟨k1, k2⟩ := map_put hi (e := e) hb hc h2 h3 (d := dv) (fun e => { e with val := z }) (fun m' hm' => ⟨rfl, by rw [m1] at hm'; cases hm'; exact m3, hz, hz1⟩)
      refine ⟨_, hK, _, ?_, k1, k2⟩
      simp [Instr.entryStore, hobj, asInt, asIntOf, hfi, MapKept.run_setObj_map _ h2, Result.andThen]
    · cases hK
  · cases hK

theorem clearE_sound (hT : TOK P T) (hi : HInv w σ h) {t ty : Nat} {a : AV} {x : Value} {K : AV → List Blk → Option R} (ha : ARel w σ h a x) (hK : clearE T t a h K = some r) :
    ∃ h', K (.d (.tup [])) h' = some r ∧ ∃ w', (Builtin.clear_ #[t] ty #[x]).run P w = .ok (.tuple #[]) w' ∧ HInv w' σ h' ∧ Step w σ h w' σ h' := by
  unfold clearE at hK
  split at hK
  · cases hK
  · rename_i ti ht
    split at hK
    · rename_i e hg
      have hu := hT.slice ht hg
      split at hK
      · cases hK
      · rename_i te hte
        split at hK
        · rename_i cs n sz cl nl
          obtain ⟨hn, hK⟩ := cond_none hK
          have hn := Nat.eq_of_beq_eq_true hn
          subst hn
          refine ⟨h, hK, w, ?_, hi, Step.refl _ _ _⟩
          simp only [ARel, DRel] at ha
          cases nl with
          | true => simp only [cond] at ha; obtain ⟨_, _, rfl⟩ := ha; simp [Builtin.clear_, run_underlying hu, Result.andThen]
          | false => simp only [cond] at ha; obtain ⟨_, b, off, cap, sp, rfl, _⟩ := ha; simp [Builtin.clear_, run_underlying hu, Result.andThen]
        · rename_i b off n cap sz ex
          simp only [ARel] at ha
          rcases cond_some hK with ⟨hn, hK⟩ | ⟨hn, hK⟩
          · have hn := Nat.eq_of_beq_eq_true hn
            subst hn
            obtain ⟨hal, hK⟩ := cond_none hK
            refine ⟨h, hK, w, ?_, hi, Step.refl _ _ _⟩
            have : ∃ p c', x = .slice (some p) 0 c' := by
              rcases ha.2 with e | ⟨c, cap', hc, rfl, _⟩
              · exact absurd e (alive_not hal)
              · exact ⟨_, _, rfl⟩
            obtain ⟨p, c', rfl⟩ := this
            simp [Builtin.clear_, run_underlying hu, Result.andThen]
          · obtain ⟨hq, hK⟩ := cond_none hK
            simp only [Bool.and_eq_true] at hq
            have q1 := Nat.eq_of_beq_eq_true hq.1
            have q2 := Nat.eq_of_beq_eq_true hq.2.1
            have q3 := Nat.le_of_ble_eq_true hq.2.2
            split at hK
            · rename_i blk hb
              rcases ha.2 with e | ⟨c, cap', hc, rfl, hle, hex, hroom⟩
              · unfold isDead at e; rw [e] at hb; cases hb; simp [putCells] at hK
              have hne : te.zero ≠ [] := by rintro e0; rw [e0] at q2; simp at q2; omega
              obtain ⟨ie, z, hie, hz0, hzs, hlit⟩ := hT.zero hte q2 (.inr hne)
              obtain ⟨k1, k2⟩ := zeros_vals (w := w) (G := σ.G) hlit (by omega) n
              have hv : ARel w σ h (.d (.agg (List.replicate n te.zero).flatten)) (.agg (Builtin.zeroCells z.cells n)) := by
                simp only [ARel, DRel]
                exact ⟨_, rfl, k1, k2⟩
              obtain ⟨blk', g1, g2, g3, g4, g5, g6, g7⟩ := putCells_sound hi hb hc hv hK
              refine ⟨_, g1, _, ?_, g6, g7⟩
              have hl := (AVals.get g2).1
              have hth : ∀ j, j < (Builtin.zeroCells z.cells n).toList.length → (w.cell? ⟨c.1, off + j, none⟩).isSome = true ∧ w.frozen? ⟨c.1, off + j, none⟩ = false := by
                intro j hj
                have hj' : j < (cellsA (.d (.agg (List.replicate n te.zero).flatten))).length := by rw [hl]; exact hj
                exact g4 (by omega) j hj'
              have hrun := run_storeCells_cells (P := P) c.1 off (Builtin.zeroCells z.cells n).toList 0 w (fun j hj => by simpa using (hth j hj).1) (fun j hj => by simpa using (hth j hj).2) k2
              have hzero : (zeroValue e).run P w = .ok z w := by simp [zeroValue, typeInfo, hie, hz0]
              have hn0 : n ≠ 0 := by rintro rfl; simp at hn
              simp only [Nat.add_zero] at hrun
              obtain ⟨m, rfl⟩ : ∃ m, n = m + 1 := ⟨n - 1, by omega⟩
              simp [Builtin.clear_, run_underlying hu, hzero]
              have hrun' : (storeCells ⟨c.1, off, none⟩ (Builtin.zeroCells z.cells (m + 1)).toList).run P w = .ok () (w.setCells c.1 off (Builtin.zeroCells z.cells (m + 1)).toList) := hrun
              simp only [Value.cells] at hrun' ⊢
              rw [hrun']
              rfl
            · cases hK
        · cases hK
    · cases hK
end
end Go.AE

/- One operation, calls of functions aside. -/
namespace Go.AE
open Go

section
variable {P : Program} {T : Tab TI} {w w' : World} {σ σ' : Sg} {h h' : List Blk} {G : Nat → Prop} {R : Type} {r : R}

theorem dvConst_rel : ∀ {v : Value} {d : DV}, dvConst v = some d → DRel w G d v ∧ (∀ cs, v ≠ .agg cs) ∧ v.oneCell' = true := by
  intro v d hd
  unfold dvConst at hd
  split at hd <;> first | (cases hd; done) | (cases hd; simp [DRel, Value.oneCell'])

theorem dvConsts_rel : ∀ {l : List Value} {ds : List DV}, dvConsts l = some ds → DVals w G ds l ∧ ∀ x ∈ l, x.oneCell' = true
  | [], ds, hd => by simp [dvConsts] at hd; subst hd; simp [DVals]
  | v :: l, ds, hd => by
    simp only [dvConsts, Option.bind_eq_some_iff, Option.map_eq_some_iff] at hd
    obtain ⟨d, h1, ds', h2, rfl⟩ := hd
    obtain ⟨k1, _, k2⟩ := dvConst_rel (w := w) (G := G) h1
    obtain ⟨k3, k4⟩ := dvConsts_rel h2
    refine ⟨⟨v, l, rfl, k1, k3⟩, fun x hx => ?_⟩
    rcases List.mem_cons.1 hx with rfl | hx
    · exact k2
    · exact k4 x hx

theorem ofConst_rel (v : Value) : ARel w σ h (ofConst v) v := by
  unfold ofConst
  split
  · split
    · rename_i ds hd
      obtain ⟨k1, k2⟩ := dvConsts_rel (w := w) (G := σ.G) hd
      simp only [ARel, DRel]
      exact ⟨_, rfl, k1, k2⟩
    · simp [ARel]
  · split
    · rename_i d hd
      simpa [ARel] using (dvConst_rel (w := w) (G := σ.G) hd).1
    · simp [ARel]

/-- The operands of a region. -/
def OpsRel (w : World) (σ : Sg) (h : List Blk) (env : List (Nat × AV)) (ρ : Operand → Value) : Prop := ∀ x, ARel w σ h (ev env x) (ρ x)

theorem ev_rel (hg : GlobOK w σ.G) {env : List (Nat × AV)} {a : Act} (q : EnvRel w σ h env a.tmps) : OpsRel w σ h env a.eval := by
  intro x
  cases x with
  | tmp t => exact q t
  | const v => exact ofConst_rel v
  | global g =>
    simp only [ev, Act.eval]
    split
    · rename_i cs e
      simp only [ARel, DRel]
      exact ⟨g, 0, rfl, hg g cs e⟩
    · simp [ARel]
  | func f => simp [ev, ARel, DRel, DVals, Act.eval]

theorem OpsRel.opt {env : List (Nat × AV)} {ρ : Operand → Value} (q : OpsRel w σ h env ρ) (x : Option Operand) : OptRel w σ h (x.map (ev env)) (x.map ρ) := by
  cases x with
  | none => simp [OptRel]
  | some x => simpa [OptRel] using q x

theorem OpsRel.list {env : List (Nat × AV)} {ρ : Operand → Value} (q : OpsRel w σ h env ρ) : ∀ (l : List Operand), AVals w σ h (l.map (ev env)) (l.map ρ)
  | [] => by simp [AVals]
  | x :: l => ⟨_, _, rfl, q x, q.list l⟩

theorem OpsRel.step (hi : HInv w σ h) (p : Step w σ h w' σ' h') {env : List (Nat × AV)} {ρ : Operand → Value} (q : OpsRel w σ h env ρ) : OpsRel w' σ' h' env ρ := fun x => p.arel hi (q x)

/-- What a slot takes. -/
def taken : Next → Option Value
  | .value u => some u
  | .skip => some undef
  | _ => none

/-- An operation has come to its value. -/
def Out (P : Program) (w : World) (σ : Sg) (h : List Blk) (s : Sem Next) (v : AV) (h' : List Blk) : Prop :=
  ∃ nx u w' σ', s.run P w = .ok nx w' ∧ taken nx = some u ∧ HInv w' σ' h' ∧ Step w σ h w' σ' h' ∧ ARel w' σ' h' v u

theorem Out.value (hi : HInv w σ h) {s : Sem Value} {v : AV} {u : Value} (e : s.run P w = .ok u w) (q : ARel w σ h v u) : Out P w σ h (do pure (.value (← s))) v h :=
  ⟨.value u, u, w, σ, by rw [Sem.run_bind, e]; rfl, rfl, hi, Step.refl _ _ _, q⟩

theorem Out.made {s : Sem Value} {v : AV} {u : Value} (e : s.run P w = .ok u w') (k1 : HInv w' σ' h') (k2 : Step w σ h w' σ' h') (q : ARel w' σ' h' v u) : Out P w σ h (do pure (.value (← s))) v h' :=
  ⟨.value u, u, w', σ', by rw [Sem.run_bind, e]; rfl, rfl, k1, k2, q⟩

theorem nil_tup : ARel w σ h (.d (.tup [])) undef := by
  simp only [ARel, DRel]
  exact ⟨#[], rfl, by simp [DVals]⟩

theorem mkFn_rel {f : FuncId} {a b : List AV} {x y : List Value} (ha : AVals w σ h a x) (hb : AVals w σ h b y) : ARel w σ h (mkFn f a b) (.func (.func f) x.toArray y.toArray) := by
  unfold mkFn
  split
  · rename_i p q h1 h2
    simp only [ARel, DRel]
    exact ⟨_, _, rfl, AVals.of_D h1 ha, AVals.of_D h2 hb⟩
  · simp only [ARel]
    exact ⟨_, _, rfl, ha, hb⟩

theorem AVals.one {x : AV} {l : List Value} (q : AVals w σ h [x] l) : ∃ y, l = [y] ∧ ARel w σ h x y := by
  obtain ⟨y, r, rfl, h1, h2⟩ := q
  simp only [AVals] at h2; subst h2
  exact ⟨y, rfl, h1⟩

theorem AVals.two {x x' : AV} {l : List Value} (q : AVals w σ h [x, x'] l) : ∃ y z, l = [y, z] ∧ ARel w σ h x y ∧ ARel w σ h x' z := by
  obtain ⟨y, r, rfl, h1, h2⟩ := q
  obtain ⟨z, rfl, h3⟩ := AVals.one h2
  exact ⟨y, z, rfl, h1, h3⟩

theorem allD_map : ∀ (ds : List DV), allD (ds.map .d) = some ds
  | [] => rfl
  | d :: ds => by simp [allD, allD_map ds]

theorem boxE_some {v : AV} {K : AV → List Blk → Option R} (hK : boxE v h K = some r) : ∃ l, cellsC v = some l ∧ K (.ref h.length 0) (h ++ [blkOf l]) = some r := by
  unfold boxE at hK
  split at hK
  · rename_i ds
    exact ⟨_, rfl, by unfold blkOf; rw [allD_map]; exact hK⟩
  · split at hK
    · rename_i l hl; exact ⟨l, hl, hK⟩
    · cases hK

/-- Whether an operation calls a function. -/
def callsF : Op → Bool
  | .call c => match c.callee with
    | .value _ => true
    | _ => false
  | _ => false

theorem opE_sound {C : Ctx} (hT : TOK P C.T) (hE : EqOK P C.T) {E : Ev} (hi : HInv w σ h) {o : Oper} {env : List (Nat × AV)} {ρ : Operand → Value} {K : AV → List Blk → Option R} (q : OpsRel w σ h env ρ)
    (hc : callsF o.op = false) (hK : opE C E o.op env h K = some r) : ∃ v h', K v h' = some r ∧ Out P w σ h (execOp ρ o) v h' := by
  unfold execOp
  cases ho : o.op <;> rw [ho] at hK hc <;> simp only [opE] at hK <;> try cases hK
  case move x =>
    rw [forceE_eq] at hK
    exact ⟨_, _, hK, .value (ρ x), ρ x, w, σ, rfl, rfl, hi, Step.refl _ _ _, q x⟩
  case assign x =>
    rw [forceE_eq] at hK
    exact ⟨_, _, hK, .value (ρ x), ρ x, w, σ, rfl, rfl, hi, Step.refl _ _ _, q x⟩
  case pick c a b =>
    obtain ⟨v, h1, u, h2, h3⟩ := pickE_sound (P := P) (q c) (q a) (q b) hK
    refine ⟨v, h, h1, .value u, u, w, σ, ?_, rfl, hi, Step.refl _ _ _, h3⟩
    rw [Sem.run_bind] at h2 ⊢
    cases e : (asBool (ρ c)).run P w with
    | ok b w' => rw [e] at h2; simp only [Result.andThen_ok, Sem.run_pure, Result.ok.injEq] at h2 ⊢; obtain ⟨rfl, rfl⟩ := h2; exact ⟨rfl, rfl⟩
    | halt b w' => rw [e] at h2; cases h2
  case alloc t =>
    split at hK
    · rename_i ti hti
      obtain ⟨hq, hK⟩ := cond_none hK
      simp only [Bool.and_eq_true] at hq
      have h1 := Nat.eq_of_beq_eq_true hq.1
      have h2 := Nat.le_of_ble_eq_true hq.2
      have hne : ti.zero ≠ [] := by rintro e0; rw [e0] at h1; simp at h1; omega
      obtain ⟨x, w', σ', k1, k2, k3, k4⟩ := alloc_sound hT hi hti h1 (.inr hne)
      exact ⟨_, _, hK, Out.made k1 k2 k3 k4⟩
    · cases hK
  case box t x =>
    obtain ⟨l, hl, hK⟩ := boxE_some hK
    obtain ⟨x, w', σ', k1, k2, k3, k4⟩ := box_sound (P := P) (t := t) hi (q _) hl
    exact ⟨_, _, hK, Out.made k1 k2 k3 k4⟩
  case build t ps =>
    obtain ⟨v, h1, u, h2, h3⟩ := buildE_sound (w := w) (σ := σ) (h := h) hT (Parts.of_map q ps) hK
    exact ⟨v, h, h1, Out.value hi h2 h3⟩
  case buildSlice t n ps =>
    obtain ⟨v, h', h1, u, w', σ', h2, h3, h4, h5⟩ := buildSliceE_sound hT hi (Parts.of_map q ps) hK
    exact ⟨v, h', h1, Out.made h2 h3 h4 h5⟩
  case load t a =>
    obtain ⟨v, h1, u, h2, h3⟩ := loadE_sound hT hi (q a) hK
    exact ⟨v, h, h1, Out.value hi h2 h3⟩
  case store t a x =>
    obtain ⟨h', h1, w', h2, h3, h4⟩ := storeE_sound hT hi (q a) (q x) hK
    exact ⟨_, h', h1, .skip, undef, w', σ, by show ((Instr.storeAt t (ρ a) (ρ x)) >>= fun _ => pure Next.skip : Sem Next).run P w = _; rw [Sem.run_bind, h2]; rfl, rfl, h3, h4, nil_tup⟩
  case nilCheck x =>
    have hx := q x
    split at hK
    · rename_i b off e
      rw [e] at hx
      obtain ⟨hal, hK⟩ := cond_none hK
      refine ⟨_, _, hK, ?_⟩
      have hx' := hx
      simp only [ARel] at hx'
      rcases hx'.2 with k | ⟨c, hc, k⟩
      · exact absurd k (alive_not hal)
      · simp only [k]
        exact ⟨_, _, w, σ, rfl, rfl, hi, Step.refl _ _ _, by rw [k] at hx; exact hx⟩
    · rename_i cs off e
      rw [e] at hx
      refine ⟨_, _, hK, ?_⟩
      have hx' := hx
      simp only [ARel, DRel] at hx'
      obtain ⟨b, o, k, _⟩ := hx'
      simp only [k]
      exact ⟨_, _, w, σ, rfl, rfl, hi, Step.refl _ _ _, by rw [k] at hx; exact hx⟩
    · rename_i f a b e
      rw [e] at hx
      refine ⟨_, _, hK, ?_⟩
      have hx' := hx
      simp only [ARel, DRel] at hx'
      obtain ⟨y, z, k, _⟩ := hx'
      simp only [k]
      exact ⟨_, _, w, σ, rfl, rfl, hi, Step.refl _ _ _, by rw [k] at hx; exact hx⟩
    · rename_i f a b e
      rw [e] at hx
      refine ⟨_, _, hK, ?_⟩
      have hx' := hx
      simp only [ARel] at hx'
      obtain ⟨y, z, k, _⟩ := hx'
      simp only [k]
      exact ⟨_, _, w, σ, rfl, rfl, hi, Step.refl _ _ _, by rw [k] at hx; exact hx⟩
    · cases hK
  case binOp op t x y m =>
    obtain ⟨v, h1, u, h2, h3⟩ := binE_sound (ox := x) (oy := y) hT hE (q x) (q y) hK
    exact ⟨v, h, h1, Out.value hi h2 h3⟩
  case unOp op t x =>
    obtain ⟨v, h1, u, h2, h3⟩ := unE_sound (P := P) (q x) hK
    exact ⟨v, h, h1, Out.value hi h2 h3⟩
  case convert src dst x =>
    obtain ⟨hs, hK⟩ := cond_none hK
    obtain ⟨v, h1, u, h2, h3⟩ := convE_sound hT hs (q x) hK
    exact ⟨v, h, h1, Out.value hi h2 h3⟩
  case makeFunc f first captured =>
    split at hK
    · rename_i g
      refine ⟨_, _, hK, Out.value (u := .func (.func g) (first.map ρ) (captured.map ρ)) hi rfl ?_⟩
      have := mkFn_rel (f := g) (q.list first.toList) (q.list captured.toList)
      have e1 : ∀ l : Array Operand, (l.toList.map ρ).toArray = l.map ρ := fun l => by rw [← Array.toList_map, Array.toArray_toList]
      rw [e1, e1] at this
      exact this
    · cases hK
  case makeSlice t l c =>
    obtain ⟨v, h', h1, u, w', σ', h2, h3, h4, h5⟩ := makeSliceE_sound hT hi (q l) (q c) hK
    exact ⟨v, h', h1, Out.made h2 h3 h4 h5⟩
  case slice t x lo hi' mx =>
    obtain ⟨v, h1, u, h2, h3⟩ := sliceE_sound hT hi (q x) (q.opt lo) (q.opt hi') (q.opt mx) hK
    exact ⟨v, h, h1, Out.value hi h2 h3⟩
  case fieldAddr t x f =>
    obtain ⟨v, h1, u, h2, h3⟩ := fieldAddrE_sound hT (q x) hK
    exact ⟨v, h, h1, Out.value hi h2 h3⟩
  case field t x f =>
    obtain ⟨v, h1, u, h2, h3⟩ := fieldE_sound hT (q x) hK
    exact ⟨v, h, h1, Out.value hi h2 h3⟩
  case indexAddr t x i =>
    obtain ⟨v, h1, u, h2, h3⟩ := indexAddrE_sound hT (q x) (q i) hK
    exact ⟨v, h, h1, Out.value hi h2 h3⟩
  case index t x i =>
    obtain ⟨v, h1, u, h2, h3⟩ := indexE_sound hT (q x) (q i) hK
    exact ⟨v, h, h1, Out.value hi h2 h3⟩
  case extract x i =>
    obtain ⟨v, h1, u, h2, h3⟩ := extractE_sound (P := P) (q x) hK
    exact ⟨v, h, h1, Out.value hi h2 h3⟩
  case range t x =>
    obtain ⟨v, h', h1, u, w', σ', h2, h3, h4, h5⟩ := rangeS_sound hT hi (q x) hK
    exact ⟨v, h', h1, Out.made h2 h3 h4 h5⟩
  case next x str =>
    rcases cond_some hK with ⟨hs, hK⟩ | ⟨hs, hK⟩
    · subst hs
      obtain ⟨v, h', h1, u, w', σ', h2, h3, h4, h5⟩ := nextSE_sound (P := P) (ty := o.type) hi (q x) hK
      exact ⟨v, h', h1, Out.made h2 h3 h4 h5⟩
    · subst hs
      obtain ⟨v, h', h1, u, w', σ', h2, h3, h4, h5⟩ := nextME_sound (P := P) (ty := o.type) hi (q x) hK
      exact ⟨v, h', h1, Out.made h2 h3 h4 h5⟩
  case makeMap t res =>
    cases res with
    | none =>
      obtain ⟨u, w', σ', h2, h3, h4, h5⟩ := makeMap_sound (P := P) (t := t) hi
      exact ⟨_, _, hK, Out.made h2 h3 h4 h5⟩
    | some x =>
      dsimp only at hK
      split at hK
      · rename_i k n e
        have hx := q x
        rw [e] at hx
        have hx := hx.int
        split at hK
        · rename_i ti ht
          split at hK
          · rename_i kt et hg
            have hu := hT.map ht hg
            obtain ⟨u, w', σ', h2, h3, h4, h5⟩ := makeMap_sound (P := P) (t := t) hi
            refine ⟨_, _, hK, Out.made (u := u) (w' := w') ?_ h3 h4 h5⟩
            rw [← h2]
            simp only [Option.map_some, hx]
            simp [Instr.makeMap, run_underlying hu, asInt, asIntOf, Result.andThen]
          · cases hK
        · cases hK
      · cases hK
  case entry x =>
    obtain ⟨v, h1, u, h2, h3⟩ := entryE_sound (P := P) hi (q x) hK
    exact ⟨v, h, h1, Out.value hi h2 h3⟩
  case lookup t x i ok =>
    obtain ⟨v, h1, u, h2, h3⟩ := lookupE_sound hT hE hi (q x) (q i) hK
    exact ⟨v, h, h1, Out.value hi h2 h3⟩
  case mapUpdate t x i y =>
    obtain ⟨h', h1, w', h2, h3, h4⟩ := updateE_sound hT hE hi (q x) (q i) (q y) hK
    exact ⟨_, h', h1, .skip, undef, w', σ, by show ((Instr.mapUpdate t (ρ x) (ρ i) (ρ y)) >>= fun _ => pure Next.skip : Sem Next).run P w = _; rw [Sem.run_bind, h2]; rfl, rfl, h3, h4, nil_tup⟩
  case insert t x i y =>
    obtain ⟨h', h1, w', h2, h3, h4⟩ := updateE_sound hT hE hi (q x) (q i) (q y) hK
    exact ⟨_, h', h1, .skip, undef, w', σ, by show ((Instr.mapUpdate t (ρ x) (ρ i) (ρ y)) >>= fun _ => pure Next.skip : Sem Next).run P w = _; rw [Sem.run_bind, h2]; rfl, rfl, h3, h4, nil_tup⟩
  case mapEntry t x i =>
    obtain ⟨v, h', h1, u, w', h2, h3, h4, h5⟩ := mapEntryE_sound hT hE hi (q x) (q i) hK
    exact ⟨v, h', h1, Out.made h2 h3 h4 h5⟩
  case entryStore t x i y =>
    obtain ⟨h', h1, w', h2, h3, h4⟩ := entryStoreE_sound (P := P) (t := t) hi (q x) (q i) (q y) hK
    exact ⟨_, h', h1, .skip, undef, w', σ, by show ((Instr.entryStore t (ρ x) (ρ i) (ρ y)) >>= fun _ => pure Next.skip : Sem Next).run P w = _; rw [Sem.run_bind, h2]; rfl, rfl, h3, h4, nil_tup⟩
  case call c =>
    simp only [callsF] at hc
    cases hcal : c.callee with
    | value f => rw [hcal] at hc; cases hc
    | invoke f n => rw [hcal] at hK; cases hK
    | builtin b =>
      rw [hcal] at hK
      simp only at hK
      change ∃ v h', K v h' = some r ∧ Out P w σ h (do let d ← resolve ρ c o.type; invoke d.target d.args) v h'
      have hres : (do let d ← resolve ρ c o.type; invoke d.target d.args : Sem Next) = builtin b c.argTypes o.type (c.args.map fun | .const _ => true | _ => false) (c.args.map ρ) := by
        simp only [resolve, hcal]
        rfl
      rw [hres]
      have hargs : AVals w σ h (c.args.toList.map (ev env)) (c.args.map ρ).toList := by rw [Array.toList_map]; exact q.list _
      generalize hA : c.args.map ρ = A at hargs ⊢
      split at hK
      · rename_i x t e1 e2
        rw [e1] at hargs
        obtain ⟨y, hy, hq⟩ := AVals.one hargs
        obtain ⟨v, h1, u, h2, h3⟩ := lenE_sound (ty := o.type) hT hi hq hK
        have : A = #[y] := by rw [← Array.toArray_toList (xs := A), hy]
        subst this
        have : c.argTypes = #[t] := by rw [← Array.toArray_toList (xs := c.argTypes), e2]
        rw [this]
        exact ⟨v, h, h1, Out.value hi h2 h3⟩
      · rename_i s x st xt e1 e2
        rw [e1] at hargs
        obtain ⟨y, z, hy, hq1, hq2⟩ := AVals.two hargs
        obtain ⟨v, h', h1, u, w', σ', h2, h3, h4, h5⟩ := appendE_sound (ty := o.type) hT hi hq1 hq2 hK
        have : A = #[y, z] := by rw [← Array.toArray_toList (xs := A), hy]
        subst this
        have : c.argTypes = #[st, xt] := by rw [← Array.toArray_toList (xs := c.argTypes), e2]
        rw [this]
        exact ⟨v, h', h1, Out.made h2 h3 h4 h5⟩
      · rename_i x t e1 e2
        rw [e1] at hargs
        obtain ⟨y, hy, hq⟩ := AVals.one hargs
        obtain ⟨h', h1, w', h2, h3, h4⟩ := clearE_sound (ty := o.type) hT hi hq hK
        have : A = #[y] := by rw [← Array.toArray_toList (xs := A), hy]
        subst this
        have : c.argTypes = #[t] := by rw [← Array.toArray_toList (xs := c.argTypes), e2]
        rw [this]
        exact ⟨_, h', h1, Out.made h2 h3 h4 nil_tup⟩
      · rename_i x l ts e1
        rw [e1] at hargs
        obtain ⟨y, vs, hy, hq1, hq2⟩ := hargs
        obtain ⟨v, h1, u, h2, h3⟩ := minmax_sound (P := P) (mx := true) (t := 0) (ts := #[]) hq1 hq2 hK
        refine ⟨v, h, h1, Out.value (u := u) hi ?_ h3⟩
        show (Builtin.max_ c.argTypes o.type A).run P w = _
        unfold Builtin.max_
        rw [hy]
        exact h2
      · rename_i x l ts e1
        rw [e1] at hargs
        obtain ⟨y, vs, hy, hq1, hq2⟩ := hargs
        obtain ⟨v, h1, u, h2, h3⟩ := minmax_sound (P := P) (mx := false) (t := 0) (ts := #[]) hq1 hq2 hK
        refine ⟨v, h, h1, Out.value (u := u) hi ?_ h3⟩
        show (Builtin.min_ c.argTypes o.type A).run P w = _
        unfold Builtin.min_
        rw [hy]
        exact h2
      · cases hK
end
end Go.AE

/- The names of the blocks are given anew: values and blocks. -/
namespace Go.AE
open Go

section
variable {P : Program} {T : Tab TI} {w w' : World} {σ σ' : Sg} {h h' : List Blk} {G G' : Nat → Prop} {R : Type} {r : R}

/-- New names for some blocks. -/
structure RenT (f : Nat → Option Nat) (σ : Sg) (h : List Blk) (σ' : Sg) (h' : List Blk) : Prop where
  to : ∀ b c, f b = some c → ∃ blk, nth h b = some blk ∧ nth h' c = some (renB f blk) ∧ nth σ'.ι c = nth σ.ι b
  G : σ'.G = σ.G

theorem clen_ren {f : Nat → Option Nat} {blk : Blk} {m : Nat} (hm : clen blk = some m) : clen (renB f blk) = some m := by
  cases blk <;> simp_all [clen, renB]

mutual
theorem ren_rel {f : Nat → Option Nat} (hr : RenT f σ h σ' h') : ∀ (n : Nat) (a : AV) (v : Value), ARel w σ h a v → ARel w σ' h' (renA f n a) v
  | 0, a, v, q => by
    cases a <;> simp only [renA, ARel] at q ⊢
    rw [hr.G]; exact q
  | n + 1, .d x, v, q => by simp only [renA, ARel] at q ⊢; rw [hr.G]; exact q
  | n + 1, .undef, v, q => by simp [renA, ARel]
  | n + 1, .ref b off, v, q => by
    simp only [renA, ARel] at q ⊢
    split
    · rename_i c hc
      obtain ⟨blk, h1, h2, h3⟩ := hr.to b c hc
      simp only [ARel]
      refine ⟨q.1, ?_⟩
      rcases q.2 with q | ⟨cc, k1, k2⟩
      · unfold isDead at q ⊢; rw [q] at h1; cases h1; exact .inl h2
      · exact .inr ⟨cc, h3.trans k1, k2⟩
    · simp [ARel]
  | n + 1, .row b off len cap sz ex, v, q => by
    simp only [renA, ARel] at q ⊢
    split
    · rename_i c hc
      obtain ⟨blk, h1, h2, h3⟩ := hr.to b c hc
      simp only [ARel]
      refine ⟨q.1, ?_⟩
      rcases q.2 with q | ⟨cc, cap', k1, k2⟩
      · unfold isDead at q ⊢; rw [q] at h1; cases h1; exact .inl h2
      · exact .inr ⟨cc, cap', h3.trans k1, k2⟩
    · simp [ARel]
  | n + 1, .grow b sz nn, v, q => by
    simp only [renA, ARel] at q ⊢
    split
    · rename_i c hc
      obtain ⟨blk, h1, h2, h3⟩ := hr.to b c hc
      simp only [ARel]
      refine ⟨q.1, ?_⟩
      rcases q.2 with q | ⟨blk', m, k1, k2, k3⟩
      · unfold isDead at q ⊢; rw [q] at h1; cases h1; exact .inl h2
      · rw [h1] at k1; cases k1
        refine .inr ⟨_, m, h2, clen_ren k2, ?_⟩
        rcases k3 with k3 | ⟨k3, cc, p, cap', k4, k5⟩
        · exact .inl k3
        · exact .inr ⟨k3, cc, p, cap', h3.trans k4, k5⟩
    · simp [ARel]
  | n + 1, .yld l, v, q => by
    simp only [renA, ARel] at q ⊢
    split
    · rename_i c hc
      obtain ⟨blk, h1, h2, h3⟩ := hr.to l c hc
      simp only [ARel]
      refine ⟨q.1, ?_⟩
      rcases q.2 with q | ⟨cc, k1, k2⟩
      · unfold isDead at q ⊢; rw [q] at h1; cases h1; exact .inl h2
      · exact .inr ⟨cc, h3.trans k1, k2⟩
    · simp [ARel]
  | n + 1, .mp l, v, q => by
    simp only [renA, ARel] at q ⊢
    split
    · rename_i c hc
      obtain ⟨blk, h1, h2, h3⟩ := hr.to l c hc
      simp only [ARel]
      refine ⟨q.1, ?_⟩
      rcases q.2 with q | ⟨cc, k1, k2⟩
      · unfold isDead at q ⊢; rw [q] at h1; cases h1; exact .inl h2
      · exact .inr ⟨cc, h3.trans k1, k2⟩
    · simp [ARel]
  | n + 1, .agg l, v, q => by
    simp only [renA, ARel] at q ⊢
    obtain ⟨vs, e, k1, k2⟩ := q
    exact ⟨vs, e, ren_vals hr n l _ k1, k2⟩
  | n + 1, .tup l, v, q => by
    simp only [renA, ARel] at q ⊢
    obtain ⟨vs, e, k1⟩ := q
    exact ⟨vs, e, ren_vals hr n l _ k1⟩
  | n + 1, .fn g a b, v, q => by
    simp only [renA, ARel] at q ⊢
    obtain ⟨x, y, e, k1, k2⟩ := q
    exact ⟨x, y, e, ren_vals hr n a _ k1, ren_vals hr n b _ k2⟩
theorem ren_vals {f : Nat → Option Nat} (hr : RenT f σ h σ' h') : ∀ (n : Nat) (l : List AV) (vs : List Value), AVals w σ h l vs → AVals w σ' h' (l.map (renA f n)) vs
  | _, [], vs, q => by simpa [AVals] using q
  | n, a :: l, vs, q => by
    obtain ⟨v, r, rfl, k1, k2⟩ := q
    exact ⟨v, r, rfl, ren_rel hr n a v k1, ren_vals hr n l r k2⟩
end

theorem look_map {f : Nat → Option Nat} : ∀ (env : List (Nat × AV)) (t : Nat), look (env.map fun p => (p.1, renA f 4 p.2)) t = renA f 4 (look env t)
  | [], t => by simp [look, renA]
  | (s, v) :: env, t => by
    simp only [List.map_cons, look]
    rw [look_map env t]
    cases Nat.beq s t <;> rfl

theorem ren_env {f : Nat → Option Nat} (hr : RenT f σ h σ' h') {env : List (Nat × AV)} {tm : Array Value} (q : EnvRel w σ h env tm) : EnvRel w σ' h' (env.map fun p => (p.1, renA f 4 p.2)) tm := by
  intro t
  rw [look_map]
  exact ren_rel hr 4 _ _ (q t)

theorem solid_ren {f : Nat → Option Nat} {blk : Blk} (hs : solid (renB f blk) = true) : solid blk = true := by
  cases blk with
  | ac cs => cases cs <;> simp_all [renB, solid]
  | loop st pe fn nt env ps as bo df => rfl
  | mit m n begun => rfl
  | _ => simpa [renB] using hs

theorem ren_brel {f : Nat → Option Nat} (hr : RenT f σ h σ' h') {b c : Nat} {blk : Blk} (hn : nth σ'.ι c = nth σ.ι b) (q : BRel w σ h b blk) : BRel w σ' h' c (renB f blk) := by
  cases blk with
  | dc cs =>
    simp only [renB, BRel] at q ⊢
    rw [hn, hr.G]; exact q
  | ac cs =>
    simp only [renB, BRel] at q ⊢
    rcases q with q | ⟨cc, C, E, h1, h2, h3, h4⟩
    · left; rw [q]; rfl
    · refine .inr ⟨cc, C, E, hn.trans h1, h2, h3, fun i d hd => ?_⟩
      rw [nth_map] at hd
      cases e : nth cs i with
      | none => rw [e] at hd; cases hd
      | some d' =>
        rw [e] at hd; simp at hd; subst hd
        obtain ⟨x, k1, k2, k3⟩ := h4 i d' e
        exact ⟨x, k1, k2, ren_rel hr 4 _ _ k3⟩
  | dead => trivial
  | defr =>
    simp only [renB, BRel] at q ⊢
    rw [hn]; exact q
  | sit s pos =>
    simp only [renB, BRel] at q ⊢
    rw [hn]; exact q
  | mp es =>
    simp only [renB, BRel, hr.G] at q ⊢
    rw [hn]; exact q
  | mit m n begun =>
    simp only [renB]
    split
    · rename_i c' hc'
      obtain ⟨blk, k1, k2, k3⟩ := hr.to m c' hc'
      simp only [BRel] at q ⊢
      obtain ⟨cc, cm, h1, h2, h3⟩ := q
      exact ⟨cc, cm, hn.trans h1, k3.trans h2, h3⟩
    · trivial
  | loop st pe fn nt env ps as bo df =>
    simp only [renB]
    split
    · rename_i c' hc'
      obtain ⟨blk, k1, k2, k3⟩ := hr.to df c' hc'
      simp only [BRel] at q ⊢
      obtain ⟨cc, cd, tm, fn', h1, h2, h3, h4, h5⟩ := q
      exact ⟨cc, cd, tm, fn', hn.trans h1, k3.trans h2, h3, h4, ren_env hr h5⟩
    · trivial

theorem nth_append_ge' {α : Type} : ∀ (l r : List α) (i : Nat), nth (l ++ r) (l.length + i) = nth r i
  | [], r, i => by simp
  | x :: l, r, i => by
    simp only [List.cons_append, List.length_cons]
    rw [show l.length + 1 + i = (l.length + i) + 1 by omega]
    exact nth_append_ge' l r i

theorem nth_replicate {α : Type} (x : α) : ∀ (n i : Nat), i < n → nth (List.replicate n x) i = some x
  | 0, _, h => by omega
  | n + 1, 0, _ => rfl
  | n + 1, i + 1, h => by rw [List.replicate_succ]; exact nth_replicate x n i (by omega)

theorem above_some {m n b c : Nat} (h : above m n b = some c) : m ≤ b ∧ b < n ∧ c = b := by
  unfold above at h
  cases e : Nat.blt b m with
  | true => rw [e] at h; cases h
  | false =>
    rw [e] at h
    simp only [cond_false] at h
    cases e2 : Nat.blt b n with
    | false => rw [e2] at h; cases h
    | true =>
      rw [e2] at h
      simp only [cond_true, Option.some.injEq] at h
      rw [Nat.blt_eq] at e2
      refine ⟨?_, e2, h.symm⟩
      rcases Nat.lt_or_ge b m with k | k
      · rw [← Nat.blt_eq, e] at k; cases k
      · exact k

/-- What a call has done that knew none of our blocks: ours are as they were, and its own come behind. -/
theorem HInv.beside {w w' : World} {σ σ1 : Sg} {h h1 : List Blk} (hi : HInv w σ h) (h2 : HInv w' σ1 h1) (p : Step w σ (List.replicate h.length .dead) w' σ1 h1) :
    ∃ σ2, HInv w' σ2 (h ++ (h1.drop h.length).map (renB (above h.length h1.length))) ∧ Step w σ h w' σ2 (h ++ (h1.drop h.length).map (renB (above h.length h1.length))) ∧
      ∀ v u, ARel w' σ1 h1 v u → ARel w' σ2 (h ++ (h1.drop h.length).map (renB (above h.length h1.length))) (renA (above h.length h1.length) 4 v) u := by
  have hno : ∀ k, ¬ Mine σ (List.replicate h.length .dead) k := by
    rintro k ⟨b, c, ⟨x, hx, hs⟩, _⟩
    have : b < h.length := by have := nth_some_lt hx; simpa using this
    rw [nth_replicate _ _ _ this] at hx
    cases hx; simp [solid] at hs
  have hle : h.length ≤ h1.length := by
    rcases Nat.eq_zero_or_pos h.length with e | e
    · omega
    · obtain ⟨y, hy, _⟩ := p.keeps (h.length - 1) _ (nth_replicate _ _ _ (by omega))
      have := nth_some_lt hy; omega
  let σ2 : Sg := ⟨σ1.G, σ.ι ++ σ1.ι.drop h.length⟩
  have hlen2 : σ2.ι.length = (h ++ (h1.drop h.length).map (renB (above h.length h1.length))).length := by
    show (σ.ι ++ σ1.ι.drop h.length).length = _
    simp [hi.len, h2.len]
  have low : ∀ b, b < h.length → nth (h ++ (h1.drop h.length).map (renB (above h.length h1.length))) b = nth h b ∧ nth σ2.ι b = nth σ.ι b := fun b hb =>
    ⟨nth_append_lt hb, nth_append_lt (by rw [hi.len]; exact hb)⟩
  have high : ∀ i, nth (h ++ (h1.drop h.length).map (renB (above h.length h1.length))) (h.length + i) = (nth h1 (h.length + i)).map (renB (above h.length h1.length)) ∧ nth σ2.ι (h.length + i) = nth σ1.ι (h.length + i) := by
    intro i
    constructor
    · rw [nth_append_ge', nth_map, nth_drop]
    · show nth (σ.ι ++ σ1.ι.drop h.length) (h.length + i) = _
      have := nth_append_ge' σ.ι (σ1.ι.drop h.length) i
      rw [hi.len] at this
      rw [this, nth_drop]
  have hren : RenT (above h.length h1.length) σ1 h1 σ2 (h ++ (h1.drop h.length).map (renB (above h.length h1.length))) := by
    refine ⟨?_, rfl⟩
    intro b c hb
    obtain ⟨hge, hlt, rfl⟩ := above_some hb
    obtain ⟨i, rfl⟩ := Nat.exists_eq_add_of_le hge
    obtain ⟨x, hx⟩ := nth_of_lt hlt
    exact ⟨x, hx, by rw [(high i).1, hx]; rfl, (high i).2⟩
  have hsplit : ∀ b, b < h.length ∨ ∃ i, b = h.length + i := fun b => by
    rcases Nat.lt_or_ge b h.length with k | k
    · exact .inl k
    · exact .inr (Nat.exists_eq_add_of_le k)
  have hG : ∀ b, σ.G b → σ2.G b ∧ w'.heap[b]? = w.heap[b]? := fun b hb => ⟨p.data b hb, p.other b (hi.bound b hb) (hno b)⟩
  have hkeep : Keeps σ.ι h σ2.ι (h ++ (h1.drop h.length).map (renB (above h.length h1.length))) := by
    intro b blk hb
    have hlt := nth_some_lt hb
    refine ⟨blk, by rw [(low b hlt).1]; exact hb, ?_⟩
    by_cases e : blk = .dead
    · exact .inl e
    · exact .inr ⟨e, rfl, (low b hlt).2⟩
  have live : ∀ b, Live (h ++ (h1.drop h.length).map (renB (above h.length h1.length))) b → (b < h.length ∧ Live h b) ∨ (h.length ≤ b ∧ Live h1 b) := by
    rintro b ⟨y, hy, hs⟩
    rcases hsplit b with k | ⟨i, rfl⟩
    · rw [(low b k).1] at hy; exact .inl ⟨k, y, hy, hs⟩
    · rw [(high i).1, Option.map_eq_some_iff] at hy
      obtain ⟨x, hx, rfl⟩ := hy
      exact .inr ⟨by omega, x, hx, solid_ren hs⟩
  have name : ∀ b c, nth σ2.ι b = some c → (b < h.length → nth σ.ι b = some c) ∧ (h.length ≤ b → nth σ1.ι b = some c) := by
    intro b c hc
    constructor
    · intro k; rw [(low b k).2] at hc; exact hc
    · intro k
      obtain ⟨i, rfl⟩ := Nat.exists_eq_add_of_le k
      rw [(high i).2] at hc; exact hc
  have mine : ∀ k, Mine σ2 (h ++ (h1.drop h.length).map (renB (above h.length h1.length))) k → Mine σ h k ∨ Mine σ1 h1 k := by
    rintro k ⟨b, c, hb, hc, rfl⟩
    rcases live b hb with ⟨q, l⟩ | ⟨q, l⟩
    · exact .inl ⟨b, c, l, (name b c hc).1 q, rfl⟩
    · exact .inr ⟨b, c, l, (name b c hc).2 q, rfl⟩
  have newer : ∀ k, Mine σ1 h1 k → w.heap.size ≤ k := fun k hk => by
    rcases p.mine k hk with m | m
    · exact absurd m (hno k)
    · exact m
  refine ⟨σ2, ⟨hlen2, ?_, ?_, ?_, h2.bound, h2.glob⟩, ⟨p.os, p.tape, p.output, p.size, fun k hk _ => p.other k hk (hno k), ?_, p.data, hkeep, ?_⟩, fun v u q => ren_rel hren 4 v u q⟩
  · intro b y hy
    rcases hsplit b with k | ⟨i, rfl⟩
    · rw [(low b k).1] at hy
      refine BRel.keep hy (hi.blk b y hy) hG hkeep hi.len (by rw [(low b k).1]; exact hy) (low b k).2 (fun c hs hc => p.other c.1 (hi.lt ⟨b, c, ⟨y, hy, hs⟩, hc, rfl⟩) (hno _)) ?_
      intro df cd _ hcd
      have hlt : df < h.length := by have := nth_some_lt hcd; rw [hi.len] at this; exact this
      rw [(low df hlt).2]; exact hcd
    · rw [(high i).1, Option.map_eq_some_iff] at hy
      obtain ⟨x, hx, rfl⟩ := hy
      exact ren_brel hren (high i).2 (h2.blk _ x hx)
  · intro b1 b2 c1 c2 l1 l2 n1 n2 e
    rcases live b1 l1 with ⟨q1, m1⟩ | ⟨q1, m1⟩ <;> rcases live b2 l2 with ⟨q2, m2⟩ | ⟨q2, m2⟩
    · exact hi.inj b1 b2 c1 c2 m1 m2 ((name _ _ n1).1 q1) ((name _ _ n2).1 q2) e
    · have k1 := hi.lt ⟨b1, c1, m1, (name _ _ n1).1 q1, rfl⟩
      have k2 := newer _ ⟨b2, c2, m2, (name _ _ n2).2 q2, rfl⟩
      omega
    · have k1 := newer _ ⟨b1, c1, m1, (name _ _ n1).2 q1, rfl⟩
      have k2 := hi.lt ⟨b2, c2, m2, (name _ _ n2).1 q2, rfl⟩
      omega
    · exact h2.inj b1 b2 c1 c2 m1 m2 ((name _ _ n1).2 q1) ((name _ _ n2).2 q2) e
  · intro k hm hg
    rcases mine k hm with m | m
    · have hlt := hi.lt m
      rcases p.more k hg with q | q | q
      · exact hi.sep k m q
      · exact hno k q
      · omega
    · exact h2.sep k m hg
  · intro k hm
    rcases mine k hm with m | m
    · exact .inl m
    · exact .inr (newer k m)
  · intro k hg
    rcases p.more k hg with q | q | q
    · exact .inl q
    · exact absurd q (hno k)
    · exact .inr (.inr q)
end
end Go.AE

/- Calls of functions. -/
namespace Go.AE
open Go

/-- A fence that lets everything through; within a round, or not. -/
def FW (ro : Option Nat) : Fence := { Fence.wide with round := ro }

section
variable {P : Program} {T : Tab TI} {w w' : World} {σ σ' : Sg} {h h' : List Blk} {G G' : Nat → Prop} {R : Type} {r : R}

theorem revealR_sound {ts : List Nat} {d : DV} {K : DV → Option R} (hK : revealR T ts d K = some r) : ∃ d', K d' = some r ∧ ∀ w G v, DRel w G d v → DRel w G d' v := by
  unfold revealR at hK
  split at hK
  · exact revealW_sound hK
  · split at hK
    · rename_i ds
      obtain ⟨ds', h1, h2⟩ := revealL_sound hK
      refine ⟨_, h1, fun w G v q => ?_⟩
      simp only [DRel] at q ⊢
      obtain ⟨vs, e, q⟩ := q
      exact ⟨vs, e, h2 w G _ q⟩
    · cases hK

/-- A function that can be entered. -/
def Enters (P : Program) (f : FuncId) : Prop := ∃ fn, P.funcs[f]? = some fn ∧ (fn.name == "runtime.NumGoroutine") = false ∧ fn.body.isNone = false

/-- What the evaluator tells of calls is so. -/
structure EvOK (P : Program) (E : Ev) : Prop where
  pure : ∀ f ds d, (E.pure f ds).val = some d → Enters P f ∧ ∀ (w : World) (G : Nat → Prop) (vs : Array Value), (∀ k, G k → k < w.heap.size) → GlobOK w G → DVals w G ds vs.toList →
    Calls P f vs w fun e w' => ∃ v, e = .returned v ∧ Go.RowKit.Below w.heap.size w w' ∧ DRel w' (fun k => (freshF f = false ∧ G k) ∨ (w.heap.size ≤ k ∧ k < w'.heap.size)) d v
  fn : ∀ f as h v h', (E.fn f as h).val = some (v, h') → Enters P f ∧ ∀ (w : World) (σ : Sg) (vs : Array Value), HInv w σ h → AVals w σ h as vs.toList →
    Calls P f vs w fun e w' => ∃ u σ', e = .returned u ∧ HInv w' σ' h' ∧ Step w σ h w' σ' h' ∧ ARel w' σ' h' v u
  calm : ∀ f as h v h', (E.fn f as h).val = some (v, h') → calmF f = true → h' = h
  round : ∀ l as h v h', (E.round l as h).val = some (v, h') → ¬ isDead h l ∧ ∀ (w : World) (σ : Sg) (vs : Array Value) (c : Nat × Nat) (ro : Option Nat) (m : Nat), HInv w σ h → AVals w σ h as vs.toList → nth σ.ι l = some c →
    ∃ fn tmps asg body, (Instr.yield c.1 vs).run P w = .ok (.round c.1 fn tmps asg body) w ∧ RoundIn (FW ro) m P c.1 fn tmps asg body w fun e w' => ∃ u σ', e = .returned u ∧ HInv w' σ' h' ∧ Step w σ h w' σ' h' ∧ ARel w' σ' h' v u

theorem frozen_vals (hi : HInv w σ h) {as : List AV} {ds : List DV} {vs : List Value} (hf : mapO (freezeV h 4) as = some ds) (q : AVals w σ h as vs) : DVals w (fun k => σ.G k ∨ Of σ h (as.flatMap (idsF h 4)) k) ds vs := by
  refine AVals.of_frozen (w := w) (σ := σ) (h := h) (P := fun a d => freezeV h 4 a = some d ∧ a ∈ as) (fun a d x hp hx => (freeze_rel hi 4 a d x hp.1 hx).wider fun k hk => hk.imp id fun o => o.mono fun b hb => ?_) as ds vs (mapO_nth hf).1 (fun i d hd => ?_) q
  · obtain ⟨a, k1, k2⟩ := (mapO_nth hf).2 i d hd
    exact ⟨a, k1, k2, mem_of_nth k1⟩
  · simp only [List.mem_flatMap]; exact ⟨a, hp.2, hb⟩

theorem data_vals : ∀ {as : List AV} {ds : List DV} {vs : List Value}, as.all isD = true → mapO (freezeV h 4) as = some ds → AVals w σ h as vs → DVals w σ.G ds vs
  | [], ds, vs, _, hf, q => by simp [mapO] at hf; subst hf; simpa [AVals, DVals] using q
  | a :: as, ds, vs, hd, hf, q => by
    simp only [mapO] at hf
    split at hf
    · rename_i y l' h1 h2
      cases hf
      simp only [List.all_cons, Bool.and_eq_true] at hd
      simp only [AVals] at q
      obtain ⟨v, r, rfl, q1, q2⟩ := q
      cases a with
      | d x =>
        simp [freezeV] at h1; subst h1
        exact ⟨v, r, rfl, by simpa [ARel] using q1, data_vals hd.2 h2 q2⟩
      | _ => simp [isD] at hd
    · cases hf

theorem data_args : ∀ {as : List AV} {vs : List Value}, as.all isD = true → AVals w σ h as vs → AVals w σ h' as vs
  | [], vs, _, q => by simpa [AVals] using q
  | a :: as, vs, hd, q => by
    simp only [List.all_cons, Bool.and_eq_true] at hd
    simp only [AVals] at q ⊢
    obtain ⟨v, r, rfl, q1, q2⟩ := q
    cases a with
    | d x => exact ⟨v, r, rfl, by simpa [ARel] using q1, data_args hd.2 q2⟩
    | _ => simp [isD] at hd

theorem callE_sound {C : Ctx} {E : Ev} (hE : EvOK P E) (hi : HInv w σ h) {g : FuncId} {as : List AV} {vs : Array Value} {K : AV → List Blk → Option R} (q : AVals w σ h as vs.toList) (hK : callE C E g as h K = some r) :
    ∃ v h', K v h' = some r ∧ Enters P g ∧ Calls P g vs w fun e w' => ∃ u σ', e = .returned u ∧ HInv w' σ' h' ∧ Step w σ h w' σ' h' ∧ ARel w' σ' h' v u := by
  unfold callE at hK
  rcases cond_some hK with ⟨_, hK⟩ | ⟨_, hK⟩
  · split at hK
    · cases hK
    · rename_i ds hds
      simp only [Tr.run_eq, Option.bind_eq_some_iff] at hK
      obtain ⟨d, hd, hK⟩ := hK
      obtain ⟨d', hK, hrev⟩ := revealR_sound hK
      obtain ⟨hent, hcall⟩ := hE.pure g ds d hd
      have hbound : ∀ k, (σ.G k ∨ Of σ h (as.flatMap (idsF h 4)) k) → k < w.heap.size := by
        rintro k (hk | ⟨b, c, _, hb, hc, rfl⟩)
        · exact hi.bound k hk
        · exact hi.lt ⟨b, c, hb, hc, rfl⟩
      have hany : ∀ {w' : World} {G : Nat → Prop} {v : Value}, DRel w' (fun k => (freshF g = false ∧ G k) ∨ (w.heap.size ≤ k ∧ k < w'.heap.size)) d v → DRel w' (fun k => G k ∨ (w.heap.size ≤ k ∧ k < w'.heap.size)) d v := fun q => q.wider fun k hk => hk.imp (fun h => h.2) id
      rcases cond_some hK with ⟨hq, hK⟩ | ⟨_, hK⟩
      · refine ⟨_, _, hK, hent, ?_⟩
        rcases Bool.or_eq_true_iff.1 hq with hq | hq
        · refine Calls.mono (hcall w _ vs hbound (hi.glob.mono fun _ hb => ⟨.inl hb, rfl⟩) (frozen_vals hi hds q)) ?_
          rintro e w' ⟨v, rfl, k1, k2⟩
          obtain ⟨s1, s2⟩ := hi.outside k1
          refine ⟨v, _, rfl, s1, s2, ?_⟩
          simp only [ARel]
          exact (hrev _ _ _ k2).wider fun k hk => hk.elim (fun h => by rw [hq] at h; cases h.1) .inr
        rcases Bool.or_eq_true_iff.1 hq with hq | hq
        · refine Calls.mono (hcall w σ.G vs hi.bound hi.glob (data_vals hq hds q)) ?_
          rintro e w' ⟨v, rfl, k1, k2⟩
          obtain ⟨s1, s2⟩ := hi.outside k1
          exact ⟨v, _, rfl, s1, s2, by simpa [ARel] using hrev _ _ _ (hany k2)⟩
        · refine Calls.mono (hcall w _ vs hbound (hi.glob.mono fun _ hb => ⟨.inl hb, rfl⟩) (frozen_vals hi hds q)) ?_
          rintro e w' ⟨v, rfl, k1, k2⟩
          obtain ⟨s1, s2⟩ := hi.outside k1
          exact ⟨v, _, rfl, s1, s2, by simpa [ARel] using flat_rel hq (hrev _ _ _ (hany k2))⟩
      · refine ⟨_, _, hK, hent, ?_⟩
        refine Calls.mono (hcall w _ vs hbound (hi.glob.mono fun _ hb => ⟨.inl hb, rfl⟩) (frozen_vals hi hds q)) ?_
        rintro e w' ⟨v, rfl, k1, k2⟩
        obtain ⟨p1, p2⟩ := hi.settle (as.flatMap (idsF h 4))
        obtain ⟨s1, s2⟩ := p1.outside k1
        exact ⟨v, _, rfl, s1, p2.trans s2, by simpa [ARel] using hrev _ _ _ (hany k2)⟩
  · rcases cond_some hK with ⟨hd, hK⟩ | ⟨_, hK⟩
    · simp only [Tr.run_eq, Option.bind_eq_some_iff] at hK
      obtain ⟨⟨v, h1⟩, hf, hK⟩ := hK
      obtain ⟨hent, hcall⟩ := hE.fn g as _ v h1 hf
      refine ⟨_, _, hK, hent, ?_⟩
      have hi0 : HInv w σ (List.replicate h.length .dead) := by
        have hno : ∀ b x, nth (List.replicate h.length Blk.dead) b = some x → x = .dead := by
          intro b x hx
          have := nth_some_lt hx
          rw [nth_replicate _ _ _ (by simpa using this)] at hx
          cases hx; rfl
        refine ⟨by simp [hi.len], fun b x hx => by rw [hno b x hx]; trivial, ?_, ?_, hi.bound, hi.glob⟩
        · rintro b1 b2 c1 c2 ⟨x, hx, hs⟩; rw [hno _ x hx] at hs; simp [solid] at hs
        · rintro k ⟨b, c, ⟨x, hx, hs⟩, _⟩; rw [hno _ x hx] at hs; simp [solid] at hs
      refine Calls.mono (hcall w σ vs hi0 (data_args hd q)) ?_
      rintro e w' ⟨u, σ1, rfl, k1, k2, k3⟩
      obtain ⟨σ2, g1, g2, g3⟩ := hi.beside k1 k2
      exact ⟨u, σ2, rfl, g1, g2, g3 v u k3⟩
    · simp only [Tr.run_eq, Option.bind_eq_some_iff] at hK
      obtain ⟨⟨v, h'⟩, hf, hK⟩ := hK
      obtain ⟨hent, hcall⟩ := hE.fn g as h v h' hf
      have hh : cond (calmF g) h h' = h' := by
        cases hc : calmF g with
        | true => exact (hE.calm g as h v h' hf hc).symm
        | false => rfl
      simp only [hh] at hK
      exact ⟨v, h', hK, hent, hcall w σ vs hi q⟩
end
end Go.AE

/- Regions in the order of their text. -/
namespace Go.AE
open Go

theorem callsIn_FW {P : Program} {f : FuncId} {args : Array Value} {w : World} {R : Ending → World → Prop} (ro : Option Nat) (m : Nat) (h : Calls P f args w R) : CallsIn (FW ro) m P f args w R :=
  (callsIn_wide.2 h : CallsIn Fence.wide m P f args w R)

section
variable {P : Program} {T : Tab TI} {w w' : World} {σ σ' : Sg} {h h' : List Blk} {G G' : Nat → Prop} {R : Type} {r : R}

theorem semAt_FW (ro : Option Nat) (o : Oper) (ρ : Operand → Value) (hd : ∀ c, o.op ≠ .defer c) : o.semAt (FW ro).round ρ = execOp ρ o := by
  cases ro with
  | none => rfl
  | some l => exact Oper.semAt_some l ρ o hd

theorem opE_defer {C : Ctx} {E : Ev} {op : Op} {env : List (Nat × AV)} {K : AV → List Blk → Option R} (hK : opE C E op env h K = some r) : ∀ c, op ≠ .defer c := by
  rintro c rfl
  simp [opE] at hK

/-- One operation. -/
theorem opE_wp {C : Ctx} (hT : TOK P C.T) (hE : EqOK P C.T) {E : Ev} (hV : EvOK P E) (hi : HInv w σ h) {o : Oper} {env : List (Nat × AV)} {a : Act} {K : AV → List Blk → Option R} (q : EnvRel w σ h env a.tmps)
    (hK : opE C E o.op env h K = some r) {ro : Option Nat} {n : Nat} {next : Act → World → Prop} {Q : Exit → Act → World → Prop}
    (hn : ∀ v h' u w' σ', K v h' = some r → HInv w' σ' h' → Step w σ h w' σ' h' → ARel w' σ' h' v u → next (a.put o.dst u) w') : o.wpIn (FW ro) n P a w next Q := by
  refine ⟨fun _ _ => trivial, ?_⟩
  rw [semAt_FW ro o a.eval (opE_defer hK)]
  have q' := ev_rel hi.glob q
  cases hc : callsF o.op with
  | false =>
    obtain ⟨v, h', h1, nx, u, w', σ', k1, k2, k3, k4, k5⟩ := opE_sound hT hE hi q' hc hK
    rw [k1]
    have := hn v h' u w' σ' h1 k3 k4 k5
    cases nx <;> simp [taken] at k2
    · subst k2; exact this
    · subst k2; exact this
  | true =>
    cases ho : o.op <;> rw [ho] at hc hK <;> try (simp [callsF] at hc; done)
    rename_i c
    simp only [callsF] at hc
    cases hcal : c.callee with
    | builtin b => rw [hcal] at hc; cases hc
    | invoke f n => rw [hcal] at hc; cases hc
    | value f =>
      simp only [opE, hcal] at hK
      have hf := q' f
      have hargs : AVals w σ h (c.args.toList.map (ev env)) (c.args.map a.eval).toList := by rw [Array.toList_map]; exact q'.list _
      have enter : ∀ (g : FuncId) (as bs : List AV) (x y : Array Value), a.eval f = .func (.func g) x y → AVals w σ h as x.toList → AVals w σ h bs y.toList →
          callE C E g (as ++ c.args.toList.map (ev env) ++ bs) h K = some r → o.uponIn (FW ro) n P a next Q ((execOp a.eval o).run P w) := by
        intro g as bs x y e hx hy hK
        have hall : AVals w σ h (as ++ c.args.toList.map (ev env) ++ bs) (x ++ c.args.map a.eval ++ y).toList := by
          simp only [Array.toList_append]
          exact AVals.append (AVals.append hx hargs) hy
        obtain ⟨v, h', h1, ⟨fn, e1, e2, e3⟩, hcalls⟩ := callE_sound hV hi hall hK
        have hrun : (execOp a.eval o).run P w = .ok (.enter g (x ++ c.args.map a.eval ++ y)) w := by
          unfold execOp
          rw [ho]
          show (do let d ← resolve a.eval c o.type; invoke d.target d.args : Sem Next).run P w = _
          simp only [resolve, hcal, e, Deferred.ofValue]
          show (callFunc g (x ++ c.args.map a.eval ++ y)).run P w = _
          unfold callFunc
          have e2' : ¬ fn.name = "runtime.NumGoroutine" := by simpa using e2
          have e3' : ¬ fn.body = none := by rintro e0; rw [e0] at e3; cases e3
          simp [e1, e2', e3']
        rw [hrun, Oper.uponIn_enter]
        refine ⟨fun hd => by simp [FW, Fence.wide] at hd, ?_⟩
        refine CallsIn.mono (callsIn_FW ro (n - 1) hcalls) ?_
        rintro e w' ⟨u, σ', rfl, k1, k2, k3⟩
        exact hn v h' u w' σ' h1 k1 k2 k3
      split at hK
      · rename_i g as bs e
        rw [e] at hf
        simp only [ARel, DRel] at hf
        obtain ⟨x, y, e1, e2, e3⟩ := hf
        exact enter g _ _ x y e1 (AVals.to_D e2) (AVals.to_D e3) hK
      · rename_i g as bs e
        rw [e] at hf
        simp only [ARel] at hf
        obtain ⟨x, y, e1, e2, e3⟩ := hf
        exact enter g _ _ x y e1 e2 e3 hK
      · rename_i l e
        simp only [Tr.run_eq, Option.bind_eq_some_iff] at hK
        obtain ⟨⟨v, h'⟩, hp, hK⟩ := hK
        obtain ⟨hnd, hround⟩ := hV.round l _ h v h' hp
        rw [e] at hf
        simp only [ARel] at hf
        obtain ⟨_, hf⟩ := hf
        rcases hf with hf | ⟨c', hc', hf⟩
        · exact absurd hf hnd
        obtain ⟨fn, tmps, asg, body, y1, y2⟩ := hround w σ (c.args.map a.eval) c' ro (n - 1) hi hargs hc'
        have hrun : (execOp a.eval o).run P w = .ok (.round c'.1 fn tmps asg body) w := by
          unfold execOp
          rw [ho]
          show (do let d ← resolve a.eval c o.type; invoke d.target d.args : Sem Next).run P w = _
          simp only [resolve, hcal, hf, Deferred.ofValue]
          show (Instr.yield c'.1 (#[] ++ c.args.map a.eval ++ #[])).run P w = _
          simpa using y1
        rw [hrun, Oper.uponIn_round]
        refine ⟨fun hd => by simp [FW, Fence.wide] at hd, ?_⟩
        refine RoundIn.mono y2 ?_
        rintro e w' ⟨u, σ', rfl, k1, k2, k3⟩
        exact hn v h' u w' σ' hK k1 k2 k3
      · cases hK
end
end Go.AE

/- Regions in the order of their text: all operations. -/
namespace Go.AE
open Go

section
variable {P : Program} {T : Tab TI} {w w' : World} {σ σ' : Sg} {h h' : List Blk} {G G' : Nat → Prop} {R : Type} {r : R} {DF : List Deferred}

/-- A state and what the abstract machine knows of it. N: how many slots there are. -/
structure SR (N : Nat) (DF : List Deferred) (w : World) (σ : Sg) (env : List (Nat × AV)) (h : List Blk) (a : Act) : Prop where
  inv : HInv w σ h
  env : EnvRel w σ h env a.tmps
  size : a.tmps.size = N
  defers : a.defers = DF

theorem EnvRel.cons {env : List (Nat × AV)} {tm : Array Value} {t : Nat} {v : AV} (q : EnvRel w σ h env tm) (hv : ARel w σ h v (tm.getD t undef)) : EnvRel w σ h ((t, v) :: env) tm := by
  intro s
  simp only [look]
  cases e : Nat.beq t s with
  | true => rw [← Nat.eq_of_beq_eq_true e]; exact hv
  | false => exact q s

theorem SR.put {N : Nat} {env : List (Nat × AV)} {a : Act} {dst : Option Tmp} {v : AV} {u : Value} (s : SR N DF w σ env h a) (k1 : HInv w' σ' h') (k2 : Step w σ h w' σ' h') (q : ARel w' σ' h' v u)
    (hd : ∀ t, dst = some t → t < N) : SR N DF w' σ' (putE dst v env) h' (a.put dst u) := by
  have he := k2.env s.inv s.env
  cases dst with
  | none => exact ⟨k1, he, s.size, s.defers⟩
  | some t =>
    have ht := hd t rfl
    refine ⟨k1, ?_, by simp [Act.put, s.size], s.defers⟩
    intro x
    simp only [putE, look, Act.put]
    cases e : Nat.beq t x with
    | true =>
      rw [← Nat.eq_of_beq_eq_true e]
      have : (a.tmps.setIfInBounds t u).getD t undef = u := by
        rw [Array.getD_eq_getD_getElem?, Array.getElem?_setIfInBounds_self_of_lt (by rw [s.size]; exact ht)]; rfl
      rw [this]; exact q
    | false =>
      have hne : t ≠ x := by rintro rfl; simp at e
      have : (a.tmps.setIfInBounds t u).getD x undef = a.tmps.getD x undef := by
        rw [Array.getD_eq_getD_getElem?, Array.getElem?_setIfInBounds_ne hne, ← Array.getD_eq_getD_getElem?]
      rw [this]; exact he x

theorem dstOf_get {ops : Array Oper} {j t : Nat} (hd : dstOf ops.toList j = some t) : ((ops[j]?).bind (·.dst)) = some t := by
  unfold dstOf at hd
  rw [nth_eq, Array.getElem?_toList] at hd
  cases e : ops[j]? with
  | none => rw [e] at hd; cases hd
  | some o => rw [e] at hd; simpa using hd

theorem yielded_bool {ops : Array Oper} {tm : Array Value} {j t : Nat} {b : Bool} (hd : dstOf ops.toList j = some t) (hv : tm.getD t undef = .bool b) : yielded ops tm j = some b := by
  unfold yielded
  rw [dstOf_get hd]
  rw [Array.getD_eq_getD_getElem?] at hv
  simp only [Option.bind_some]
  cases e : tm[t]? with
  | none => rw [e] at hv; simp [undef] at hv
  | some x => rw [e] at hv; simp at hv; rw [hv]

theorem yielded_undef {ops : Array Oper} {tm : Array Value} {j t : Nat} (hd : dstOf ops.toList j = some t) (hv : tm.getD t undef = undef) : yielded ops tm j = none := by
  unfold yielded
  rw [dstOf_get hd]
  rw [Array.getD_eq_getD_getElem?] at hv
  simp only [Option.bind_some]
  cases e : tm[t]? with
  | none => rfl
  | some x => rw [e] at hv; simp at hv; rw [hv]; rfl

theorem runE_wp {C : Ctx} (hT : TOK P C.T) (hE : EqOK P C.T) {E : Ev} (hV : EvOK P E) {N : Nat} {ops : Array Oper} {ro : Option Nat} {n : Nat} {K : List (Nat × AV) → List Blk → Option R} {Q : Exit → Act → World → Prop} :
    ∀ (rest pre : List Oper) (env : List (Nat × AV)) (h : List Blk) (a : Act) (w : World) (σ : Sg), ops.toList = pre ++ rest → (∀ o ∈ rest, ∀ t, o.dst = some t → t < N) → SR N DF w σ env h a →
      runE C E ops.toList rest env h K = some r →
      (∀ env' h' a' w' σ', K env' h' = some r → SR N DF w' σ' env' h' a' → Step w σ h w' σ' h' → Q .normal a' w') → wpOpsIn (FW ro) n P ops Q (List.range' pre.length rest.length) a w
  | [], pre, env, h, a, w, σ, _, _, hs, hK, hQ => hQ env h a w σ hK hs (Step.refl _ _ _)
  | o :: rest, pre, env, h, a, w, σ, hops, hd, hs, hK, hQ => by
    have ho : ops[pre.length]? = some o := by
      rw [← Array.getElem?_toList, hops]; simp
    have hd' : ∀ t, o.dst = some t → t < N := hd o (by simp)
    -- behind this operation
    have go : ∀ (env1 : List (Nat × AV)) (h1 : List Blk) (a1 : Act) (w1 : World) (σ1 : Sg), SR N DF w1 σ1 env1 h1 a1 → Step w σ h w1 σ1 h1 → runE C E ops.toList rest env1 h1 K = some r →
        wpOpsIn (FW ro) n P ops Q (List.range' (pre.length + 1) rest.length) a1 w1 := by
      intro env1 h1 a1 w1 σ1 s1 p1 hK1
      have := runE_wp hT hE hV (ro := ro) (n := n) (K := K) (Q := Q) rest (pre ++ [o]) env1 h1 a1 w1 σ1 (by rw [hops]; simp) (fun o' ho' => hd o' (by simp [ho'])) s1 hK1
        (fun env' h' a' w' σ' k1 k2 k3 => hQ env' h' a' w' σ' k1 k2 (p1.trans k3))
      simpa using this
    rw [List.length_cons, List.range'_succ]
    simp only [wpOpsIn, ho]
    -- with the operation, and without
    have yes : ∀ (env1 : List (Nat × AV)), EnvRel w σ h env1 a.tmps → (opE C E o.op env1 h fun v h => runE C E ops.toList rest (putE o.dst v env1) h K) = some r →
        o.wpIn (FW ro) n P a w (wpOpsIn (FW ro) n P ops Q (List.range' (pre.length + 1) rest.length)) Q := by
      intro env1 he1 hK1
      refine opE_wp hT hE hV hs.inv he1 hK1 ?_
      intro v h' u w' σ' k1 k2 k3 k4
      exact go _ _ _ _ _ (SR.put ⟨hs.inv, he1, hs.size, hs.defers⟩ k2 k3 k4 hd') k3 k1
    have no : ∀ (env1 : List (Nat × AV)), EnvRel w σ h env1 a.tmps → runE C E ops.toList rest (putE o.dst (.d (.tup [])) env1) h K = some r →
        (∀ f, o.about P w a.eval = some f → (FW ro).fn f) ∧ wpOpsIn (FW ro) n P ops Q (List.range' (pre.length + 1) rest.length) (a.put o.dst undef) w := by
      intro env1 he1 hK1
      exact ⟨fun _ _ => trivial, go _ _ _ _ _ (SR.put ⟨hs.inv, he1, hs.size, hs.defers⟩ hs.inv (Step.refl _ _ _) nil_tup hd') (Step.refl _ _ _) hK1⟩
    obtain ⟨dst, op, ty, af, pos, guard⟩ := o
    simp only [runE] at hK
    cases guard with
    | none =>
      simp only [Region.wanted, if_true]
      exact yes env hs.env hK
    | some g =>
      obtain ⟨j, want⟩ := g
      simp only at hK
      cases hdj : dstOf ops.toList j with
      | none => rw [hdj] at hK; cases hK
      | some t =>
        rw [hdj] at hK
        simp only at hK
        have ht := hs.env t
        have bool : ∀ b, look env t = .d (.bool b) → yielded ops a.tmps j = some b ∧ EnvRel w σ h ((t, .d (.bool b)) :: env) a.tmps := by
          intro b e
          rw [e] at ht
          exact ⟨yielded_bool hdj ht.bool, hs.env.cons ht⟩
        split at hK
        · rename_i b e
          obtain ⟨y1, y2⟩ := bool b e
          cases b with
          | true =>
            simp only [cond_true] at hK
            cases want with
            | true =>
              simp only [Region.wanted, y1, beq_self_eq_true, if_true]
              exact yes _ y2 hK
            | false =>
              have : (some true == some false) = false := rfl
              simp only [Region.wanted, y1, this, Bool.false_eq_true, if_false]
              exact no _ y2 hK
          | false =>
            simp only [cond_false] at hK
            cases want with
            | true =>
              have : (some false == some true) = false := rfl
              simp only [Region.wanted, y1, this, Bool.false_eq_true, if_false]
              exact no _ y2 hK
            | false =>
              simp only [Region.wanted, y1, beq_self_eq_true, if_true]
              exact yes _ y2 hK
        · rename_i e
          rw [e] at ht
          have hu : a.tmps.getD t undef = undef := by
            simp only [ARel, DRel] at ht
            obtain ⟨vs, e1, e2⟩ := ht
            simp only [DVals] at e2
            rw [e1, undef]; congr 1
            exact Array.toList_inj.1 (by simpa using e2)
          have y := yielded_undef hdj hu
          have : (none == some want) = false := rfl
          simp only [Region.wanted, y, this, Bool.false_eq_true, if_false]
          exact no _ hs.env hK
        · cases hK
end
end Go.AE

/- What an operation hands on does not hang on what comes behind it. -/
namespace Go.AE
open Go

section
variable {X Y Z W : Type}
theorem Fac.ret (x : X) : Fac (fun R (K : X → Option R) => K x) := .inl ⟨x, fun _ _ => rfl⟩
theorem Fac.no : Fac (fun R (_ : X → Option R) => (none : Option R)) := .inr fun _ _ => rfl
theorem Fac2.ret (x : X) (y : Y) : Fac2 (fun R (K : X → Y → Option R) => K x y) := .inl ⟨x, y, fun _ _ => rfl⟩
theorem Fac2.no : Fac2 (fun R (_ : X → Y → Option R) => (none : Option R)) := .inr fun _ _ => rfl
theorem Fac.cnd (b : Bool) {f g : (R : Type) → (X → Option R) → Option R} (hf : Fac f) (hg : Fac g) : Fac (fun R K => cond b (f R K) (g R K)) := by cases b <;> assumption
theorem Fac2.cnd (b : Bool) {f g : (R : Type) → (X → Y → Option R) → Option R} (hf : Fac2 f) (hg : Fac2 g) : Fac2 (fun R K => cond b (f R K) (g R K)) := by cases b <;> assumption
theorem Fac.bd {f : (R : Type) → (X → Option R) → Option R} {g : X → (R : Type) → (Z → Option R) → Option R} (hf : Fac f) (hg : ∀ x, Fac (g x)) : Fac (fun R K => f R fun x => g x R K) := by
  rcases hf with ⟨x, hf⟩ | hf
  · rcases hg x with ⟨z, hg⟩ | hg
    · exact .inl ⟨z, fun R K => (hf R _).trans (hg R K)⟩
    · exact .inr fun R K => (hf R _).trans (hg R K)
  · exact .inr fun R K => hf R _
theorem Fac.bd2 {f : (R : Type) → (X → Option R) → Option R} {g : X → (R : Type) → (Z → W → Option R) → Option R} (hf : Fac f) (hg : ∀ x, Fac2 (g x)) : Fac2 (fun R K => f R fun x => g x R K) := by
  rcases hf with ⟨x, hf⟩ | hf
  · rcases hg x with ⟨z, y, hg⟩ | hg
    · exact .inl ⟨z, y, fun R K => (hf R _).trans (hg R K)⟩
    · exact .inr fun R K => (hf R _).trans (hg R K)
  · exact .inr fun R K => hf R _
theorem Fac2.bd2 {f : (R : Type) → (X → Y → Option R) → Option R} {g : X → Y → (R : Type) → (Z → W → Option R) → Option R} (hf : Fac2 f) (hg : ∀ x y, Fac2 (g x y)) : Fac2 (fun R K => f R fun x y => g x y R K) := by
  rcases hf with ⟨x, y, hf⟩ | hf
  · rcases hg x y with ⟨z, u, hg⟩ | hg
    · exact .inl ⟨z, u, fun R K => (hf R _).trans (hg R K)⟩
    · exact .inr fun R K => (hf R _).trans (hg R K)
  · exact .inr fun R K => hf R _
theorem Fac.ob (o : Option X) {g : X → (R : Type) → (Z → Option R) → Option R} (hg : ∀ x, Fac (g x)) : Fac (fun R K => o.bind fun x => g x R K) := by
  cases o with
  | none => exact .inr fun _ _ => rfl
  | some x => exact hg x
theorem Fac2.ob (o : Option X) {g : X → (R : Type) → (Z → W → Option R) → Option R} (hg : ∀ x, Fac2 (g x)) : Fac2 (fun R K => o.bind fun x => g x R K) := by
  cases o with
  | none => exact .inr fun _ _ => rfl
  | some x => exact hg x
theorem Fac.tr (t : Tr X) {g : X → (R : Type) → (Z → Option R) → Option R} (hg : ∀ x, Fac (g x)) : Fac (fun R K => t.run fun x => g x R K) := by
  rcases Fac.ob t.val hg with ⟨x, h⟩ | h
  · exact .inl ⟨x, fun R K => (Tr.run_eq _ t).trans (h R K)⟩
  · exact .inr fun R K => (Tr.run_eq _ t).trans (h R K)
theorem Fac2.tr (t : Tr X) {g : X → (R : Type) → (Z → W → Option R) → Option R} (hg : ∀ x, Fac2 (g x)) : Fac2 (fun R K => t.run fun x => g x R K) := by
  rcases Fac2.ob t.val hg with ⟨x, y, h⟩ | h
  · exact .inl ⟨x, y, fun R K => (Tr.run_eq _ t).trans (h R K)⟩
  · exact .inr fun R K => (Tr.run_eq _ t).trans (h R K)
theorem Fac.it (b : Prop) [Decidable b] {f g : (R : Type) → (X → Option R) → Option R} (hf : Fac f) (hg : Fac g) : Fac (fun R K => if b then f R K else g R K) := by
  by_cases h : b <;> simp only [h, if_true, if_false] <;> assumption
end

section
variable {T : Tab TI} {h : List Blk}

theorem fac_pick {c a b : AV} : Fac (fun R K => pickE (R := R) c a b K) := by
  unfold pickE
  cases c with
  | d x =>
    cases x with
    | bool x =>
      cases a with
      | d a => cases a with
        | bool p =>
          cases b with
          | d b => cases b with
            | bool q => exact .ret _
            | _ => exact .cnd _ (.ret _) (.ret _)
          | _ => exact .cnd _ (.ret _) (.ret _)
        | _ => exact .cnd _ (.ret _) (.ret _)
      | _ => exact .cnd _ (.ret _) (.ret _)
    | _ => exact .no
  | _ => exact .no

theorem fac_reveal {t : Nat} {d : DV} : Fac (fun R K => reveal (R := R) T t d K) := by
  unfold reveal
  cases tget T t with
  | none => exact .ret _
  | some ti =>
    dsimp only
    cases ti.tag with
    | int k => cases d with
      | int k' n => exact .cnd _ (.ret _) .no
      | _ => exact .no
    | bool => cases d <;> first | exact .ret _ | exact .no
    | str => cases d <;> first | exact .ret _ | exact .no
    | _ => exact .ret _

theorem fac_revealW {t : Nat} {d : DV} : Fac (fun R K => revealW (R := R) T t d K) := by
  unfold revealW
  have hr := fac_reveal (T := T) (t := t) (d := d)
  cases tget T t with
  | none => exact .ret _
  | some ti =>
    dsimp only
    cases ti.tag with
    | slice e =>
      dsimp only
      cases tget T e with
      | none => exact .no
      | some te => cases d with
        | sl cs n s cl nl => exact .cnd _ (.ret _) .no
        | _ => exact .no
    | _ => exact hr

theorem fac_revealL : ∀ {ts : List Nat} {ds : List DV}, Fac (fun R K => revealL (R := R) T ts ds K)
  | [], [] => .ret _
  | [], _ :: _ => .no
  | _ :: _, [] => .no
  | _ :: _, _ :: _ => fac_revealW.bd fun _ => fac_revealL.bd fun _ => .ret _

theorem fac_revealR {ts : List Nat} {d : DV} : Fac (fun R K => revealR (R := R) T ts d K) := by
  unfold revealR
  match ts with
  | [t] => exact fac_revealW
  | [] => cases d with
    | tup ds => exact fac_revealL.bd fun _ => .ret _
    | _ => exact .no
  | _ :: _ :: _ => cases d with
    | tup ds => exact fac_revealL.bd fun _ => .ret _
    | _ => exact .no

theorem fac_readL : ∀ {leaf : List Nat} {cs : List DV} {off : Nat}, Fac (fun R K => readL (R := R) T leaf cs off K)
  | [], _, _ => .ret _
  | _ :: _, _, _ => .ob _ fun _ => fac_reveal.bd fun _ => fac_readL.bd fun _ => .ret _

theorem fac_readD {t : Nat} {ti : TI} {cs : List DV} {off : Nat} : Fac (fun R K => readD (R := R) T t ti cs off K) :=
  .cnd _ (.cnd _ (fac_readL.bd fun _ => .ret _) (.ob _ fun _ => .ret _)) (.ob _ fun _ => fac_reveal)

theorem fac_readA {ti : TI} {cs : List AV} {off : Nat} : Fac (fun R K => readA (R := R) ti cs off K) :=
  .cnd _ (.ob _ fun _ => .ret _) (.ob _ fun _ => .ret _)

theorem fac_load {t : Nat} {a : AV} : Fac (fun R K => loadE (R := R) T t h a K) := by
  unfold loadE
  cases tget T t with
  | none => exact .no
  | some ti =>
    dsimp only
    cases a with
    | d x => cases x with
      | ptr cs off => exact .cnd _ (fac_readD.bd fun _ => .ret _) (.ob _ fun _ => fac_revealW.bd fun _ => .ret _)
      | _ => exact .no
    | ref b off =>
      dsimp only
      cases nth h b with
      | none => exact .no
      | some blk => cases blk with
        | dc cs => exact fac_readD.bd fun _ => .ret _
        | ac cs => exact fac_readA
        | _ => exact .no
    | _ => exact .no

theorem fac_put {blk : Blk} {off : Nat} {v : AV} : Fac (fun R K => putCells (R := R) blk off v K) := by
  unfold putCells
  cases blk with
  | dc cs => cases v with
    | d x => cases x <;> exact .cnd _ (.ret _) .no
    | _ => exact .cnd _ (.ret _) .no
  | ac cs => exact .cnd _ (.ret _) .no
  | _ => exact .no

theorem fac_store {t : Nat} {a v : AV} : Fac (fun R K => storeE (R := R) T t h a v K) := by
  unfold storeE
  cases tget T t with
  | none => exact .no
  | some ti =>
    dsimp only
    cases a with
    | ref b off =>
      dsimp only
      cases nth h b with
      | none => exact .no
      | some blk => exact .cnd _ (fac_put.bd fun _ => .ret _) .no
    | _ => exact .no

theorem fac_fill {place : Nat → Option (Nat × Nat)} {z : List DV} {ps : List (Nat × AV)} : Fac (fun R K => fillAny (R := R) place z ps K) := by
  unfold fillAny
  cases fillE cellsC place (z.map .d) ps with
  | none => exact .no
  | some l => exact .ret _

theorem fac_build {t : Nat} {ps : List (Nat × AV)} : Fac (fun R K => buildE (R := R) T t ps K) := by
  unfold buildE
  cases tget T t with
  | none => exact .no
  | some ti =>
    dsimp only
    cases ti.tag with
    | struct fs => exact .cnd _ (fac_fill.bd fun _ => .ret _) .no
    | array n e =>
      dsimp only
      cases tget T e with
      | none => exact .no
      | some te => exact .cnd _ (fac_fill.bd fun _ => .ret _) .no
    | _ => exact .no

theorem fac_buildSlice {t n : Nat} {ps : List (Nat × AV)} : Fac2 (fun R K => buildSliceE (R := R) T t n ps h K) := by
  unfold buildSliceE
  cases tget T t with
  | none => exact .no
  | some ti =>
    dsimp only
    cases ti.tag with
    | slice e =>
      dsimp only
      cases tget T e with
      | none => exact .no
      | some te =>
        refine .cnd _ (fac_fill.bd2 fun l => ?_) .no
        cases allD l with
        | some ds => exact .ret _ _
        | none => exact .ret _ _
    | _ => exact .no

theorem fac_int {op : BinOp} {k : IntKind} {a b : Int} : Fac (fun R K => intOp (R := R) op k a b K) := by
  unfold intOp
  cases op <;> first | exact .ret _ | exact .no | exact .cnd _ .no (.ret _)

theorem fac_shift {op : BinOp} {k : IntKind} {a b : Int} : Fac (fun R K => shiftOp (R := R) op k a b K) := by
  unfold shiftOp
  refine .cnd _ .no ?_
  cases op <;> first | exact .no | exact .ret _

theorem fac_eqAgg {t : Nat} {a b : AV} : Fac (fun R K => eqAgg (R := R) T t a b K) := by
  unfold eqAgg
  cases a with
  | d x => cases x with
    | agg xs => cases b with
      | d y => cases y with
        | agg ys => exact .cnd _ (.ob _ fun _ => .ret _) .no
        | _ => exact .no
      | _ => exact .no
    | _ => exact .no
  | _ => exact .no

theorem fac_eql {t : Nat} {a b : AV} : Fac (fun R K => eqlE (R := R) T t h a b K) := by
  unfold eqlE
  have hr := fac_eqAgg (T := T) (t := t) (a := a) (b := b)
  cases tget T t with
  | none => exact .no
  | some ti =>
    dsimp only
    cases ti.tag with
    | bool => cases a with
      | d x => cases x with
        | bool p => cases b with
          | d y => cases y with
            | bool q => exact .ret _
            | _ => exact .no
          | _ => exact .no
        | _ => exact .no
      | _ => exact .no
    | str => cases a with
      | d x => cases x with
        | str p => cases b with
          | d y => cases y with
            | str q => exact .ret _
            | _ => exact .no
          | _ => exact .no
        | _ => exact .no
      | _ => exact .no
    | slice e => exact .cnd _ (.ob _ fun _ => .ret _) (.cnd _ (.ob _ fun _ => .ret _) .no)
    | ptr e => exact .cnd _ (.ob _ fun _ => .ret _) (.cnd _ (.ob _ fun _ => .ret _) .no)
    | other => exact .no
    | _ => exact .cnd _ hr .no

theorem fac_addStr {a b : AV} : Fac (fun R K => addStr (R := R) a b K) := by
  unfold addStr
  cases a with
  | d x => cases x with
    | str p => cases b with
      | d y => cases y with
        | str q => exact .cnd _ (.ret _) .no
        | _ => exact .no
      | _ => exact .no
    | _ => exact .no
  | _ => exact .no

theorem fac_bin {op : BinOp} {t : Nat} {a b : AV} : Fac (fun R K => binE (R := R) T op t h a b K) := by
  unfold binE
  cases a with
  | d x => cases x with
    | int j x => cases b with
      | d y => cases y with
        | int k y => cases op <;> first | exact fac_shift.bd fun _ => .ret _ | exact .cnd _ (fac_int.bd fun _ => .ret _) .no
        | _ => (cases op <;> first | exact .no | exact fac_eql.bd (fun _ => .ret _) | exact fac_addStr)
      | _ => (cases op <;> first | exact .no | exact fac_eql.bd (fun _ => .ret _) | exact fac_addStr)
    | _ => (cases op <;> first | exact .no | exact fac_eql.bd (fun _ => .ret _) | exact fac_addStr)
  | _ => (cases op <;> first | exact .no | exact fac_eql.bd (fun _ => .ret _) | exact fac_addStr)

theorem fac_un {op : UnOp} {a : AV} : Fac (fun R K => unE (R := R) op a K) := by
  unfold unE
  cases op <;> cases a <;> first | exact .no | (rename_i x; cases x <;> first | exact .no | exact .ret _)

theorem fac_conv {t : Nat} {a : AV} : Fac (fun R K => convE (R := R) T t a K) := by
  unfold convE
  cases tget T t with
  | none => exact .no
  | some ti =>
    dsimp only
    cases ti.tag <;> cases a <;> first | exact .no | (rename_i x; cases x <;> first | exact .no | exact .ret _)

theorem fac_makeSlice {t : Nat} {a b : AV} : Fac2 (fun R K => makeSliceE (R := R) T t a b h K) := by
  unfold makeSliceE
  cases tget T t with
  | none => exact .no
  | some ti =>
    dsimp only
    cases ti.tag with
    | slice e =>
      dsimp only
      cases tget T e with
      | none => exact .no
      | some te =>
        dsimp only
        cases a with
        | d x => cases x with
          | int k l => cases k <;> first | exact .no | (cases b with
            | d y => cases y with
              | int k c => cases k <;> first | exact .no | exact .cnd _ (.ret _ _) .no
              | _ => exact .no
            | _ => exact .no)
          | _ => exact .no
        | _ => exact .no
    | _ => exact .no

theorem fac_field {t f : Nat} {a : AV} : Fac (fun R K => fieldE (R := R) T t a f K) := by
  unfold fieldE
  cases tget T t with
  | none => exact .no
  | some ti =>
    dsimp only
    cases ti.tag with
    | struct fs =>
      dsimp only
      cases nth fs f with
      | none => exact .no
      | some p =>
        obtain ⟨o, ft⟩ := p
        dsimp only
        cases tget T ft with
        | none => exact .no
        | some tf => cases a with
          | d x => cases x with
            | agg cs => exact fac_readD.bd fun _ => .ret _
            | _ => exact .no
          | agg cs => exact fac_readA
          | _ => exact .no
    | _ => exact .no

theorem fac_fieldAddr {t f : Nat} {a : AV} : Fac (fun R K => fieldAddrE (R := R) T t a f h K) := by
  unfold fieldAddrE
  cases tget T t with
  | none => exact .no
  | some ti =>
    dsimp only
    cases ti.tag with
    | struct fs =>
      dsimp only
      cases nth fs f with
      | none => exact .no
      | some p =>
        obtain ⟨o, ft⟩ := p
        dsimp only
        cases tget T ft with
        | none => exact .no
        | some tf =>
          refine .cnd _ .no ?_
          cases a with
          | d x => cases x <;> first | exact .ret _ | exact .no
          | ref b off =>
            dsimp only
            cases nth h b with
            | none => exact .no
            | some blk => cases blk <;> first | exact .ret _ | exact .no
          | _ => exact .no
    | _ => exact .no

theorem fac_indexAddr {t : Nat} {a i : AV} : Fac (fun R K => indexAddrE (R := R) T t a i h K) := by
  unfold indexAddrE
  cases tget T t with
  | none => exact .no
  | some ti => cases i with
    | d y => cases y with
      | int k i =>
        dsimp only
        cases ti.tag with
        | array n e =>
          dsimp only
          cases tget T e with
          | none => exact .no
          | some te =>
            refine .cnd _ ?_ .no
            cases a with
            | d x => cases x <;> first | exact .ret _ | exact .no
            | ref b off => exact .cnd _ (.ret _) .no
            | _ => exact .no
        | slice e =>
          dsimp only
          cases tget T e with
          | none => exact .no
          | some te => cases a with
            | d x => cases x with
              | sl cs n sz cl nl => exact .cnd _ (.cnd _ (.ret _) .no) .no
              | _ => exact .no
            | row b off n c sz ex => exact .cnd _ (.cnd _ (.ret _) .no) .no
            | grow b sz nn =>
              dsimp only
              cases nth h b with
              | none => exact .no
              | some blk => cases blk <;> first | exact .cnd _ (.cnd _ (.ret _) .no) .no | exact .no
            | _ => exact .no
        | _ => exact .no
      | _ => exact .no
    | _ => exact .no

theorem fac_index {t : Nat} {a i : AV} : Fac (fun R K => indexE (R := R) T t a i K) := by
  unfold indexE
  cases tget T t with
  | none => exact .no
  | some ti => cases i with
    | d y => cases y with
      | int k i =>
        dsimp only
        cases ti.tag with
        | array n e =>
          dsimp only
          cases tget T e with
          | none => exact .no
          | some te =>
            refine .cnd _ ?_ .no
            cases a with
            | d x => cases x with
              | agg cs => exact fac_readD.bd fun _ => .ret _
              | _ => exact .no
            | agg cs => exact fac_readA
            | _ => exact .no
        | str => cases a with
          | d x => cases x with
            | str s => exact .cnd _ (.ob _ fun _ => .ret _) .no
            | _ => exact .no
          | _ => exact .no
        | _ => exact .no
      | _ => exact .no
    | _ => exact .no

theorem fac_extract {a : AV} {i : Nat} : Fac (fun R K => extractE (R := R) a i K) := by
  unfold extractE
  cases a with
  | d x => cases x with
    | tup vs => exact .ob _ fun _ => .ret _
    | _ => exact .no
  | tup vs => exact .ob _ fun _ => .ret _
  | _ => exact .no

theorem fac_len {t : Nat} {a : AV} : Fac (fun R K => lenE (R := R) T t a h K) := by
  unfold lenE
  cases tget T t with
  | none => exact .no
  | some ti =>
    dsimp only
    cases ti.tag with
    | str => cases a with
      | d x => cases x <;> first | exact .ret _ | exact .no
      | _ => exact .no
    | array n e => exact .ret _
    | slice e => cases a with
      | d x => cases x <;> first | exact .ret _ | exact .no
      | row b off n c sz ex => exact .cnd _ (.ret _) .no
      | grow b sz nn =>
        dsimp only
        cases nth h b with
        | none => exact .no
        | some blk => cases blk <;> first | exact .ret _ | exact .no
      | _ => exact .no
    | map kt et => cases a with
      | mp b =>
        dsimp only
        cases nth h b with
        | none => exact .no
        | some blk => cases blk <;> first | exact .ret _ | exact .no
      | _ => exact .no
    | _ => exact .no

theorem fac_lookup {t : Nat} {a i : AV} {ok : Bool} : Fac (fun R K => lookupE (R := R) T t a i ok h K) := by
  unfold lookupE
  cases tget T t with
  | none => exact .no
  | some ti =>
    dsimp only
    cases ti.tag with
    | map kt et =>
      dsimp only
      cases tget T et with
      | none => exact .no
      | some te =>
        dsimp only
        cases te.zero with
        | nil => exact .no
        | cons z l => cases l with
          | cons _ _ => exact .no
          | nil => cases a with
            | mp b => cases i with
              | d k =>
                dsimp only
                cases nth h b with
                | none => exact .no
                | some blk => cases blk with
                  | mp es => exact .cnd _ (.ob _ fun _ => fac_reveal.bd fun _ => .ret _) .no
                  | _ => exact .no
              | _ => exact .no
            | _ => exact .no
    | _ => exact .no

theorem fac_mapEntry {t : Nat} {a i : AV} : Fac2 (fun R K => mapEntryE (R := R) T t a i h K) := by
  unfold mapEntryE
  cases tget T t with
  | none => exact .no
  | some ti =>
    dsimp only
    cases ti.tag with
    | map kt et =>
      dsimp only
      cases tget T et with
      | none => exact .no
      | some te =>
        dsimp only
        cases te.zero with
        | nil => exact .no
        | cons z l => cases l with
          | cons _ _ => exact .no
          | nil => cases a with
            | mp b => cases i with
              | d k =>
                dsimp only
                cases nth h b with
                | none => exact .no
                | some blk => cases blk with
                  | mp es =>
                    refine .cnd _ (.ob _ fun o => ?_) .no
                    cases o with
                    | none => exact .ret _ _
                    | some i => exact .ob _ fun e => fac_reveal.bd2 fun _ => .ret _ _
                  | _ => exact .no
              | _ => exact .no
            | _ => exact .no
    | _ => exact .no

theorem fac_entryStore {a s v : AV} : Fac2 (fun R K => entryStoreE (R := R) a s v h K) := by
  unfold entryStoreE
  cases a with
  | mp b => cases s with
    | d k => cases k with
      | int kd n => cases kd <;> first | exact .no | (cases v with
        | d x =>
          dsimp only
          cases nth h b with
          | none => exact .no
          | some blk => cases blk with
            | mp es => exact .cnd _ (.ob _ fun _ => .ret _ _) .no
            | _ => exact .no
        | _ => exact .no)
      | _ => exact .no
    | _ => exact .no
  | _ => exact .no

theorem fac_update {t : Nat} {a i v : AV} : Fac2 (fun R K => updateE (R := R) T t a i v h K) := by
  unfold updateE
  cases tget T t with
  | none => exact .no
  | some ti =>
    dsimp only
    cases ti.tag with
    | map kt et => cases a with
      | mp b => cases i with
        | d k => cases v with
          | d x =>
            dsimp only
            cases nth h b with
            | none => exact .no
            | some blk => cases blk with
              | mp es => exact .cnd _ (.ob _ fun _ => .ret _ _) .no
              | _ => exact .no
          | _ => exact .no
        | _ => exact .no
      | _ => exact .no
    | _ => exact .no

theorem fac_rangeS {t : Nat} {a : AV} : Fac2 (fun R K => rangeS (R := R) T t a h K) := by
  unfold rangeS
  cases tget T t with
  | none => exact .no
  | some ti =>
    dsimp only
    cases ti.tag with
    | str => cases a with
      | d x => cases x <;> first | exact .ret _ _ | exact .no
      | _ => exact .no
    | map kt et => cases a with
      | mp b =>
        dsimp only
        cases nth h b with
        | none => exact .no
        | some blk => cases blk with
          | mp es => exact .ret _ _
          | _ => exact .no
      | _ => exact .no
    | _ => exact .no

theorem fac_nextM {a : AV} : Fac2 (fun R K => nextME (R := R) a h K) := by
  unfold nextME
  cases a with
  | ref b off =>
    dsimp only
    cases nth h b with
    | none => exact .no
    | some blk => cases blk with
      | mit m n begun =>
        dsimp only
        cases nth h m with
        | none => exact .no
        | some blk => cases blk with
          | mp es =>
            refine .cnd _ ?_ .no
            cases es with
            | nil => exact .ret _ _
            | cons e r => cases r with
              | nil => cases begun <;> exact .ret _ _
              | cons _ _ => exact .ret _ _
          | _ => exact .no
      | _ => exact .no
  | _ => exact .no

theorem fac_entry {a : AV} : Fac (fun R K => entryE (R := R) a h K) := by
  unfold entryE
  cases a with
  | ref b off =>
    dsimp only
    cases nth h b with
    | none => exact .no
    | some blk => cases blk with
      | mit m n begun =>
        dsimp only
        cases nth h m with
        | none => exact .no
        | some blk => cases blk with
          | mp es =>
            refine .cnd _ ?_ .no
            cases begun.getLast? with
            | none => exact .no
            | some i =>
              dsimp only
              cases nth es i with
              | none => exact .no
              | some e => exact .ret _
          | _ => exact .no
      | _ => exact .no
  | _ => exact .no

theorem fac_nextS {a : AV} : Fac2 (fun R K => nextSE (R := R) a h K) := by
  unfold nextSE
  cases a with
  | ref b off =>
    dsimp only
    cases nth h b with
    | none => exact .no
    | some blk => cases blk with
      | sit s pos => exact .cnd _ (.cnd _ (.ret _ _) (.ret _ _)) .no
      | _ => exact .no
  | _ => exact .no

theorem fac_clear {t : Nat} {a : AV} : Fac2 (fun R K => clearE (R := R) T t a h K) := by
  unfold clearE
  cases tget T t with
  | none => exact .no
  | some ti =>
    dsimp only
    cases ti.tag with
    | slice e =>
      dsimp only
      cases tget T e with
      | none => exact .no
      | some te => cases a with
        | d x => cases x <;> first | exact .cnd _ (.ret _ _) .no | exact .no
        | row b off n c sz ex =>
          dsimp only
          refine .cnd _ (.cnd _ (.ret _ _) .no) (.cnd _ ?_ .no)
          cases nth h b with
          | none => exact .no
          | some blk => exact fac_put.bd2 fun _ => .ret _ _
        | _ => exact .no
    | _ => exact .no

theorem fac_minmax {mx : Bool} : ∀ {l : List AV} {a : AV}, Fac (fun R K => minmaxE.go (R := R) mx a l K)
  | [], a => by cases a <;> exact .ret _
  | b :: l, a => by
    unfold minmaxE.go
    cases a with
    | d x => cases x with
      | int k p => cases b with
        | d y => cases y with
          | int j q => exact .cnd _ fac_minmax .no
          | _ => exact .inr fun _ _ => by simp
        | _ => exact .inr fun _ _ => by simp
      | _ => exact .inr fun _ _ => by simp
    | _ => exact .inr fun _ _ => by simp

theorem fac_force {v : AV} : Fac (fun R K => forceE (R := R) v K) := by
  unfold forceE
  cases v <;> exact .ret _

theorem fac_low {lo : Option AV} {u m : Nat} : Fac (fun R (K : Nat × Nat × Nat → Option R) => lowE (R := R) lo (fun a b c => K (a, b, c)) u m) := by
  unfold lowE
  cases lo with
  | none => exact .ret _
  | some x => cases x with
    | d x => cases x with
      | int k i => exact .cnd _ (.ret _) .no
      | _ => exact .no
    | _ => exact .no

theorem fac_bounds {len cap : Nat} {lo hi mx : Option AV} : Fac (fun R (K : Nat × Nat × Nat → Option R) => boundsE (R := R) len cap lo hi mx (fun a b c => K (a, b, c))) := by
  unfold boundsE
  cases mx with
  | none =>
    cases hi with
    | none => exact fac_low
    | some x => cases x with
      | d x => cases x with
        | int k i => exact .cnd _ fac_low .no
        | _ => exact .no
      | _ => exact .no
  | some x => cases x with
    | d x => cases x with
      | int k i =>
        refine .cnd _ ?_ .no
        cases hi with
        | none => exact .no
        | some y => cases y with
          | d y => cases y with
            | int k j => exact .cnd _ fac_low .no
            | _ => exact .no
          | _ => exact .no
      | _ => exact .no
    | _ => exact .no

theorem fac_bounds_bd {X : Type} {len cap : Nat} {lo hi mx : Option AV} {g : Nat → Nat → Nat → (R : Type) → (X → Option R) → Option R} (hg : ∀ a b c, Fac (g a b c)) :
    Fac (fun R K => boundsE (R := R) len cap lo hi mx (fun a b c => g a b c R K)) :=
  Fac.bd (f := fun R (K : Nat × Nat × Nat → Option R) => boundsE (R := R) len cap lo hi mx (fun a b c => K (a, b, c))) (g := fun p => g p.1 p.2.1 p.2.2) fac_bounds fun p => hg _ _ _

theorem fac_rowPart {b off l u m sz : Nat} {ex : Bool} : Fac (fun R K => rowPart (R := R) b off l u m sz ex K) := .cnd _ (.ret _) (.cnd _ (.ret _) .no)

theorem fac_slice {t : Nat} {x : AV} {lo hi mx : Option AV} : Fac (fun R K => sliceE (R := R) T t x lo hi mx h K) := by
  unfold sliceE
  cases tget T t with
  | none => exact .no
  | some ti =>
    dsimp only
    cases ti.tag with
    | slice e =>
      dsimp only
      cases tget T e with
      | none => exact .no
      | some te => cases x with
        | d x => cases x with
          | sl cs n sz cl nl => exact .cnd _ (fac_bounds_bd fun _ _ _ => .ret _) .no
          | _ => exact .no
        | row b off n c sz ex => exact .cnd _ (fac_bounds_bd fun _ _ _ => fac_rowPart) .no
        | grow b sz nn =>
          dsimp only
          cases nth h b with
          | none => exact .no
          | some blk => cases blk with
            | dc cs => exact .cnd _ (.cnd _ (fac_bounds_bd fun _ _ _ => .ret _) (fac_bounds_bd fun _ _ _ => fac_rowPart)) .no
            | ac cs => exact .cnd _ (.cnd _ (fac_bounds_bd fun _ _ _ => .ret _) (fac_bounds_bd fun _ _ _ => fac_rowPart)) .no
            | _ => exact .no
        | _ => exact .no
    | array n e =>
      dsimp only
      cases tget T e with
      | none => exact .no
      | some te => cases x with
        | d x => cases x with
          | ptr cs off => exact fac_bounds_bd fun _ _ _ => .cnd _ (.ret _) .no
          | _ => exact .no
        | ref b off =>
          dsimp only
          cases nth h b with
          | none => exact .no
          | some blk => cases blk with
            | dc cs => exact .cnd _ (fac_bounds_bd fun _ _ _ => fac_rowPart) .no
            | ac cs => exact .cnd _ (fac_bounds_bd fun _ _ _ => fac_rowPart) .no
            | _ => exact .no
        | _ => exact .no
    | str => cases x with
      | d x => cases x with
        | str s => exact fac_bounds_bd fun _ _ _ => .cnd _ .no (.ret _)
        | _ => exact .no
      | _ => exact .no
    | _ => exact .no

theorem fac_src {sz : Nat} {x : AV} : Fac2 (fun R K => srcE (R := R) sz x h K) := by
  unfold srcE
  cases x with
  | d x => cases x with
    | sl cs n sz' cl nl => exact .cnd _ (.ret _ _) .no
    | _ => exact .no
  | row b off n c sz' ex =>
    refine .cnd _ ?_ .no
    cases nth h b with
    | none => exact .no
    | some blk => exact .ob _ fun _ => .ret _ _
  | grow b sz' nn =>
    refine .cnd _ ?_ .no
    cases nth h b with
    | none => exact .no
    | some blk => cases blk <;> first | exact .ret _ _ | exact .no
  | _ => exact .no

theorem fac_settle {on : Bool} {c : Blk} : Fac2 (fun R K => settleE (R := R) on c h K) := by
  unfold settleE
  cases c with
  | ac l =>
    refine .cnd _ ?_ (.ret _ _)
    cases mapO (freezeV h 4) l with
    | none => exact .ret _ _
    | some ds => exact .ret _ _
  | _ => exact .ret _ _

theorem fac_extend {b m sz n : Nat} {nn : Bool} {a c : Blk} : Fac2 (fun R K => extendE (R := R) h b m sz nn a c n K) := by
  unfold extendE
  cases appB a c with
  | none => exact .no
  | some x => exact .cnd _ (.ret _ _) .no

theorem fac_appendTo {sz n : Nat} {s : AV} {c : Blk} : Fac2 (fun R K => appendTo (R := R) sz s c n h K) := by
  unfold appendTo
  cases s with
  | d x => cases x with
    | sl cs m sz' cl nl =>
      refine .cnd _ (.cnd _ (.ret _ _) .no) (.cnd _ (.cnd _ (.ret _ _) (.cnd _ (.ret _ _) ?_)) .no)
      cases appB (.dc cs) c with
      | none => exact .no
      | some b => exact .ret _ _
    | _ => exact .no
  | row b off m cap sz' ex =>
    dsimp only
    cases nth h b with
    | none => exact .no
    | some blk =>
      refine .cnd _ (.cnd _ (fac_put.bd2 fun _ => .ret _ _) (.cnd _ ?_ .no)) .no
      cases subB blk 0 (m * sz) with
      | none => exact .no
      | some a =>
        refine .cnd _ ?_ (.cnd _ fac_extend .no)
        cases appB a c with
        | none => exact .no
        | some x => exact .cnd _ (.ret _ _) .no
  | grow b sz' nn =>
    dsimp only
    cases nth h b with
    | none => exact .no
    | some blk => cases blk with
      | dc cs => exact .cnd _ fac_extend .no
      | ac cs => exact .cnd _ fac_extend .no
      | _ => exact .no
  | _ => exact .no
end

/-- Calls, with whatever heap. -/
theorem fac_append {T : Tab TI} {h : List Blk} {on : Bool} {st xt : Nat} {s x : AV} : Fac2 (fun R K => appendE (R := R) T on st xt s x h K) := by
  unfold appendE
  cases tget T st with
  | none => exact .no
  | some ti => cases tget T xt with
    | none => exact .no
    | some tx =>
      dsimp only
      cases ti.tag with
      | slice e => cases tx.tag with
        | slice e' =>
          dsimp only
          cases tget T e with
          | none => exact .no
          | some te => exact .cnd _ (fac_src.bd2 fun _ _ => fac_settle.bd2 fun _ _ => fac_appendTo) .no
        | _ => exact .no
      | _ => exact .no

theorem fac_call {C : Ctx} {E : Ev} {g : FuncId} {as : List AV} {h : List Blk} : Fac2 (fun R K => callE (R := R) C E g as h K) := by
  unfold callE
  refine .cnd _ ?_ (.cnd _ (.tr _ fun _ => .ret _ _) (.tr _ fun _ => .ret _ _))
  cases mapO (freezeV h 4) as with
  | none => exact .no
  | some ds => exact .tr _ fun _ => fac_revealR.bd2 fun _ => .cnd _ (.ret _ _) (.ret _ _)

/-- A thing handed on with the heap as it was. -/
theorem Fac.at2 {X Y : Type} {f : (R : Type) → (X → Option R) → Option R} (hf : Fac f) (y : Y) : Fac2 (fun R K => f R fun x => K x y) := hf.bd2 fun _ => .ret _ _

theorem fac_box {v : AV} {h : List Blk} : Fac2 (fun R K => boxE (R := R) v h K) := by
  by_cases hv : ∃ ds, v = .d (.agg ds)
  · obtain ⟨ds, rfl⟩ := hv; exact .ret _ _
  · have e : ∀ (R : Type) (K : AV → List Blk → Option R), boxE v h K = match cellsC v with
        | some l => K (.ref h.length 0) (h ++ [blkOf l])
        | none => none := by
      intro R K
      unfold boxE
      split
      · rename_i ds; exact absurd ⟨ds, rfl⟩ hv
      · rfl
    cases hc : cellsC v with
    | none => exact .inr fun R K => (e R K).trans (by rw [hc])
    | some l => exact .inl ⟨_, _, fun R K => (e R K).trans (by rw [hc])⟩

theorem fac_opE {C : Ctx} {E : Ev} {op : Op} {env : List (Nat × AV)} {h : List Blk} : Fac2 (fun R K => opE (R := R) C E op env h K) := by
  cases op <;> unfold opE
  case move x => exact fac_force.at2 _
  case assign x => exact fac_force.at2 _
  case pick c a b => exact fac_pick.at2 _
  case alloc t =>
    dsimp only
    cases tget C.T t with
    | none => exact .no
    | some ti => exact .cnd _ (.ret _ _) .no
  case box t x => exact fac_box
  case build t ps => exact fac_build.at2 _
  case buildSlice t n ps => exact fac_buildSlice
  case load t a => exact fac_load.at2 _
  case store t a v => exact fac_store.bd2 fun _ => .ret _ _
  case nilCheck x =>
    dsimp only
    cases ev env x with
    | d x => cases x <;> first | exact .ret _ _ | exact .no
    | ref b off => exact .cnd _ (.ret _ _) .no
    | fn f a b => exact .ret _ _
    | _ => exact .no
  case binOp op t x y m => exact fac_bin.at2 _
  case unOp op t x => exact fac_un.at2 _
  case convert s d x => exact .cnd _ (fac_conv.at2 _) .no
  case makeFunc f a b => cases f <;> first | exact .ret _ _ | exact .no
  case makeSlice t l c => exact fac_makeSlice
  case slice t x lo hi mx => exact fac_slice.at2 _
  case fieldAddr t x f => exact fac_fieldAddr.at2 _
  case field t x f => exact fac_field.at2 _
  case indexAddr t x i => exact fac_indexAddr.at2 _
  case index t x i => exact fac_index.at2 _
  case extract x i => exact fac_extract.at2 _
  case range t x => exact fac_rangeS
  case next x str => exact .cnd _ fac_nextS fac_nextM
  case makeMap t res =>
    cases res with
    | none => exact .ret _ _
    | some x =>
      dsimp only
      cases ev env x with
      | d y => cases y with
        | int _ _ =>
          dsimp only
          cases tget C.T t with
          | none => exact .no
          | some ti =>
            dsimp only
            cases ti.tag <;> first | exact .ret _ _ | exact .no
        | _ => exact .no
      | _ => exact .no
  case entry x => exact fac_entry.at2 _
  case lookup t x i ok => exact fac_lookup.at2 _
  case mapUpdate t x i v => exact fac_update
  case insert t x i v => exact fac_update
  case mapEntry t x i => exact fac_mapEntry
  case entryStore t x s v => exact fac_entryStore
  case call c =>
    dsimp only
    cases c.callee with
    | builtin b =>
      dsimp only
      generalize c.args.toList.map (ev env) = as
      generalize c.argTypes.toList = ts
      cases b <;> try exact .no
      · match as, ts with
        | [s, x], [st, xt] => exact fac_append
        | [], _ => exact .no
        | [_], _ => exact .no
        | _ :: _ :: _ :: _, _ => exact .no
        | [_, _], [] => exact .no
        | [_, _], [_] => exact .no
        | [_, _], _ :: _ :: _ :: _ => exact .no
      · match as, ts with
        | [x], [t] => exact fac_clear
        | [], _ => exact .no
        | _ :: _ :: _, _ => exact .no
        | [_], [] => exact .no
        | [_], _ :: _ :: _ => exact .no
      · match as, ts with
        | [x], [t] => exact fac_len.at2 _
        | [], _ => exact .no
        | _ :: _ :: _, _ => exact .no
        | [_], [] => exact .no
        | [_], _ :: _ :: _ => exact .no
      · match as with
        | [] => exact .no
        | x :: l => exact fac_minmax.at2 _
      · match as with
        | [] => exact .no
        | x :: l => exact fac_minmax.at2 _
    | value f =>
      dsimp only
      cases ev env f with
      | d x => cases x with
        | fn g a b => exact fac_call
        | _ => exact .no
      | fn g a b => exact fac_call
      | yld l => exact .tr _ fun _ => .ret _ _
      | _ => exact .no
    | invoke f n => exact .no
  all_goals exact .no
theorem fac2_opAE {X Y : Type} {T : Tab TI} {op : Op} {env : List (Nat × AV)} {N : (R : Type) → (X → Y → Option R) → Option R} {G : AV → Nat → (R : Type) → (X → Y → Option R) → Option R} (hN : Fac2 N) (hG : ∀ v b, Fac2 (G v b)) :
    Fac2 (fun R K => opAE (R := R) T op env (N R K) fun v b => G v b R K) := by
  cases op <;> try exact hN
  case nilCheck x =>
    simp only [opAE]
    cases ev env x <;> first | exact hG _ _ | exact hN
  case fieldAddr t x f =>
    simp only [opAE]
    cases ev env x <;> try exact hN
    cases tget T t with
    | none => exact .no
    | some ti =>
      dsimp only
      cases ti.tag <;> try exact .no
      rename_i fs
      dsimp only
      cases nth fs f with
      | none => exact .no
      | some p =>
        obtain ⟨o, ft⟩ := p
        dsimp only
        cases tget T ft with
        | none => exact .no
        | some tf => exact .cnd _ .no (hG _ _)
  case indexAddr t x i =>
    simp only [opAE]
    cases ev env x <;> try exact hN
    cases tget T t with
    | none => exact .no
    | some ti =>
      dsimp only
      cases ev env i <;> try exact .no
      rename_i d
      cases d <;> try exact .no
      dsimp only
      cases ti.tag <;> try exact .no
      rename_i n e
      dsimp only
      cases tget T e with
      | none => exact .no
      | some te => exact .cnd _ (hG _ _) .no

theorem fac2_opLE {X Y : Type} {T : Tab TI} {op : Op} {env : List (Nat × AV)} {h : List Blk} {N : (R : Type) → (X → Y → Option R) → Option R} {G : AV → Nat → Nat → (R : Type) → (X → Y → Option R) → Option R} (hN : Fac2 N) (hG : ∀ v b t, Fac2 (G v b t)) :
    Fac2 (fun R K => opLE (R := R) T op env h (N R K) fun v b t => G v b t R K) := by
  cases op <;> try exact hN
  case lookup t x i ok =>
    simp only [opLE]
    cases ev env x <;> try exact hN
    exact fac_lookup.bd2 fun v => hG _ _ _

end Go.AE

/- Regions that draw their order: what one operation does, in whatever state it is taken. -/
namespace Go.AE
open Go

/-- A thing handed on with the heap as it is; or nothing. -/
theorem Fac.keep {X : Type} {f : (R : Type) → (X → Option R) → Option R} (hf : Fac f) {R : Type} {K : X → Option R} {r : R} (hK : f R K = some r) :
    ∃ x, K x = some r ∧ ∀ R' K', f R' K' = K' x := by
  rcases hf with ⟨x, hf⟩ | hf
  · exact ⟨x, (hf _ _).symm.trans hK, hf⟩
  · rw [hf] at hK; cases hK

theorem Fac2.keep {X Y : Type} {f : (R : Type) → (X → Y → Option R) → Option R} (hf : Fac2 f) {R : Type} {K : X → Y → Option R} {r : R} (hK : f R K = some r) :
    ∃ x y, K x y = some r ∧ ∀ R' K', f R' K' = K' x y := by
  rcases hf with ⟨x, y, hf⟩ | hf
  · exact ⟨x, y, (hf _ _).symm.trans hK, hf⟩
  · rw [hf] at hK; cases hK

section
variable {h : List Blk} {R : Type} {r : R}

theorem buildSlice_heap {T : Tab TI} {t n : Nat} {ps : List (Nat × AV)} {K : DV → Option R} (hK : (buildSliceE T t n ps h fun v _ => match v with | .d x => K x | _ => none) = some r) :
    (∃ x, K x = some r ∧ ∀ h' R' (K' : AV → List Blk → Option R'), buildSliceE T t n ps h' K' = K' (.d x) h') := by
  unfold buildSliceE at hK ⊢
  split at hK
  · cases hK
  · rename_i ti ht
    simp only at hK
    cases hg : ti.tag <;> rw [hg] at hK <;> simp only at hK <;> try (cases hK; done)
    rename_i e
    split at hK
    · cases hK
    · rename_i te hte
      obtain ⟨e1, hK⟩ := cond_none hK
      unfold fillAny at hK ⊢
      split at hK
      · rename_i l hl
        simp only at hK
        cases hds : allD l with
        | none => rw [hds] at hK; cases hK
        | some ds =>
          rw [hds] at hK
          exact ⟨_, hK, fun h' R' K' => by simp only [hte, e1, cond_true, hl, hds]⟩
      · cases hK

theorem callQ_out {C : Ctx} {E : Ev} {g : FuncId} {as : List AV} {K : AV → Option R} (hK : callQ C E g as h K = some r) : ∃ v, K v = some r ∧ (∀ R' (K' : AV → List Blk → Option R'), callE C E g as h K' = K' v h) ∧ ∀ R' (K' : AV → Option R'), callQ C E g as h K' = K' v := by
  unfold callQ at hK
  cases hc : C.iso g with
  | false => rw [hc] at hK; cases hK
  | true =>
    rw [hc] at hK
    simp only [cond_true] at hK
    cases hm : mapO (freezeV h 4) as with
    | none => rw [hm] at hK; cases hK
    | some ds =>
      rw [hm] at hK
      simp only [Tr.run_eq, Option.bind_eq_some_iff] at hK
      obtain ⟨d, hd, hK⟩ := hK
      obtain ⟨d', h1, h2⟩ := fac_revealR.keep hK
      cases hq : (freshF g || (as.all isD || flatD d')) with
      | false => rw [hq] at h1; cases h1
      | true =>
        rw [hq] at h1
        refine ⟨_, h1, fun R' K' => ?_, fun R' K' => ?_⟩
        · unfold callE
          rw [hc, hm]
          simp only [cond_true, Tr.run_eq, hd, Option.bind_some]
          rw [h2, hq]
          rfl
        · unfold callQ
          rw [hc, hm]
          simp only [cond_true, Tr.run_eq, hd, Option.bind_some]
          rw [h2, hq]
          rfl

theorem opQ_out {C : Ctx} {E : Ev} {op : Op} {env : List (Nat × AV)} {K : AV → Option R} (hK : opQ C E op env h K = some r) : ∃ v, K v = some r ∧ ∀ R' (K' : AV → List Blk → Option R'), opE C E op env h K' = K' v h := by
  cases op <;> try (simp [opQ, opE] at hK; done)
  case move x => exact (fac_force (v := ev env x)).keep hK |>.imp fun v q => ⟨q.1, fun R' K' => q.2 R' fun v => K' v h⟩
  case assign x => exact (fac_force (v := ev env x)).keep hK |>.imp fun v q => ⟨q.1, fun R' K' => q.2 R' fun v => K' v h⟩
  case pick c a b => exact (fac_pick (c := ev env c) (a := ev env a) (b := ev env b)).keep hK |>.imp fun v q => ⟨q.1, fun R' K' => q.2 R' fun v => K' v h⟩
  case build t ps => exact (fac_build (T := C.T) (t := t) (ps := ps.toList.map fun (p : Nat × Operand) => (p.1, ev env p.2))).keep hK |>.imp fun v q => ⟨q.1, fun R' K' => q.2 R' fun v => K' v h⟩
  case buildSlice t n ps =>
    obtain ⟨x, h1, h2⟩ := buildSlice_heap (h := h) (K := fun d => K (.d d)) hK
    exact ⟨_, h1, fun R' K' => h2 h R' K'⟩
  case load t a => exact (fac_load (T := C.T) (h := h) (t := t) (a := ev env a)).keep hK |>.imp fun v q => ⟨q.1, fun R' K' => q.2 R' fun v => K' v h⟩
  case nilCheck x =>
    simp only [opQ, opE] at hK ⊢
    generalize ev env x = av at hK ⊢
    cases av with
    | d y => cases y <;> first | exact ⟨_, hK, fun _ _ => rfl⟩ | cases hK
    | ref b off =>
      obtain ⟨h1, h2⟩ := cond_none hK
      exact ⟨_, h2, fun _ _ => by simp only [h1, cond_true]⟩
    | fn f a b => exact ⟨_, hK, fun _ _ => rfl⟩
    | _ => cases hK
  case binOp op t x y m => exact (fac_bin (T := C.T) (h := h) (op := op) (t := t) (a := ev env x) (b := ev env y)).keep hK |>.imp fun v q => ⟨q.1, fun R' K' => q.2 R' fun v => K' v h⟩
  case unOp op t x => exact (fac_un (op := op) (a := ev env x)).keep hK |>.imp fun v q => ⟨q.1, fun R' K' => q.2 R' fun v => K' v h⟩
  case convert s d x =>
    simp only [opQ, opE] at hK ⊢
    obtain ⟨h1, hK⟩ := cond_none hK
    exact (fac_conv (T := C.T) (t := d) (a := ev env x)).keep hK |>.imp fun v q => ⟨q.1, fun R' K' => by rw [h1]; exact q.2 R' fun v => K' v h⟩
  case makeFunc f a b =>
    simp only [opQ, opE] at hK ⊢
    cases f <;> first | exact ⟨_, hK, fun _ _ => rfl⟩ | cases hK
  case slice t x lo hi mx => exact (fac_slice (T := C.T) (h := h) (t := t) (x := ev env x) (lo := lo.map (ev env)) (hi := hi.map (ev env)) (mx := mx.map (ev env))).keep hK |>.imp fun v q => ⟨q.1, fun R' K' => q.2 R' fun v => K' v h⟩
  case fieldAddr t x f => exact (fac_fieldAddr (T := C.T) (h := h) (t := t) (a := ev env x) (f := f)).keep hK |>.imp fun v q => ⟨q.1, fun R' K' => q.2 R' fun v => K' v h⟩
  case field t x f => exact (fac_field (T := C.T) (t := t) (a := ev env x) (f := f)).keep hK |>.imp fun v q => ⟨q.1, fun R' K' => q.2 R' fun v => K' v h⟩
  case indexAddr t x i => exact (fac_indexAddr (T := C.T) (h := h) (t := t) (a := ev env x) (i := ev env i)).keep hK |>.imp fun v q => ⟨q.1, fun R' K' => q.2 R' fun v => K' v h⟩
  case index t x i => exact (fac_index (T := C.T) (t := t) (a := ev env x) (i := ev env i)).keep hK |>.imp fun v q => ⟨q.1, fun R' K' => q.2 R' fun v => K' v h⟩
  case extract x i => exact (fac_extract (a := ev env x) (i := i)).keep hK |>.imp fun v q => ⟨q.1, fun R' K' => q.2 R' fun v => K' v h⟩
  case lookup t x i ok => exact (fac_lookup (T := C.T) (h := h) (t := t) (a := ev env x) (i := ev env i) (ok := ok)).keep hK |>.imp fun v q => ⟨q.1, fun R' K' => q.2 R' fun v => K' v h⟩
  case call c =>
    simp only [opQ] at hK
    cases hcal : c.callee with
    | invoke f n => rw [hcal] at hK; cases hK
    | value f =>
      rw [hcal] at hK
      simp only at hK
      cases hf : ev env f with
      | d y =>
        rw [hf] at hK
        cases y with
        | fn g a b =>
          obtain ⟨v, h1, h2, _⟩ := callQ_out hK
          refine ⟨v, h1, fun R' K' => ?_⟩
          simp only [opE, hcal, hf]
          exact h2 R' K'
        | _ => cases hK
      | _ => rw [hf] at hK; cases hK
    | builtin b =>
      rw [hcal] at hK
      simp only at hK
      have main : (opE C E (.call c) env h fun v _ => K v) = some r → b ≠ .append → b ≠ .clear → ∃ v, K v = some r ∧ ∀ R' (K' : AV → List Blk → Option R'), opE C E (.call c) env h K' = K' v h := by
        intro hK hb hb2
        simp only [opE, hcal] at hK ⊢
        generalize c.args.toList.map (ev env) = as at hK ⊢
        generalize c.argTypes.toList = ts at hK ⊢
        split at hK
        · rename_i x t _
          exact (fac_len (T := C.T) (h := h) (t := t) (a := x)).keep hK |>.imp fun v q => ⟨q.1, fun R' K' => q.2 R' fun v => K' v h⟩
        · exact absurd rfl hb
        · exact absurd rfl hb2
        · rename_i x l _
          exact (fac_minmax (mx := true) (l := l) (a := x)).keep hK |>.imp fun v q => ⟨q.1, fun R' K' => q.2 R' fun v => K' v h⟩
        · rename_i x l _
          exact (fac_minmax (mx := false) (l := l) (a := x)).keep hK |>.imp fun v q => ⟨q.1, fun R' K' => q.2 R' fun v => K' v h⟩
        · cases hK
      cases b <;> first | cases hK | exact main hK (by intro e; cases e) (by intro e; cases e)

theorem opQ_par {C : Ctx} {E : Ev} {op : Op} {env : List (Nat × AV)} {K : AV → Option R} (hK : opQ C E op env h K = some r) :
    ∃ v, K v = some r ∧ (∀ R' (K' : AV → List Blk → Option R'), opE C E op env h K' = K' v h) ∧ ∀ R' (K' : AV → Option R'), opQ C E op env h K' = K' v := by
  cases op
  case buildSlice t n ps =>
    obtain ⟨x, h1, h2⟩ := buildSlice_heap (h := h) (K := fun d => K (.d d)) hK
    exact ⟨_, h1, fun R' K' => h2 h R' K', fun R' K' => by simp only [opQ]; rw [h2]⟩
  case call c =>
    obtain ⟨v, h1, h2⟩ := opQ_out hK
    refine ⟨v, h1, h2, fun R' K' => ?_⟩
    simp only [opQ] at hK ⊢
    cases hcal : c.callee with
    | invoke f n => rw [hcal] at hK; cases hK
    | value f =>
      rw [hcal] at hK
      simp only at hK ⊢
      cases hf : ev env f with
      | d y =>
        rw [hf] at hK
        cases y with
        | fn g a b =>
          obtain ⟨v', j1, j2, j3⟩ := callQ_out hK
          have e1 := h2 _ (fun v h => some (v, h))
          simp only [opE, hcal, hf] at e1
          rw [j2] at e1
          cases e1
          exact j3 R' K'
        | _ => cases hK
      | _ => rw [hf] at hK; cases hK
    | builtin b =>
      rw [hcal] at hK
      simp only at hK ⊢
      cases b <;> first | (cases hK; done) | exact h2 R' fun v _ => K' v
  all_goals
    obtain ⟨v, h1, h2⟩ := opQ_out hK
    first
    | exact ⟨v, h1, h2, fun R' K' => h2 R' fun v _ => K' v⟩
    | (simp [opQ] at hK)

theorem evs_congr {env env' : List (Nat × AV)} : ∀ (l : List Operand), (∀ x ∈ l, ev env x = ev env' x) → l.map (ev env) = l.map (ev env')
  | [], _ => rfl
  | x :: l, q => by rw [List.map_cons, List.map_cons, q x (by simp), evs_congr l fun y hy => q y (by simp [hy])]

theorem parts_congr {env env' : List (Nat × AV)} : ∀ (l : List (Nat × Operand)), (∀ x ∈ l.map (·.2), ev env x = ev env' x) → (l.map fun p => (p.1, ev env p.2)) = l.map fun p => (p.1, ev env' p.2)
  | [], _ => rfl
  | x :: l, q => by rw [List.map_cons, List.map_cons, q x.2 (by simp), parts_congr l fun y hy => q y (by simp only [List.map_cons, List.mem_cons]; exact .inr hy)]

theorem opE_congr {C : Ctx} {E : Ev} {op : Op} {env env' : List (Nat × AV)} (q : ∀ x ∈ op.operands.toList, ev env x = ev env' x) (K : AV → List Blk → Option R) : opE C E op env h K = opE C E op env' h K := by
  cases op <;> simp only [opE] <;> try rfl
  case build t ps => rw [parts_congr ps.toList (by simpa [Op.operands] using q)]
  case buildSlice t n ps => rw [parts_congr ps.toList (by simpa [Op.operands] using q)]
  case makeFunc f a b =>
    rw [evs_congr a.toList fun x hx => q x (by simp [Op.operands] at hx ⊢; exact .inl hx), evs_congr b.toList fun x hx => q x (by simp [Op.operands] at hx ⊢; exact .inr hx)]
  case slice t x lo hi mx =>
    have e : ∀ (o : Option Operand), (∀ x ∈ o.toList, ev env x = ev env' x) → o.map (ev env) = o.map (ev env') := by
      intro o ho
      cases o with
      | none => rfl
      | some x => simp [ho x (by simp)]
    rw [q x (by simp [Op.operands]), e lo fun y hy => q y (by simp [Op.operands] at hy ⊢; simp [hy]), e hi fun y hy => q y (by simp [Op.operands] at hy ⊢; simp [hy]), e mx fun y hy => q y (by simp [Op.operands] at hy ⊢; simp [hy])]
  case call c =>
    rw [evs_congr c.args.toList fun x hx => q x (by simp [Op.operands, Call.operands] at hx ⊢; simp [hx])]
    cases hcal : c.callee with
    | value f => simp only []; rw [q f (by simp [Op.operands, Call.operands, hcal])]
    | _ => rfl
  case makeMap t res =>
    cases res with
    | none => rfl
    | some x => dsimp only; rw [q x (by simp [Op.operands])]
  all_goals (simp [Op.operands] at q; simp only [q])
end
end Go.AE

/- Operations that leave memory as it is: what they tell abides where more of memory is known. What an operation that turns memory may turn. -/
namespace Go.AE
open Go

/-- All that is known here is known there. -/
def Sub (h h' : List Blk) : Prop := ∀ b x, nth h b = some x → x ≠ .dead → nth h' b = some x

section
variable {h h' : List Blk} {R : Type} {r : R} {T : Tab TI}

theorem Sub.refl (h : List Blk) : Sub h h := fun _ _ q _ => q

theorem killB_nth : ∀ (ids : List Nat) (h : List Blk) (b : Nat) (x : Blk), nth (killB ids h) b = some x → x ≠ .dead → b ∉ ids ∧ nth h b = some x
  | [], _, _, _, q, _ => ⟨by simp, q⟩
  | i :: ids, h, b, x, q, hx => by
    obtain ⟨k1, k2⟩ := killB_nth ids (setNth h i .dead) b x q hx
    by_cases e : b = i
    · subst e
      have := nth_some_lt k2
      rw [nth_setNth_same (by rw [length_setNth] at this; exact this)] at k2
      cases k2; exact absurd rfl hx
    · rw [nth_setNth_other e] at k2
      exact ⟨by simp [e, k1], k2⟩

theorem killB_off : ∀ (ids : List Nat) (h : List Blk) (b : Nat), b ∉ ids → nth (killB ids h) b = nth h b
  | [], _, _, _ => rfl
  | i :: ids, h, b, hb => by
    simp only [List.mem_cons, not_or] at hb
    show nth (killB ids (setNth h i .dead)) b = _
    rw [killB_off ids _ b hb.2, nth_setNth_other hb.1]

theorem Sub.alive (hs : Sub h h') {b : Nat} (ha : aliveB h b = true) : aliveB h' b = true := by
  unfold aliveB at ha ⊢
  split at ha
  · rename_i e; rw [hs _ _ e (by simp)]
  · rename_i e; rw [hs _ _ e (by simp)]
  · cases ha

theorem Sub.nilS (hs : Sub h h') {a : AV} {x : Bool} (ha : nilS h a = some x) : AE.nilS h' a = some x := by
  cases a <;> simp only [AE.nilS] at ha ⊢ <;> try exact ha
  · split at ha
    · rename_i e; rw [hs _ _ e (by simp)]; exact ha
    · rename_i e; rw [hs _ _ e (by simp)]; exact ha
    · cases ha
  · split at ha
    · rename_i e; rw [hs _ _ e (by simp)]; exact ha
    · rename_i e; rw [hs _ _ e (by simp)]; exact ha
    · cases ha

theorem Sub.nilP (hs : Sub h h') {a : AV} {x : Bool} (ha : nilP h a = some x) : AE.nilP h' a = some x := by
  unfold AE.nilP at ha ⊢
  split at ha
  · exact ha
  · exact ha
  · split at ha
    · rename_i e; simp only [hs _ _ e (by simp)]; exact ha
    · rename_i e; simp only [hs _ _ e (by simp)]; exact ha
    · cases ha
  · cases ha

theorem mapO_mono {α β : Type} {f g : α → Option β} (q : ∀ x y, f x = some y → g x = some y) : ∀ (l : List α) (r : List β), mapO f l = some r → mapO g l = some r
  | [], _, h => h
  | x :: l, r, h => by
    simp only [mapO] at h ⊢
    split at h
    · rename_i y l' h1 h2
      rw [q x y h1, mapO_mono q l l' h2]; exact h
    · cases h

theorem Sub.freeze (hs : Sub h h') : ∀ (n : Nat) (v : AV) (d : DV), freezeV h n v = some d → freezeV h' n v = some d
  | 0, v, d, q => by cases v <;> exact q
  | n + 1, v, d, q => by
    have ih := fun x y => hs.freeze n x y
    have ihl := mapO_mono ih
    cases v <;> simp only [freezeV] at q ⊢ <;> try exact q
    case ref b off =>
      split at q
      · rename_i e; rw [hs _ _ e (by simp)]; exact q
      · rename_i cs e
        rw [hs _ _ e (by simp)]
        simp only [Option.map_eq_some_iff] at q ⊢
        obtain ⟨l, q1, q2⟩ := q
        exact ⟨l, ihl _ _ q1, q2⟩
      · cases q
    case row b off len cap sz ex =>
      split at q
      · rename_i e; rw [hs _ _ e (by simp)]; exact q
      · rename_i cs e
        rw [hs _ _ e (by simp)]
        obtain ⟨q0, q⟩ := cond_none q
        simp only [q0, cond_true]
        simp only [Option.map_eq_some_iff] at q ⊢
        obtain ⟨l, q1, q2⟩ := q
        exact ⟨l, ihl _ _ q1, q2⟩
      · cases q
    case grow b sz nn =>
      split at q
      · rename_i e; rw [hs _ _ e (by simp)]; exact q
      · rename_i cs e
        rw [hs _ _ e (by simp)]
        simp only [Option.map_eq_some_iff] at q ⊢
        obtain ⟨l, q1, q2⟩ := q
        exact ⟨l, ihl _ _ q1, q2⟩
      · cases q
    case agg l =>
      simp only [Option.map_eq_some_iff] at q ⊢
      obtain ⟨l', q1, q2⟩ := q
      exact ⟨l', ihl _ _ q1, q2⟩
    case tup l =>
      simp only [Option.map_eq_some_iff] at q ⊢
      obtain ⟨l', q1, q2⟩ := q
      exact ⟨l', ihl _ _ q1, q2⟩
    case fn f a b =>
      split at q
      · rename_i x y h1 h2
        rw [ihl _ _ h1, ihl _ _ h2]; exact q
      · cases q

theorem Sub.load (hs : Sub h h') {t : Nat} {a : AV} {K : AV → Option R} (hK : loadE T t h a K = some r) : loadE T t h' a K = some r := by
  unfold loadE at hK ⊢
  split at hK
  · cases hK
  · split at hK
    · exact hK
    · split at hK
      · rename_i e; simp only [hs _ _ e (by simp)]; exact hK
      · rename_i e; simp only [hs _ _ e (by simp)]; exact hK
      · cases hK
    · cases hK

theorem bind_mono {α : Type} {o o' : Option α} {K : α → Option R} (q : ∀ x, o = some x → o' = some x) (hK : o.bind K = some r) : o'.bind K = some r := by
  simp only [Tr.run_eq, Option.bind_eq_some_iff] at hK ⊢
  obtain ⟨x, h1, h2⟩ := hK
  exact ⟨x, q x h1, h2⟩

theorem Sub.eql (hs : Sub h h') {t : Nat} {a b : AV} {K : Bool → Option R} (hK : eqlE T t h a b K = some r) : eqlE T t h' a b K = some r := by
  unfold eqlE at hK ⊢
  split at hK
  · cases hK
  · rename_i ti ht
    try simp only at hK ⊢
    cases hg : ti.tag <;> rw [hg] at hK <;> simp only at hK ⊢ <;> try exact hK
    · rcases cond_some hK with ⟨e, hK⟩ | ⟨e, hK⟩
      · rw [e]; exact bind_mono (fun x q => hs.nilS q) hK
      · obtain ⟨e', hK⟩ := cond_none hK
        rw [e, e']; exact bind_mono (fun x q => hs.nilS q) hK
    · rcases cond_some hK with ⟨e, hK⟩ | ⟨e, hK⟩
      · rw [e]; exact bind_mono (fun x q => hs.nilP q) hK
      · obtain ⟨e', hK⟩ := cond_none hK
        rw [e, e']; exact bind_mono (fun x q => hs.nilP q) hK

theorem Sub.bin (hs : Sub h h') {op : BinOp} {t : Nat} {a b : AV} {K : AV → Option R} (hK : binE T op t h a b K = some r) : binE T op t h' a b K = some r := by
  unfold binE at hK ⊢
  split at hK
  · exact hK
  · split at hK
    · exact hs.eql hK
    · exact hs.eql hK
    · exact hK
    · cases hK

theorem Sub.slice (hs : Sub h h') {t : Nat} {x : AV} {lo hi mx : Option AV} {K : AV → Option R} (hK : sliceE T t x lo hi mx h K = some r) : sliceE T t x lo hi mx h' K = some r := by
  unfold sliceE at hK ⊢
  split at hK
  · cases hK
  · rename_i ti ht
    try simp only at hK ⊢
    cases hg : ti.tag <;> rw [hg] at hK <;> simp only at hK ⊢ <;> try exact hK
    · split at hK
      · cases hK
      · split at hK
        · exact hK
        · obtain ⟨e, hK⟩ := cond_none hK
          simp only [Bool.and_eq_true] at e
          rw [e.1, hs.alive e.2]; exact hK
        · split at hK
          · rename_i e; simp only [hs _ _ e (by simp)]; exact hK
          · rename_i e; simp only [hs _ _ e (by simp)]; exact hK
          · cases hK
        · cases hK
    · split at hK
      · cases hK
      · split at hK
        · exact hK
        · split at hK
          · rename_i e; simp only [hs _ _ e (by simp)]; exact hK
          · rename_i e; simp only [hs _ _ e (by simp)]; exact hK
          · cases hK
        · cases hK

theorem Sub.fieldAddr (hs : Sub h h') {t f : Nat} {x : AV} {K : AV → Option R} (hK : fieldAddrE T t x f h K = some r) : fieldAddrE T t x f h' K = some r := by
  unfold fieldAddrE at hK ⊢
  split at hK
  · cases hK
  · rename_i ti ht
    try simp only at hK ⊢
    cases hg : ti.tag <;> rw [hg] at hK <;> simp only at hK ⊢ <;> try exact hK
    split at hK
    · cases hK
    · split at hK
      · cases hK
      · rename_i tf htf
        rcases cond_some hK with ⟨e, hK⟩ | ⟨e, hK⟩
        · cases hK
        · rw [e]
          simp only [cond_false] at hK ⊢
          split at hK
          · exact hK
          · split at hK
            · cases hK
            · rename_i hne e
              have : nth h' _ = _ := hs _ _ e (by rintro rfl; exact hne rfl)
              simp only [this]
              exact hK
            · cases hK
          · cases hK

theorem Sub.indexAddr (hs : Sub h h') {t : Nat} {x i : AV} {K : AV → Option R} (hK : indexAddrE T t x i h K = some r) : indexAddrE T t x i h' K = some r := by
  unfold indexAddrE at hK ⊢
  cases ht : tget T t with
  | none => rw [ht] at hK; cases hK
  | some ti =>
    rw [ht] at hK
    cases i with
    | d d =>
      cases d with
      | int k i' =>
        simp only at hK ⊢
        cases hg : ti.tag <;> rw [hg] at hK <;> simp only at hK ⊢ <;> try exact hK
        · split at hK
          · cases hK
          · rename_i te hte
            cases x with
            | d x => cases x <;> exact hK
            | row b off n cap sz ex =>
              simp only at hK ⊢
              obtain ⟨e, hK⟩ := cond_none hK
              rw [e]
              simp only [cond_true] at hK ⊢
              obtain ⟨e, hK⟩ := cond_none hK
              simp only [Bool.and_eq_true] at e
              rw [e.1, hs.alive e.2]; exact hK
            | grow b sz nn =>
              simp only at hK ⊢
              split at hK
              · rename_i e; simp only [hs _ _ e (by simp)]; exact hK
              · rename_i e; simp only [hs _ _ e (by simp)]; exact hK
              · cases hK
            | _ => cases hK
        · split at hK
          · cases hK
          · obtain ⟨e, hK⟩ := cond_none hK
            rw [e]
            simp only [cond_true] at hK ⊢
            split at hK
            · exact hK
            · obtain ⟨e, hK⟩ := cond_none hK
              rw [hs.alive e]; exact hK
            · cases hK
      | _ => cases hK
    | _ => cases hK

theorem Sub.len (hs : Sub h h') {t : Nat} {x : AV} {K : AV → Option R} (hK : lenE T t x h K = some r) : lenE T t x h' K = some r := by
  unfold lenE at hK ⊢
  split at hK
  · cases hK
  · rename_i ti ht
    try simp only at hK ⊢
    cases hg : ti.tag <;> rw [hg] at hK <;> simp only at hK ⊢ <;> try exact hK
    split at hK
    · exact hK
    · obtain ⟨e, hK⟩ := cond_none hK
      rw [hs.alive e]; exact hK
    · split at hK
      · rename_i e; simp only [hs _ _ e (by simp)]; exact hK
      · rename_i e; simp only [hs _ _ e (by simp)]; exact hK
      · cases hK
    · cases hK
    · split at hK
      · split at hK
        · rename_i e; simp only [hs _ _ e (by simp)]; exact hK
        · cases hK
      · cases hK

theorem Sub.lookup (hs : Sub h h') {t : Nat} {x i : AV} {ok : Bool} {K : AV → Option R} (hK : lookupE T t x i ok h K = some r) : lookupE T t x i ok h' K = some r := by
  unfold lookupE at hK ⊢
  split at hK
  · cases hK
  · rename_i ti ht
    try simp only at hK ⊢
    cases hg : ti.tag <;> rw [hg] at hK <;> simp only at hK ⊢ <;> try (cases hK; done)
    split at hK
    · cases hK
    · split at hK
      · split at hK
        · rename_i e; simp only [hs _ _ e (by simp)]; exact hK
        · cases hK
      · cases hK

theorem Sub.callQ (hs : Sub h h') {C : Ctx} {E : Ev} {g : FuncId} {as : List AV} {K : AV → Option R} (hK : callQ C E g as h K = some r) : AE.callQ C E g as h' K = some r := by
  unfold AE.callQ at hK ⊢
  obtain ⟨e, hK⟩ := cond_none hK
  rw [e]
  simp only [cond_true] at hK ⊢
  split at hK
  · cases hK
  · rename_i ds hds
    rw [mapO_mono (hs.freeze 4) _ _ hds]; exact hK

theorem opQ_mono (hs : Sub h h') {C : Ctx} {E : Ev} {op : Op} {env : List (Nat × AV)} {K : AV → Option R} (hK : opQ C E op env h K = some r) : opQ C E op env h' K = some r := by
  cases op <;> try (simp [opQ, opE] at hK; done)
  case move x => exact hK
  case assign x => exact hK
  case pick c a b => exact hK
  case build t ps => exact hK
  case buildSlice t n ps =>
    obtain ⟨x, h1, h2⟩ := buildSlice_heap (h := h) (K := fun d => K (.d d)) hK
    simp only [opQ]
    rw [h2]; exact h1
  case load t a => exact hs.load hK
  case nilCheck x =>
    simp only [opQ, opE] at hK ⊢
    generalize ev env x = av at hK ⊢
    cases av with
    | ref b off =>
      obtain ⟨h1, h2⟩ := cond_none hK
      simp only [hs.alive h1, cond_true]; exact h2
    | d v => cases v <;> exact hK
    | _ => exact hK
  case binOp op t x y m => exact hs.bin hK
  case unOp op t x => exact hK
  case convert s d x => exact hK
  case makeFunc f a b => exact hK
  case slice t x lo hi mx => exact hs.slice hK
  case fieldAddr t x f => exact hs.fieldAddr hK
  case field t x f => exact hK
  case indexAddr t x i => exact hs.indexAddr hK
  case index t x i => exact hK
  case extract x i => exact hK
  case lookup t x i ok => exact hs.lookup hK
  case call c =>
    simp only [opQ] at hK ⊢
    cases hcal : c.callee with
    | invoke f n => rw [hcal] at hK; cases hK
    | value f =>
      rw [hcal] at hK
      simp only at hK ⊢
      cases hf : ev env f with
      | d y =>
        rw [hf] at hK
        cases y with
        | fn g a b => exact hs.callQ hK
        | _ => cases hK
      | _ => rw [hf] at hK; cases hK
    | builtin b =>
      rw [hcal] at hK
      simp only at hK ⊢
      have main : (opE C E (.call c) env h fun v _ => K v) = some r → b ≠ .append → b ≠ .clear → (opE C E (.call c) env h' fun v _ => K v) = some r := by
        intro hK hb hb2
        simp only [opE, hcal] at hK ⊢
        generalize c.args.toList.map (ev env) = as at hK ⊢
        generalize c.argTypes.toList = ts at hK ⊢
        split at hK
        · exact hs.len hK
        · exact absurd rfl hb
        · exact absurd rfl hb2
        · exact hK
        · exact hK
        · cases hK
      cases b <;> first | cases hK | exact main hK (by intro e; cases e) (by intro e; cases e)

theorem push_off {l : List Blk} {x : Blk} {b : Nat} (hb : b ≠ l.length) : nth (l ++ [x]) b = nth l b := by
  rcases Nat.lt_trichotomy b l.length with k | k | k
  · exact nth_append_lt k
  · exact absurd k hb
  · have e1 : nth l b = none := by
      cases e : nth l b with
      | none => rfl
      | some y => have := nth_some_lt e; omega
    rw [e1]
    cases e : nth (l ++ [x]) b with
    | none => rfl
    | some y => have := nth_some_lt e; simp at this; omega

theorem range_off {b : Nat} (hb : b ∉ List.range (max h.length h'.length)) : nth h' b = nth h b := by
  have hb : max h.length h'.length ≤ b := by simpa using hb
  have e : ∀ (l : List Blk), l.length ≤ b → nth l b = none := by
    intro l hl
    cases e : nth l b with
    | none => rfl
    | some y => have := nth_some_lt e; omega
  rw [e h (by omega), e h' (by omega)]

theorem append_touch {T : Tab TI} {on : Bool} {st xt : Nat} {s : AV} {x : DV} {v : AV} (hK : appendE T on st xt s (.d x) h (fun v h' => some (v, h')) = some (v, h')) {b : Nat} (hb : b ∉ rowOf s ++ [h.length]) : nth h' b = nth h b := by
  simp only [List.mem_append, List.mem_singleton, not_or] at hb
  obtain ⟨hb1, hb2⟩ := hb
  unfold appendE at hK
  split at hK
  · split at hK
    · split at hK
      · cases hK
      · rename_i te _
        obtain ⟨_, hK⟩ := cond_none hK
        cases x <;> simp only [srcE] at hK <;> try (cases hK; done)
        · obtain ⟨_, hK⟩ := cond_none hK
          simp only [settleE] at hK
          have ext : ∀ {b0 m sz n : Nat} {nn : Bool} {a c : Blk}, b ≠ b0 → extendE h b0 m sz nn a c n (fun v h' => some (v, h')) = some (v, h') → nth h' b = nth h b := by
            intro b0 m sz n nn a c hne hK
            unfold extendE at hK
            split at hK
            · obtain ⟨_, hK⟩ := cond_none hK
              simp only [Option.some.injEq, Prod.mk.injEq] at hK
              rw [← hK.2, push_off (by rw [length_setNth]; exact hb2), nth_setNth_other hne]
            · cases hK
          unfold appendTo at hK
          split at hK
          · rcases cond_some hK with ⟨_, hK⟩ | ⟨_, hK⟩
            · obtain ⟨_, hK⟩ := cond_none hK
              simp only [Option.some.injEq, Prod.mk.injEq] at hK
              rw [← hK.2, push_off hb2]
            · obtain ⟨_, hK⟩ := cond_none hK
              rcases cond_some hK with ⟨_, hK⟩ | ⟨_, hK⟩
              · simp only [Option.some.injEq, Prod.mk.injEq] at hK
                rw [← hK.2, push_off hb2]
              · rcases cond_some hK with ⟨_, hK⟩ | ⟨_, hK⟩
                · simp only [Option.some.injEq, Prod.mk.injEq] at hK
                  rw [← hK.2]
                · split at hK
                  · simp only [Option.some.injEq, Prod.mk.injEq] at hK
                    rw [← hK.2, push_off hb2]
                  · cases hK
          · simp only [rowOf, List.mem_singleton] at hb1
            split at hK
            · cases hK
            · obtain ⟨_, hK⟩ := cond_none hK
              rcases cond_some hK with ⟨_, hK⟩ | ⟨_, hK⟩
              · obtain ⟨blk', k1, _⟩ := fac_put.keep hK
                simp only [Option.some.injEq, Prod.mk.injEq] at k1
                rw [← k1.2, nth_setNth_other hb1]
              · obtain ⟨_, hK⟩ := cond_none hK
                split at hK
                · rcases cond_some hK with ⟨_, hK⟩ | ⟨_, hK⟩
                  · split at hK
                    · obtain ⟨_, hK⟩ := cond_none hK
                      simp only [Option.some.injEq, Prod.mk.injEq] at hK
                      rw [← hK.2, push_off hb2]
                    · cases hK
                  · obtain ⟨_, hK⟩ := cond_none hK
                    exact ext hb1 hK
                · cases hK
          · simp only [rowOf, List.mem_singleton] at hb1
            split at hK
            · obtain ⟨_, hK⟩ := cond_none hK
              exact ext hb1 hK
            · obtain ⟨_, hK⟩ := cond_none hK
              exact ext hb1 hK
            · cases hK
          · cases hK
    · cases hK
  · cases hK

theorem store_touch {T : Tab TI} {t : Nat} {a x : AV} (hK : storeE T t h a x (fun h' => some h') = some h') {b : Nat} (hb : ∀ o, a ≠ .ref b o) : nth h' b = nth h b := by
  unfold storeE at hK
  split at hK
  · cases hK
  · cases a with
    | ref b0 off =>
      simp only at hK
      split at hK
      · obtain ⟨_, hK⟩ := cond_none hK
        obtain ⟨blk', k1, _⟩ := fac_put.keep hK
        simp only [Option.some.injEq] at k1
        rw [← k1, nth_setNth_other (by rintro rfl; exact hb off rfl)]
      · cases hK
    | _ => cases hK

theorem touch_ok {C : Ctx} {E : Ev} {op : Op} {env : List (Nat × AV)} {v : AV} (hop : ∀ R (K : AV → List Blk → Option R), opE C E op env h K = K v h') {b : Nat} (hb : b ∉ touchE C op env h h') : nth h' b = nth h b := by
  have hK := hop _ (fun v h' => some (v, h'))
  unfold touchE at hb
  split at hb
  · rename_i t a x
    simp only [opE] at hK
    obtain ⟨h2, k1, k2⟩ := fac_store.keep hK
    simp only [Option.some.injEq, Prod.mk.injEq] at k1
    obtain ⟨_, rfl⟩ := k1
    refine store_touch (k2 _ fun h' => some h') ?_
    intro o e
    rw [e] at hb
    simp at hb
  · rename_i t
    simp only [opE] at hK
    split at hK
    · obtain ⟨_, hK⟩ := cond_none hK
      simp only [Option.some.injEq, Prod.mk.injEq] at hK
      rw [← hK.2, push_off (by simpa using hb)]
    · cases hK
  · rename_i t x
    simp only [opE, boxE] at hK
    split at hK
    · simp only [Option.some.injEq, Prod.mk.injEq] at hK
      rw [← hK.2, push_off (by simpa using hb)]
    · split at hK
      · simp only [Option.some.injEq, Prod.mk.injEq] at hK
        rw [← hK.2, push_off (by simpa using hb)]
      · cases hK
  · rename_i t n ps
    simp only [opE] at hK
    unfold buildSliceE at hK
    split at hK
    · cases hK
    · rename_i ti ht
      simp only at hK
      cases hg : ti.tag <;> rw [hg] at hK <;> simp only at hK <;> try (cases hK; done)
      split at hK
      · cases hK
      · obtain ⟨e1, hK⟩ := cond_none hK
        unfold fillAny at hK
        split at hK
        · simp only at hK
          split at hK
          · simp only [Option.some.injEq, Prod.mk.injEq] at hK
            rw [← hK.2]
          · simp only [Option.some.injEq, Prod.mk.injEq] at hK
            rw [← hK.2, push_off (by simpa using hb)]
        · cases hK
  · rename_i t l c
    simp only [opE] at hK
    unfold makeSliceE at hK
    split at hK
    · cases hK
    · rename_i ti ht
      simp only at hK
      cases hg : ti.tag <;> rw [hg] at hK <;> simp only at hK <;> try (cases hK; done)
      split at hK
      · cases hK
      · split at hK
        · obtain ⟨e1, hK⟩ := cond_none hK
          simp only [Option.some.injEq, Prod.mk.injEq] at hK
          rw [← hK.2, push_off (by simpa using hb)]
        · cases hK
  · rename_i c
    split at hb
    · rename_i hcal
      simp only [opE, hcal] at hK
      split at hb
      · rename_i s x e
        rw [e] at hK
        cases hts : c.argTypes.toList with
        | nil => rw [hts] at hK; cases hK
        | cons st l =>
          rw [hts] at hK
          cases l with
          | nil => cases hK
          | cons xt l =>
            cases l with
            | nil => exact append_touch hK hb
            | cons _ _ => cases hK
      · exact range_off hb
    · rename_i f hcal
      simp only [opE, hcal] at hK
      split at hb
      · rename_i g a bb e
        rw [e] at hK
        simp only at hK
        cases hi : C.iso g with
        | false =>
          rw [hi] at hb
          simp only [cond_false] at hb
          cases hd : (a.map AV.d ++ c.args.toList.map (ev env) ++ bb.map AV.d).all isD with
          | false => rw [hd] at hb; exact range_off hb
          | true =>
            rw [hd] at hb
            simp only [cond_true] at hb
            unfold callE at hK
            rw [hi] at hK
            simp only [cond_false] at hK
            rw [hd] at hK
            simp only [cond_true, Tr.run_eq, Option.bind_eq_some_iff, Option.some.injEq, Prod.mk.injEq] at hK
            obtain ⟨p, _, _, rfl⟩ := hK
            rcases Nat.lt_or_ge b h.length with k | k
            · exact nth_append_lt k
            · refine range_off (fun hin => hb ?_)
              rw [List.mem_drop_iff_getElem]
              refine ⟨b - h.length, ?_, ?_⟩
              · have : b < max h.length (h ++ List.map (renB (above h.length p.2.length)) (List.drop h.length p.2)).length := by simpa using hin
                simp only [List.length_range]; omega
              · simp; omega
        | true =>
          rw [hi] at hb
          simp only [cond_true] at hb
          unfold callE at hK
          rw [hi] at hK
          simp only [cond_true] at hK
          split at hK
          · cases hK
          · simp only [Tr.run_eq, Option.bind_eq_some_iff] at hK
            obtain ⟨d, _, hK⟩ := hK
            obtain ⟨d', k1, _⟩ := fac_revealR.keep hK
            rcases cond_some k1 with ⟨_, k1⟩ | ⟨_, k1⟩
            · simp only [Option.some.injEq, Prod.mk.injEq] at k1
              rw [← k1.2]
            · simp only [Option.some.injEq, Prod.mk.injEq] at k1
              rw [← k1.2, killB_off _ _ _ hb]
      · rename_i g a bb e
        rw [e] at hK
        simp only at hK
        cases hi : (!C.iso g && (!((a ++ c.args.toList.map (ev env) ++ bb).all isD) && calmF g)) with
        | false => rw [hi] at hb; exact range_off hb
        | true =>
          simp only [Bool.and_eq_true, Bool.not_eq_true'] at hi
          obtain ⟨i1, i2, i3⟩ := hi
          unfold callE at hK
          rw [i1, i2, i3] at hK
          simp only [cond_false, cond_true, Tr.run_eq, Option.bind_eq_some_iff, Option.some.injEq, Prod.mk.injEq] at hK
          obtain ⟨_, _, _, k⟩ := hK
          rw [k]
      · exact range_off hb
    · exact range_off hb
  · exact range_off hb
end
end Go.AE
