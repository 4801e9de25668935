/- The statement 'Rows.RoundsMakesSaid': whatever the input, the law answers true, and its arguments read as they did. It stands on the law on data and on what the abstract machine is shown to tell of calls. No condition. -/
import Derived.Test.YtigijjinlalnaaaK5
import Derived.Test.YtigijjinlalnaaaRows
namespace Go.Proofs.Ytigijjinlalnaaa.roundsMakes
open Go.ChangeShapes Go.WideShapes Go.ChangeAt Go.RowKit Go.AE

theorem own : ownKnob Try.prog.godebug = none := by kernel_rfl
theorem laid : laidOutB Try.prog = true := by kernel_rfl
theorem tys : TysAre Try.prog Try.f9.params.toList [.int] := by
  rw [Try.params9]
  exact .cons (.int Try.underlying3 (by kernel_rfl)) rfl (by kernel_rfl) (of_decide_eq_true (by kernel_rfl)) (.nil)

set_option maxRecDepth 100000 in
theorem lifted (os : Os) (started : os.Started) (H : Type) (enc : TypeId × Value → H) :
    ReturnsInHanded {} Try.checked os 9 .any (Rows.roundsMakesSpec.pre6 enc Try.prog Try.f9 Rows.roundsMakesRow.domain false) (Rows.roundsMakesSpec.post enc Try.prog Try.f9 false true false false) := by
  refine returnsInHanded_of_change (C := Try.checked) own started (by kernel_rfl) Try.func9
    (ChangeSpec.witness6 (enc := enc) (C := Try.checked) false ⟨#[], #[.int .i64 0], []⟩ 8 (by kernel_rfl) (by kernel_rfl) (by kernel_rfl) (by kernel_rfl)) ?_
  intro W base args ds gs before hval hW hcnd _
  refine law_step laid tys rfl (by kernel_rfl) Try.underlying4 (fun ds h => by obtain ⟨d, r, rfl, h1, rfl⟩ := h; obtain ⟨n, rfl, _⟩ := fits_int h1; exact makes_pure n) ?_ (fun _ _ e => by cases e) hval hW
  obtain ⟨p, q, hA, hV, _⟩ := hW
  have hV : DataW.TrodVars enc Try.prog W (fun _ => true) [] gs q := hV
  obtain ⟨rfl, rfl⟩ := trodVars_none hV
  have hA : DataW.TrodAll enc Try.prog W 0 (fun _ => true) true Try.f9.params.toList args.toList ds p := hA
  rw [Try.params9] at hA
  obtain ⟨v0, vs0, d0, ds0, p0, q0, _, rfl, _, _, r0⟩ := trodAll_cons hA
  obtain ⟨_, rfl, _⟩ := trodAll_nil r0
  exact ⟨rfl, rfl, rfl⟩

theorem over : Rows.roundsMakesRow.holds Try.pinned (OpenSpec.ofChange Rows.roundsMakesSpec) :=
  OpenClaim.holds_of_wide 9 Try.f9 rfl rfl rfl rfl rfl rfl rfl ⟨rfl, rfl, rfl, rfl, rfl⟩ rfl rfl rfl rfl rfl (by kernel_rfl) Try.func9 (by kernel_rfl)
    (of_decide_eq_true (by kernel_rfl)) (by unfold Func.isWrapper; first | (rw [if_pos (by decide +kernel)]; kernel_rfl) | (rw [if_neg (by decide +kernel)]; exact ⟨rfl, rfl⟩))
    (fun os started H enc _ => lifted os started H enc)

/-- The statement. -/
theorem proved : Rows.RoundsMakesSaid :=
  over
#print axioms proved
end Go.Proofs.Ytigijjinlalnaaa.roundsMakes
