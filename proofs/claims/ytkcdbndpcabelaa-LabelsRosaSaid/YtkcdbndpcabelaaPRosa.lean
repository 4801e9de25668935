/- The statement 'Rows.LabelsRosaSaid': whatever the input, the law answers true, and its arguments read as they did. It stands on the law on data and on what the abstract machine is shown to tell of calls. No condition. -/
import Derived.Test.YtkcdbndpcabelaaM7
import Derived.Test.YtkcdbndpcabelaaRows
namespace Go.Proofs.Ytkcdbndpcabelaa.labelsRosa
open Go.ChangeShapes Go.WideShapes Go.ChangeAt Go.RowKit Go.AE

theorem own : ownKnob Try.prog.godebug = none := by kernel_rfl
theorem laid : laidOutB Try.prog = true := by kernel_rfl
theorem tys : TysAre Try.prog Try.f10.params.toList [.int, .slice (.arr 2 (.int))] := by
  rw [Try.params10]
  exact .cons (.int Try.underlying3 (by kernel_rfl)) rfl (by kernel_rfl) (of_decide_eq_true (by kernel_rfl)) (.cons (.slice Try.underlying22 (by kernel_rfl) (by decide) (.arr Try.underlying57 (by kernel_rfl) (.int Try.underlying3 (by kernel_rfl)))) rfl (by kernel_rfl) (of_decide_eq_true (by kernel_rfl)) (.nil))

set_option maxRecDepth 100000 in
theorem lifted (os : Os) (started : os.Started) (H : Type) (enc : TypeId × Value → H) :
    ReturnsInHanded {} Try.checked os 10 .any (Rows.labelsRosaSpec.pre6 enc Try.prog Try.f10 Rows.labelsRosaRow.domain false) (Rows.labelsRosaSpec.post enc Try.prog Try.f10 false true false false) := by
  refine returnsInHanded_of_change (C := Try.checked) own started (by kernel_rfl) Try.func10
    (ChangeSpec.witness6 (enc := enc) (C := Try.checked) false ⟨#[], #[.int .i64 0, .slice none 0 0], []⟩ 8 (by kernel_rfl) (by kernel_rfl) (by kernel_rfl) (by kernel_rfl)) ?_
  intro W base args ds gs before hval hW hcnd _
  refine law_step laid tys rfl (by kernel_rfl) Try.underlying4 (fun ds h => by obtain ⟨d, r, rfl, h1, d2, r2, rfl, h2, rfl⟩ := h; obtain ⟨n, rfl, _⟩ := fits_int h1; obtain ⟨E, nl, rfl, _, hE, _⟩ := fits_pairs h2; exact rosa_pure n E false nl hE) ?_ (fun _ _ e => by cases e) hval hW
  obtain ⟨p, q, hA, hV, _⟩ := hW
  have hV : DataW.TrodVars enc Try.prog W (fun _ => true) [] gs q := hV
  obtain ⟨rfl, rfl⟩ := trodVars_none hV
  have hA : DataW.TrodAll enc Try.prog W 0 (fun _ => true) true Try.f10.params.toList args.toList ds p := hA
  rw [Try.params10] at hA
  obtain ⟨v0, vs0, d0, ds0, p0, q0, _, rfl, _, _, r0⟩ := trodAll_cons hA
  obtain ⟨v1, vs1, d1, ds1, p1, q1, _, rfl, _, _, r1⟩ := trodAll_cons r0
  obtain ⟨_, rfl, _⟩ := trodAll_nil r1
  exact ⟨rfl, rfl, rfl⟩

theorem over : Rows.labelsRosaRow.holds Try.pinned (OpenSpec.ofChange Rows.labelsRosaSpec) :=
  OpenClaim.holds_of_wide 10 Try.f10 rfl rfl rfl rfl rfl rfl rfl ⟨rfl, rfl, rfl, rfl, rfl⟩ rfl rfl rfl rfl rfl (by kernel_rfl) Try.func10 (by kernel_rfl)
    (of_decide_eq_true (by kernel_rfl)) (by unfold Func.isWrapper; first | (rw [if_pos (by decide +kernel)]; kernel_rfl) | (rw [if_neg (by decide +kernel)]; exact ⟨rfl, rfl⟩))
    (fun os started H enc _ => lifted os started H enc)

/-- The statement. -/
theorem proved : Rows.LabelsRosaSaid :=
  over
#print axioms proved
end Go.Proofs.Ytkcdbndpcabelaa.labelsRosa
