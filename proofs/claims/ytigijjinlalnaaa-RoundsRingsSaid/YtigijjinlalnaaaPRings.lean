/- The statement 'Rows.RoundsRingsSaid': whatever the input, the law answers true, and its arguments read as they did. It stands on the law on data and on what the abstract machine is shown to tell of calls. No condition. -/
import Derived.Test.YtigijjinlalnaaaK6
import Derived.Test.YtigijjinlalnaaaRows
namespace Go.Proofs.Ytigijjinlalnaaa.roundsRings
open Go.ChangeShapes Go.WideShapes Go.ChangeAt Go.RowKit Go.AE

theorem own : ownKnob Try.prog.godebug = none := by kernel_rfl
theorem laid : laidOutB Try.prog = true := by kernel_rfl
theorem tys : TysAre Try.prog Try.f3.params.toList [.int, .slice (.slice (.arr 2 (.int))), .slice (.int)] := by
  rw [Try.params3]
  exact .cons (.int Try.underlying3 (by kernel_rfl)) rfl (by kernel_rfl) (of_decide_eq_true (by kernel_rfl)) (.cons (.slice Try.underlying22 (by kernel_rfl) (by decide) (.slice Try.underlying25 (by kernel_rfl) (by decide) (.arr Try.underlying36 (by kernel_rfl) (.int Try.underlying3 (by kernel_rfl))))) rfl (by kernel_rfl) (of_decide_eq_true (by kernel_rfl)) (.cons (.slice Try.underlying23 (by kernel_rfl) (by decide) (.int Try.underlying3 (by kernel_rfl))) rfl (by kernel_rfl) (of_decide_eq_true (by kernel_rfl)) (.nil)))

set_option maxRecDepth 100000 in
theorem lifted (os : Os) (started : os.Started) (H : Type) (enc : TypeId × Value → H) :
    ReturnsInHanded {} Try.checked os 3 .any (Rows.roundsRingsSpec.pre6 enc Try.prog Try.f3 Rows.roundsRingsRow.domain false) (Rows.roundsRingsSpec.post enc Try.prog Try.f3 false true false false) := by
  refine returnsInHanded_of_change (C := Try.checked) own started (by kernel_rfl) Try.func3
    (ChangeSpec.witness6 (enc := enc) (C := Try.checked) false ⟨#[], #[.int .i64 0, .slice none 0 0, .slice none 0 0], []⟩ 8 (by kernel_rfl) (by kernel_rfl) (by kernel_rfl) (by kernel_rfl)) ?_
  intro W base args ds gs before hval hW hcnd _
  refine law_step laid tys rfl (by kernel_rfl) Try.underlying4 (fun ds h => by obtain ⟨d, r, rfl, h1, d2, r2, rfl, h2, d3, r3, rfl, h3, rfl⟩ := h; obtain ⟨n, rfl, _⟩ := fits_int h1; obtain ⟨D, R, nl, hD, rfl⟩ := fits_rows3 h2; obtain ⟨s, z, rfl, _⟩ := fits_ints h3; exact rings_pure n D R nl hD s z) ?_ (fun _ _ e => by cases e) hval hW
  obtain ⟨p, q, hA, hV, _⟩ := hW
  have hV : DataW.TrodVars enc Try.prog W (fun _ => true) [] gs q := hV
  obtain ⟨rfl, rfl⟩ := trodVars_none hV
  have hA : DataW.TrodAll enc Try.prog W 0 (fun _ => true) true Try.f3.params.toList args.toList ds p := hA
  rw [Try.params3] at hA
  obtain ⟨v0, vs0, d0, ds0, p0, q0, _, rfl, _, _, r0⟩ := trodAll_cons hA
  obtain ⟨v1, vs1, d1, ds1, p1, q1, _, rfl, _, _, r1⟩ := trodAll_cons r0
  obtain ⟨v2, vs2, d2, ds2, p2, q2, _, rfl, _, _, r2⟩ := trodAll_cons r1
  obtain ⟨_, rfl, _⟩ := trodAll_nil r2
  exact ⟨rfl, rfl, rfl⟩

theorem over : Rows.roundsRingsRow.holds Try.pinned (OpenSpec.ofChange Rows.roundsRingsSpec) :=
  OpenClaim.holds_of_wide 3 Try.f3 rfl rfl rfl rfl rfl rfl rfl ⟨rfl, rfl, rfl, rfl, rfl⟩ rfl rfl rfl rfl rfl (by kernel_rfl) Try.func3 (by kernel_rfl)
    (of_decide_eq_true (by kernel_rfl)) (by unfold Func.isWrapper; first | (rw [if_pos (by decide +kernel)]; kernel_rfl) | (rw [if_neg (by decide +kernel)]; exact ⟨rfl, rfl⟩))
    (fun os started H enc _ => lifted os started H enc)

/-- The statement. -/
theorem proved : Rows.RoundsRingsSaid :=
  over
#print axioms proved
end Go.Proofs.Ytigijjinlalnaaa.roundsRings
