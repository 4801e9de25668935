/- The statement 'Rows.SteadyBoundsCardSaid': whatever the input, the law answers true, and its arguments read as they did. It stands on the law on data and on what the abstract machine is shown to tell of calls. No condition. -/
import Derived.Test.YtiicbenhhdbnoaaDoorM9
import Derived.Test.YtiicbenhhdbnoaaDoorRows
import Derived.Test.YtiicbenhhdbnoaaDoorCards
import Derived.Test.YtiicbenhhdbnoaaDoorTie
import Derived.ProofKit
import Derived.SevenTiedAt
import Derived.Stop.Joined
namespace Go.Proofs.YtiicbenhhdbnoaaDoor.steadyBounds
open Go.ChangeShapes Go.WideShapes Go.ChangeAt Go.RowKit Go.AE

theorem own : ownKnob Tryd.prog.godebug = none := by kernel_rfl
theorem laid : laidOutB Tryd.prog = true := by kernel_rfl
theorem tys : TysAre Tryd.prog Tryd.f4.params.toList [.slice (.int), .slice (.int)] := by
  rw [Tryd.params4]
  exact .cons (.slice Tryd.underlying22 (by kernel_rfl) (by decide) (.int Tryd.underlying3 (by kernel_rfl))) rfl (by kernel_rfl) (of_decide_eq_true (by kernel_rfl)) (.cons (.slice Tryd.underlying22 (by kernel_rfl) (by decide) (.int Tryd.underlying3 (by kernel_rfl))) rfl (by kernel_rfl) (of_decide_eq_true (by kernel_rfl)) (.nil))

set_option maxRecDepth 100000 in
theorem lifted (os : Os) (started : os.Started) (H : Type) (enc : TypeId × Value → H) :
    ReturnsInHanded {} Tryd.checked os 4 .any (fun w args => (Rows.steadyBoundsSpec.pre enc Tryd.prog Tryd.f4 Rows.steadyBoundsRow.domain false w args ∧ laidMetH Tryd.prog laidL w) ∧ sizedMet enc Tryd.prog Tryd.f4 (OpenSpec.ofChange Rows.steadyBoundsSpec) false w args)
      (Rows.steadyBoundsSpec.post enc Tryd.prog Tryd.f4 false true false false) := by
  refine returnsInHanded_of_change_and (C := Tryd.checked) (X := fun w _ => laidMetH Tryd.prog laidL w) (fun _ _ _ hh h => h.of_heap hh) own started (by kernel_rfl) Tryd.func4
    (ChangeSpec.witness_shaped (enc := enc) (C := Tryd.checked) (os := os) (X := fun w _ => laidMetH Tryd.prog laidL w) false (World.laidAll Tryd.prog os laidL) #[.slice none 0 0, .slice none 0 0] 8 (World.laidAll_os _ _ _)
      (laidL_shaped os) (by kernel_rfl) (by kernel_rfl) (by kernel_rfl) (laidL_lay os _)) ?_
  intro W base args ds gs before hval hW hcnd _ hL _
  refine law_step laid tys rfl (by kernel_rfl) Tryd.underlying4 (fun ds h => by obtain ⟨d, r, rfl, h1, e, r2, rfl, h2, rfl⟩ := h; obtain ⟨p, np, rfl, _⟩ := fits_ints h1; obtain ⟨q, nq, rfl, _⟩ := fits_ints h2; exact bounds_pure p q false np false nq) ?_ (globOK hL) hval hW
  obtain ⟨p, q, hA, hV, _⟩ := hW
  have hV : DataW.TrodVars enc Tryd.prog W (fun _ => true) [] gs q := hV
  obtain ⟨rfl, rfl⟩ := trodVars_none hV
  have hA : DataW.TrodAll enc Tryd.prog W 0 (fun _ => true) true Tryd.f4.params.toList args.toList ds p := hA
  rw [Tryd.params4] at hA
  obtain ⟨v0, vs0, d0, ds0, p0, q0, _, rfl, _, _, r0⟩ := trodAll_cons hA
  obtain ⟨v1, vs1, d1, ds1, p1, q1, _, rfl, _, _, r1⟩ := trodAll_cons r0
  obtain ⟨_, rfl, _⟩ := trodAll_nil r1
  exact ⟨rfl, rfl, rfl⟩

theorem over : Rows.steadyBoundsRow.holds Tryd.pinned (OpenSpec.ofChange Rows.steadyBoundsSpec) :=
  OpenClaim.holds_of_wide 4 Tryd.f4 rfl rfl rfl rfl rfl rfl rfl ⟨rfl, rfl, rfl, rfl, rfl⟩ rfl rfl rfl rfl rfl (by kernel_rfl) Tryd.func4 (by kernel_rfl)
    (of_decide_eq_true (by kernel_rfl)) (by unfold Func.isWrapper; first | (rw [if_pos (by decide +kernel)]; kernel_rfl) | (rw [if_neg (by decide +kernel)]; exact ⟨rfl, rfl⟩))
    (fun os started H enc _ => lifted os started H enc)

/-- The statement. -/
theorem proved : Rows.SteadyBoundsCardSaid :=
  Claim7.holds_tied_plain_at .later [] [.data, .data] true (true, "e34d19dafe10ffa588467c8e8296d6e41e4122fd18b2edf415e9aff0091469e3") false over (fun _ h => by cases h) (by kernel_rfl) (fun _ h => by cases h) steadyBounds_row_tie rfl ⟨rfl, rfl⟩ (by kernel_rfl) rfl
    (fun f fn hf hfn => by
      obtain rfl : f = 4 := Option.some.inj ((show Tryd.prog.funcNamed "girouette/girouettelaw09.SteadyBounds" = some 4 by kernel_rfl).symm.trans hf) |>.symm
      obtain rfl : fn = Tryd.f4 := (Option.some.inj (Tryd.func4.symm.trans hfn)).symm
      exact ⟨by kernel_rfl, fun j t ht => by
        rw [Tryd.params4] at ht
        have hm : t ∈ [22] := by simpa using Array.mem_of_getElem? ht
        have hall : ([22].all fun u => !Tryd.prog.wantsStandIn u) = true := by kernel_rfl
        exact (show Tryd.prog.wantsStandIn t = false by simpa using List.all_eq_true.1 hall t hm)⟩)
    (by kernel_rfl)
#print axioms proved
end Go.Proofs.YtiicbenhhdbnoaaDoor.steadyBounds
