/- For every two ints, the program's HasLane gives what the reference's gives: no condition. -/
import Derived.Test.YtinjochelhmkjaaPFnExactHasLanex1
set_option linter.unusedVariables false
set_option linter.unusedSimpArgs false
namespace Go.Proofs.Ytinjochelhmkjaa.Pure
open Go.RowKit Go.Proofs.Ytinjochelhmkjaa.PFnExactHasLane Go.Proofs.YtinjochelhmkjaaW.PrintWords Go.Proofs.YtinjochelhmkjaaW.PrintLast

theorem same_in (a b c : Int) : spec_l01In.f a b c = impl_within.f a b c := rfl
theorem in_some (a b c : Int) : ∃ r, impl_within.f a b c = some r ∧ (r = true → b ≤ a) := by
  unfold impl_within.f
  split
  · exact ⟨_, rfl, fun _ => by assumption⟩
  · exact ⟨_, rfl, fun h => by cases h⟩
theorem FnExactHasLane : laws_FnExactHasLane.Pure := by
  intro a b _ _
  unfold laws_FnExactHasLane.f spec_HasLane.f impl_HasLane.f spec_IsMask.f impl_IsMask.f impl_isLane.f
  simp only [same_in]
  obtain ⟨r, h1, _⟩ := in_some a 0 255
  obtain ⟨q, h2, hq⟩ := in_some b 0 7
  rw [h1, h2]
  cases r <;> simp
  cases q <;> simp
  have := hq rfl
  simp [this]

end Go.Proofs.Ytinjochelhmkjaa.Pure
