/- For every instruction of four ints, the program's WritesReg gives what the reference's gives: no condition. -/
import Derived.Test.YteccjpcplceppaaHFnExactWritesRegStmt
set_option linter.unusedVariables false
set_option linter.unusedSimpArgs false
namespace Go.Proofs.Yteccjpcplceppaa.Pure
open Go.RowKit Go.Proofs.Yteccjpcplceppaa.H Go.Proofs.YteccjpcplceppaaW.PrintWords Go.Proofs.YteccjpcplceppaaW.PrintLast

theorem FnExactWritesReg : laws_FnExactWritesReg.PureH := by
  intro a b c d _ _ _ _
  have e : ∀ x y z, spec_l01In.f x y z = impl_within.f x y z := fun _ _ _ => rfl
  have s : ∀ x y z, ∃ r, impl_within.f x y z = some r := fun x y z => by unfold impl_within.f; split <;> exact ⟨_, rfl⟩
  unfold laws_FnExactWritesReg.f laws_toIns.f spec_WritesReg.f impl_WritesReg.f
  obtain ⟨r, h1⟩ := s a 1 9
  simp only [e, h1, Option.bind_some]
  cases r <;> simp
  by_cases h : a = 13 <;> simp [h]

end Go.Proofs.Yteccjpcplceppaa.Pure
