/- For every int, the program's WrapWord gives what the reference's gives: no condition. -/
import Derived.Test.YtinjochelhmkjaaPFnExactWrapWordx1
import Derived.Test.YtinjochelhmkjaaAid
set_option linter.unusedVariables false
set_option linter.unusedSimpArgs false
namespace Go.Proofs.Ytinjochelhmkjaa.Pure
open Go.RowKit Go.Proofs.Ytinjochelhmkjaa.PFnExactWrapWord Go.Proofs.YtinjochelhmkjaaW.PrintWords Go.Proofs.YtinjochelhmkjaaW.PrintLast Go.Proofs.Ytinjochelhmkjaa.Aid

theorem FnExactWrapWord : laws_FnExactWrapWord.Pure := by
  intro a h
  have hb := bd h
  unfold laws_FnExactWrapWord.f spec_WrapWord.f impl_WrapWord.f
  simp only [Option.bind_some]
  rw [and_65535, mod_word]
  simp

end Go.Proofs.Ytinjochelhmkjaa.Pure
