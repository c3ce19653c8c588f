/- For every instruction of four ints and every size, the program's InsOk gives what the reference's gives: no condition. -/
import Derived.Test.YteccjpcplceppaaHFnExactInsOkStmt
import Derived.Test.YteccjpcplceppaaInsOk
set_option linter.unusedVariables false
set_option linter.unusedSimpArgs false
namespace Go.Proofs.Yteccjpcplceppaa.Pure
open Go.RowKit Go.Proofs.Yteccjpcplceppaa.H Go.Proofs.YteccjpcplceppaaW.PrintWords Go.Proofs.YteccjpcplceppaaW.PrintLast

theorem FnExactInsOk : laws_FnExactInsOk.PureH := by
  intro a b c d s _ _ _ _ _
  refine ⟨0 + 2, ?_⟩
  unfold laws_FnExactInsOk.f laws_toIns.f
  simp only [Option.bind_some, specInsOk_val, insOk_val]
  simp

end Go.Proofs.Yteccjpcplceppaa.Pure
