/- For every program of at most 2^20 instructions, the program's ProgramOk gives what the reference's gives and leaves the argument as it was; of a longer one the law asks nothing. -/
import Derived.Test.YtomehbmijdjjfaaHPFnExactProgramOkStmt
import Derived.Test.YtomehbmijdjjfaaAid
import Derived.Test.YtomehbmijdjjfaaLoopAid
import Derived.Test.YtomehbmijdjjfaaListSHP
import Derived.Test.YtomehbmijdjjfaaInsOkHP
import Derived.Test.YtomehbmijdjjfaaProgOkHP
set_option linter.unusedVariables false
set_option linter.unusedSimpArgs false
namespace Go.Proofs.Ytomehbmijdjjfaa.Pure
open Go.RowKit Go.Proofs.Ytomehbmijdjjfaa.HP Go.Proofs.YtomehbmijdjjfaaW.PrintWords Go.Proofs.YtomehbmijdjjfaaW.PrintLast Go.Proofs.Ytomehbmijdjjfaa.Aid

theorem FnExactProgramOk : laws_FnExactProgramOk.PureH := by
  intro l h8 _
  by_cases hl : l.length ≤ 1048576
  · obtain ⟨K1, h1⟩ := toInsS_ev l hl
    obtain ⟨K2, h2⟩ := specProgOk_ev (l.map conv) (by simpa using hl)
    obtain ⟨K3, h3⟩ := eqInsS_same (l.map conv) (by simpa using hl)
    refine ⟨K1 + K2 + K3, ?_⟩
    have e1 := h1 (K1 + K2 + K3) (by omega)
    have e2 := h2 (K1 + K2 + K3) (by omega)
    have e3 := h3 (K1 + K2 + K3) (by omega)
    unfold laws_FnExactProgramOk.f
    rw [szInsS_small l 1048576 (by omega) (by omega) (by omega), if_pos (by omega), Option.bind_some, if_neg (by omega)]
    simp only [e1, e2, e3, progOk_val, Option.bind_some, if_true]
    simp
  · refine ⟨0, ?_⟩
    unfold laws_FnExactProgramOk.f
    rw [szInsS_small l 1048576 (by omega) (by omega) (by omega), if_neg (by omega), Option.bind_some, if_pos (by omega)]

end Go.Proofs.Ytomehbmijdjjfaa.Pure
