/- For every instruction of four ints, the program's ReadsRegs gives what the reference's gives, in memory that it shares with no other result: no condition. -/
import Derived.Test.YtomehbmijdjjfaaHRFnExactReadsRegsStmt
import Derived.Test.YtomehbmijdjjfaaAid
import Derived.Test.YtomehbmijdjjfaaLoopAid
import Derived.Test.YtomehbmijdjjfaaEqIHR
import Derived.Test.YtomehbmijdjjfaaMarkIHR
import Derived.Test.YtomehbmijdjjfaaRegsHR
set_option linter.unusedVariables false
set_option linter.unusedSimpArgs false
namespace Go.Proofs.Ytomehbmijdjjfaa.Pure
open Go.RowKit Go.Proofs.Ytomehbmijdjjfaa.HR Go.Proofs.YtomehbmijdjjfaaW.PrintWords Go.Proofs.YtomehbmijdjjfaaW.PrintLast Go.Proofs.Ytomehbmijdjjfaa.Aid

theorem FnExactReadsRegs : laws_FnExactReadsRegs.PureH := by
  intro a b c d _ _ _ _
  have hlen : (srt (regsOf a b c d)).length ≤ 3 := Nat.le_trans (srt_len _) (regsOf_len _ _ _ _)
  obtain ⟨K1, h1⟩ := specRegs_ev a b c d
  obtain ⟨K2, h2⟩ := eqIntS_same (srt (regsOf a b c d)) (by omega)
  obtain ⟨K3, h3⟩ := markIntS_ev (srt (regsOf a b c d)) (by omega)
  obtain ⟨K4, h4⟩ := heldIntS_ev (srt (regsOf a b c d)).length (by omega)
  refine ⟨(K1 + K2 + K3 + K4) + 3, ?_⟩
  have e1 := h1 (K1 + K2 + K3 + K4 + 3) (by omega)
  have e2 := h2 (K1 + K2 + K3 + K4 + 3) (by omega)
  have e3 := h3 (K1 + K2 + K3 + K4 + 3) (by omega)
  have e4 := h4 (K1 + K2 + K3 + K4 + 3) (by omega)
  unfold laws_FnExactReadsRegs.f laws_toIns.f
  simp only [implRegs_val, e1, e2, e3, e4, Option.bind_some, if_true]
  rw [if_neg (by omega), if_neg (by omega)]

end Go.Proofs.Ytomehbmijdjjfaa.Pure
