/- For every int, the program's FormatInt gives what the reference's gives. -/
import Derived.Test.YtomehbmijdjjfaaDoorHQFnExactFormatIntStmt
import Derived.Test.YtomehbmijdjjfaaDoorAid
import Derived.Test.YtomehbmijdjjfaaDoorLoopAid
import Derived.Test.YtomehbmijdjjfaaDoorFmtHQ
set_option linter.unusedVariables false
set_option linter.unusedSimpArgs false
namespace Go.Proofs.YtomehbmijdjjfaaDoor.Pure
open Go.RowKit Go.Proofs.YtomehbmijdjjfaaDoor.HQ Go.Proofs.YtomehbmijdjjfaaDoorW.PrintWords Go.Proofs.YtomehbmijdjjfaaDoorW.PrintLast Go.Proofs.YtomehbmijdjjfaaDoor.Aid

theorem FnExactFormatInt : laws_FnExactFormatInt.PureH := by
  intro n hn
  have hb := bd hn
  obtain ⟨K, h⟩ := specFmt_ev hb.1 hb.2
  refine ⟨K, ?_⟩
  have e := h K (Nat.le_refl _)
  simp only at e
  unfold laws_FnExactFormatInt.f
  rw [e, Option.bind_some, fmtInt_val hb.1 hb.2, Option.bind_some, if_pos rfl]

end Go.Proofs.YtomehbmijdjjfaaDoor.Pure
