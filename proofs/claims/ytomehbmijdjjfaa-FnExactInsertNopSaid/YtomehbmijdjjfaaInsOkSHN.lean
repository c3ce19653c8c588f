/- Whether an instruction is valid, as the reference's cases tell it. No condition. -/
import Derived.Test.YtomehbmijdjjfaaInsOkIHN
import Derived.Test.YtomehbmijdjjfaaHN2
set_option linter.unusedVariables false
set_option linter.unusedSimpArgs false
namespace Go.Proofs.Ytomehbmijdjjfaa.HN
open Go Go.RowKit Go.Proofs.YtomehbmijdjjfaaW.PrintWords Go.Proofs.YtomehbmijdjjfaaW.PrintLast Go.Proofs.Ytomehbmijdjjfaa.Aid
theorem l01In_val (a b c : Int) : spec_l01In.f a b c = some (inB a b c) := by
  unfold spec_l01In.f inB
  by_cases h : b ≤ a
  · rw [if_pos (show a ≥ b from h)]; simp [h]
  · rw [if_neg (show ¬ a ≥ b from h)]; simp [h]
theorem l04Reg_val (a : Int) : spec_l04Reg.f a = some (inB a 0 3) := by unfold spec_l04Reg.f; rw [l01In_val]; rfl
theorem specIsWord_val (a : Int) : spec_IsWord.f a = some (inB a 0 65535) := by unfold spec_IsWord.f; rw [l01In_val]; rfl
theorem specInsOk_val (op a b c s : Int) (k : Nat) : spec_InsOk.f (k + 2) op a b c s = some (insOkB op a b c s) := by
  unfold spec_InsOk.f insOkB
  rw [l01In_val, Option.bind_some]
  cases inB s 0 32
  · rfl
  · rw [if_pos rfl]
    simp only [spec_InsOk.j0, spec_InsOk.j1, l01In_val, l04Reg_val, specIsWord_val, Option.bind_some, Bool.true_and]
    by_cases e0 : op = 0
    · subst e0; by_cases ha : a = 0 <;> by_cases hb : b = 0 <;> simp [ha, hb]
    by_cases e12 : op = 12
    · subst e12; by_cases ha : a = 0 <;> by_cases hb : b = 0 <;> simp [ha, hb]
    by_cases e16 : op = 16
    · subst e16; by_cases ha : a = 0 <;> by_cases hb : b = 0 <;> simp [ha, hb]
    by_cases e1 : op = 1
    · subst e1; cases inB a 0 3 <;> cases inB b 0 65535 <;> simp
    by_cases e2 : op = 2
    · subst e2; cases inB a 0 3 <;> cases inB b 0 3 <;> simp
    by_cases e13 : op = 13
    · subst e13; cases inB a 0 3 <;> cases inB b 0 3 <;> simp
    by_cases e14 : op = 14
    · subst e14; cases inB a 0 3 <;> cases inB b 0 3 <;> simp
    by_cases e15 : op = 15
    · subst e15; cases inB a 0 3 <;> cases inB b 0 3 <;> simp
    by_cases e8 : op = 8
    · subst e8; by_cases hb : b = 0 <;> cases inB a 0 3 <;> simp [hb]
    by_cases e10 : op = 10
    · subst e10; cases inB a 0 3 <;> cases inB b 0 s <;> simp
    by_cases e11 : op = 11
    · subst e11; by_cases ha : a = 0 <;> cases inB b 0 s <;> simp [ha]
    by_cases h39 : 3 ≤ op ∧ op ≤ 9
    · have : inB op 3 9 = true := by unfold inB; simp; omega
      cases inB a 0 3 <;> cases inB b 0 3 <;> simp [e0, e12, e16, e1, e2, e13, e14, e15, e8, e10, e11, this, h39]
    · have : inB op 3 9 = false := by unfold inB; simp; omega
      simp [e0, e12, e16, e1, e2, e13, e14, e15, e8, e10, e11, this, h39]
end Go.Proofs.Ytomehbmijdjjfaa.HN
