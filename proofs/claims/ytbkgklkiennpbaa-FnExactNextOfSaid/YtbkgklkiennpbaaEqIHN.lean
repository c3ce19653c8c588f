/- What the laws' own loops over rows of ints tell: whether two rows are equal. No condition but lengths that fit. -/
import Derived.Test.YtbkgklkiennpbaaLoopAid
import Derived.Test.YtbkgklkiennpbaaHN5
set_option linter.unusedVariables false
set_option linter.unusedSimpArgs false
namespace Go.Proofs.Ytbkgklkiennpbaa.HN
open Go Go.RowKit Go.Proofs.YtbkgklkiennpbaaW.PrintWords Go.Proofs.YtbkgklkiennpbaaW.PrintLast Go.Proofs.Ytbkgklkiennpbaa.Aid

theorem eqIntS_ev (a b : List Int) (hl : a.length ≤ 1048576) : Ev (fun k => laws_eqIntS.f k a b) (decide (a = b)) := by
  by_cases hlen : a.length = b.length
  · have h := loop_to (fun k n (_ : Unit) => laws_eqIntS.l0 k a b (n : Int)) a.length (fun n _ => ∀ j, j < n → a[j]? = b[j]?) (decide (a = b))
      (fun n s hn hI => by
        by_cases e : rd a (n : Int) = rd b (n : Int)
        · refine Or.inl ⟨(), fun j hj => ?_, 0, fun k _ => ?_⟩
          · by_cases hjn : j = n
            · subst hjn; rw [rd_at hn, rd_at (by omega), e]
            · exact hI j (by omega)
          · simp only [laws_eqIntS.l0]
            rw [if_pos (by omega), if_pos (by omega), if_pos (by omega), if_pos e, wrap_succ hn (by omega)]
        · refine Or.inr ⟨0, fun k _ => ?_⟩
          simp only [laws_eqIntS.l0]
          rw [if_pos (by omega), if_pos (by omega), if_pos (by omega), if_neg e]
          have : a ≠ b := fun h => e (by rw [h])
          simp [this])
      (fun s hI => ⟨0, fun k _ => by
        simp only [laws_eqIntS.l0]
        rw [if_neg (by omega)]
        have : a = b := all_upto hlen (fun j hj => hI j (by omega))
        simp [this]⟩) 0 () (Nat.zero_le _) (fun j hj => absurd hj (Nat.not_lt_zero _))
    refine Ev.congr (fun k => ?_) h
    unfold laws_eqIntS.f
    rw [if_pos (by omega)]
    rfl
  · have : a ≠ b := fun h => hlen (by rw [h])
    refine Ev.congr (fun k => ?_) (ev_some _)
    unfold laws_eqIntS.f
    rw [if_neg (by omega)]
    simp [this]
theorem eqIntS_same (a : List Int) (hl : a.length ≤ 1048576) : Ev (fun k => laws_eqIntS.f k a a) true := by
  have := eqIntS_ev a a hl
  simpa using this
end Go.Proofs.Ytbkgklkiennpbaa.HN
