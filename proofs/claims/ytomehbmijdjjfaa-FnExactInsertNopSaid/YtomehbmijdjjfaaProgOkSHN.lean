/- Whether a program is valid, as the reference tells it. No condition but a length that fits. -/
import Derived.Test.YtomehbmijdjjfaaProgOkIHN
import Derived.Test.YtomehbmijdjjfaaInsOkSHN
import Derived.Test.YtomehbmijdjjfaaHN3
set_option linter.unusedVariables false
set_option linter.unusedSimpArgs false
namespace Go.Proofs.Ytomehbmijdjjfaa.HN
open Go Go.RowKit Go.Proofs.YtomehbmijdjjfaaW.PrintWords Go.Proofs.YtomehbmijdjjfaaW.PrintLast Go.Proofs.Ytomehbmijdjjfaa.Aid
theorem specProgOk_ev (l : List S52) (hl : l.length ≤ 1048576) : Ev (fun k => spec_ProgramOk.f k l) (progB l) := by
  have h := loop_to (fun k n (_ : Unit) => spec_ProgramOk.l0 k l (n : Int)) l.length (fun n _ => ∀ j : Nat, j < n → okIns l.length (rd_T52 l (j : Int)) = true) (progB l)
    (fun n s hn hI => by
      cases hb : okIns l.length (rd_T52 l (n : Int)) with
      | true =>
        refine Or.inl ⟨(), fun j hj => ?_, 2, fun k hk => ?_⟩
        · by_cases e : j = n
          · subst e; exact hb
          · exact hI j (by omega)
        · obtain ⟨k, rfl⟩ : ∃ m, k = m + 2 := ⟨k - 2, by omega⟩
          conv => lhs; unfold spec_ProgramOk.l0
          rw [if_pos (by omega), if_pos (by omega), specInsOk_val, Option.bind_some, if_pos (by exact hb), wrap_succ hn (by omega)]
      | false =>
        refine Or.inr ⟨2, fun k hk => ?_⟩
        obtain ⟨k, rfl⟩ : ∃ m, k = m + 2 := ⟨k - 2, by omega⟩
        unfold spec_ProgramOk.l0
        have hb' : insOkB (rd_T52 l (n : Int)).f0 (rd_T52 l (n : Int)).f1 (rd_T52 l (n : Int)).f2 (rd_T52 l (n : Int)).f3 (l.length : Int) = false := hb
        rw [if_pos (by omega), if_pos (by omega), specInsOk_val, Option.bind_some, if_neg (by rw [hb']; decide)]
        have : l.all (okIns l.length) = false := by
          rw [List.all_eq_false]
          exact ⟨_, List.mem_of_getElem? (rdP_at hn), by rw [hb]; decide⟩
        unfold progB
        rw [this, Bool.and_false])
    (fun s hI => ⟨0, fun k _ => by
      unfold spec_ProgramOk.l0
      rw [if_neg (by omega)]
      have : l.all (okIns l.length) = true := by
        rw [List.all_eq_true]
        intro x hx
        obtain ⟨j, hj, rfl⟩ := List.mem_iff_getElem.1 hx
        have h1 := hI j hj
        have h2 := rdP_at hj
        rw [List.getElem?_eq_getElem hj] at h2
        rw [Option.some.inj h2]
        exact h1
      unfold progB
      rw [this, Bool.and_true]
      congr 1
      simp only [decide_eq_decide]
      omega⟩) 0 () (Nat.zero_le _) (fun j hj => absurd hj (Nat.not_lt_zero _))
  exact Ev.congr (fun k => rfl) h
end Go.Proofs.Ytomehbmijdjjfaa.HN
