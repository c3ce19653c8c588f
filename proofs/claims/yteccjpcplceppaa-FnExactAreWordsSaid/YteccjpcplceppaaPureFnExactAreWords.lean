/- For every slice of ints of at most 2^20 elements, the program's AreWords gives what the reference's gives and leaves the slice as it was; of a longer one the law asks nothing. -/
import Derived.Test.YteccjpcplceppaaHFnExactAreWordsStmt
import Derived.Test.YteccjpcplceppaaAid
import Derived.Test.YteccjpcplceppaaLoopAid
import Derived.Test.YteccjpcplceppaaListI
set_option linter.unusedVariables false
set_option linter.unusedSimpArgs false
namespace Go.Proofs.Yteccjpcplceppaa.Pure
open Go.RowKit Go.Proofs.Yteccjpcplceppaa.H Go.Proofs.YteccjpcplceppaaW.PrintWords Go.Proofs.YteccjpcplceppaaW.PrintLast Go.Proofs.Yteccjpcplceppaa.Aid

theorem areWords_spec (l : List Int) (hl : l.length ≤ 1048576) : Ev (fun k => spec_AreWords.f k l) (l.all fun x => impl_IsWord.f x == some true) := by
  have hs : ∀ x, ∃ b, impl_IsWord.f x = some b := fun x => by unfold impl_IsWord.f impl_within.f; split <;> exact ⟨_, rfl⟩
  have h := loop_to (fun k n (_ : Unit) => spec_AreWords.l0 k l (n : Int)) l.length (fun n _ => ∀ j : Nat, j < n → impl_IsWord.f (rd l (j : Int)) = some true) (l.all fun x => impl_IsWord.f x == some true)
    (fun n s hn hI => by
      obtain ⟨b, hb⟩ := hs (rd l (n : Int))
      have hb' : spec_IsWord.f (rd l (n : Int)) = some b := hb
      cases b with
      | true =>
        refine Or.inl ⟨(), fun j hj => ?_, 0, fun k _ => ?_⟩
        · by_cases e : j = n
          · subst e; exact hb
          · exact hI j (by omega)
        · simp only [spec_AreWords.l0]
          rw [if_pos (by omega), if_pos (by omega), hb', Option.bind_some, if_pos rfl, wrap_succ hn (by omega)]
      | false =>
        refine Or.inr ⟨0, fun k _ => ?_⟩
        simp only [spec_AreWords.l0]
        rw [if_pos (by omega), if_pos (by omega), hb', Option.bind_some, if_neg (by decide)]
        have : (l.all fun x => impl_IsWord.f x == some true) = false := by
          rw [List.all_eq_false]
          have hm := List.mem_of_getElem? (rd_at hn)
          exact ⟨_, hm, by rw [hb]; decide⟩
        rw [this])
    (fun s hI => ⟨0, fun k _ => by
      simp only [spec_AreWords.l0]
      rw [if_neg (by omega)]
      have : (l.all fun x => impl_IsWord.f x == some true) = true := by
        rw [List.all_eq_true]
        intro x hx
        obtain ⟨j, hj, rfl⟩ := List.mem_iff_getElem.1 hx
        have h1 := hI j hj
        have h2 := rd_at hj
        rw [List.getElem?_eq_getElem hj] at h2
        rw [Option.some.inj h2, h1]
        rfl
      rw [this]⟩) 0 () (Nat.zero_le _) (fun j hj => absurd hj (Nat.not_lt_zero _))
  exact Ev.congr (fun k => rfl) h
theorem areWords_impl (l : List Int) : impl_AreWords.f l = some (l.all fun x => impl_IsWord.f x == some true) := by
  unfold impl_AreWords.f
  congr 1
  rw [List.any_eq_not_all_not, Bool.not_not]
  congr 1
  funext x
  obtain ⟨b, hb⟩ : ∃ b, impl_IsWord.f x = some b := by unfold impl_IsWord.f impl_within.f; split <;> exact ⟨_, rfl⟩
  unfold impl_AreWords_1.f
  rw [hb]
  cases b <;> rfl
theorem FnExactAreWords : laws_FnExactAreWords.PureH := by
  intro l h8 _
  by_cases hl : l.length ≤ 1048576
  · obtain ⟨K1, h1⟩ := toIntS_ev l hl
    obtain ⟨K2, h2⟩ := areWords_spec l hl
    obtain ⟨K3, h3⟩ := eqIntS_same l hl
    refine ⟨K1 + K2 + K3, ?_⟩
    unfold laws_FnExactAreWords.f
    rw [if_neg (by omega)]
    simp only [h1 _ (show K1 ≤ K1 + K2 + K3 by omega), h2 _ (show K2 ≤ K1 + K2 + K3 by omega), h3 _ (show K3 ≤ K1 + K2 + K3 by omega), areWords_impl, Option.bind_some]
    simp
  · refine ⟨0, ?_⟩
    unfold laws_FnExactAreWords.f
    rw [if_pos (by omega)]

end Go.Proofs.Yteccjpcplceppaa.Pure
