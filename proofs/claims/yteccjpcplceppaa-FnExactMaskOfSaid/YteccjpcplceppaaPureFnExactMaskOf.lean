/- For every slice of ints of at most 2^20 elements, the program's MaskOf gives what the reference's gives and leaves the slice as it was; of a longer one the law asks nothing. -/
import Derived.Test.YteccjpcplceppaaHFnExactMaskOfStmt
import Derived.Test.YteccjpcplceppaaAid
import Derived.Test.YteccjpcplceppaaLoopAid
import Derived.Test.YteccjpcplceppaaListI
set_option linter.unusedVariables false
set_option linter.unusedSimpArgs false
namespace Go.Proofs.Yteccjpcplceppaa.Pure
open Go.RowKit Go.Proofs.Yteccjpcplceppaa.H Go.Proofs.YteccjpcplceppaaW.PrintWords Go.Proofs.YteccjpcplceppaaW.PrintLast Go.Proofs.Yteccjpcplceppaa.Aid

theorem maskOf_same (l : List Int) : ∀ k m i, 0 ≤ i → i ≤ (l.length : Int) → spec_MaskOf.l0 k l m i = impl_MaskOf.l0 k m l (l.length : Int) i ∨ l.length > 1048576 := by
  intro k
  induction k with
  | zero => intro m i _ _; exact Or.inl rfl
  | succ k ih =>
    intro m i h0 h1
    by_cases hl : l.length > 1048576
    · exact Or.inr hl
    · left
      simp only [spec_MaskOf.l0, impl_MaskOf.l0]
      by_cases h : i < (l.length : Int)
      · rw [if_pos h, if_pos h, if_pos h0, if_pos h0, if_pos h]
        have e : spec_l01In.f (rd l i) 0 7 = impl_within.f (rd l i) 0 7 := rfl
        rw [e]
        unfold impl_isLane.f
        cases hb : impl_within.f (rd l i) 0 7 with
        | none => rfl
        | some b =>
          cases b with
          | false => rfl
          | true =>
            simp only [Option.bind_some, if_true]
            by_cases h2 : 0 ≤ rd l i
            · rw [if_pos h2, if_pos h2, wrap_id (by omega) (by omega)]
              rcases ih (Go.bits .or .i64 m (shl .i64 1 (rd l i))) (i + 1) (by omega) (by omega) with h | h
              · exact h
              · exact absurd h hl
            · rw [if_neg h2, if_neg h2]
      · rw [if_neg h, if_neg h]
theorem maskOf_ends (l : List Int) (hl : l.length ≤ 1048576) : ∃ r, True ∧ Ev (fun k => spec_MaskOf.f k l) r := by
  have h := loop_ev (fun k n (m : Int) => spec_MaskOf.l0 k l m (n : Int)) l.length (fun _ _ => True) (fun _ => True)
    (fun n m hn _ => by
      have hs : ∃ b, spec_l01In.f (rd l (n : Int)) 0 7 = some b ∧ (b = true → 0 ≤ rd l (n : Int)) := by
        unfold spec_l01In.f; split
        · exact ⟨_, rfl, fun _ => by assumption⟩
        · exact ⟨_, rfl, fun h => by cases h⟩
      obtain ⟨b, hb, h0⟩ := hs
      cases b with
      | true =>
        refine Or.inl ⟨Go.bits .or .i64 m (shl .i64 1 (rd l (n : Int))), trivial, 0, fun k _ => ?_⟩
        simp only [spec_MaskOf.l0]
        rw [if_pos (by omega), if_pos (by omega), hb, Option.bind_some, if_pos rfl, if_pos (h0 rfl), wrap_succ hn (by omega)]
      | false =>
        refine Or.inr ⟨(0, false), trivial, 0, fun k _ => ?_⟩
        simp only [spec_MaskOf.l0]
        rw [if_pos (by omega), if_pos (by omega), hb, Option.bind_some, if_neg (by decide)])
    (fun m _ => ⟨(m, true), trivial, 0, fun k _ => by
      simp only [spec_MaskOf.l0]
      rw [if_neg (by omega)]⟩) 0 0 (Nat.zero_le _) trivial
  exact h
theorem FnExactMaskOf : laws_FnExactMaskOf.PureH := by
  intro l h8 _
  by_cases hl : l.length ≤ 1048576
  · obtain ⟨K1, h1⟩ := toIntS_ev l hl
    obtain ⟨r, _, K2, h2⟩ := maskOf_ends l hl
    obtain ⟨K3, h3⟩ := eqIntS_same l hl
    have h4 : ∀ k, impl_MaskOf.f k l = spec_MaskOf.f k l := fun k => by
      rcases maskOf_same l k 0 0 (by omega) (by omega) with h | h
      · exact h.symm
      · omega
    refine ⟨K1 + K2 + K3 + 1, ?_⟩
    unfold laws_FnExactMaskOf.f
    rw [if_neg (by omega)]
    simp only [laws_FnExactMaskOf.j0, h4, h1 _ (show K1 ≤ K1 + K2 + K3 + 1 by omega), h1 _ (show K1 ≤ K1 + K2 + K3 by omega), h2 _ (show K2 ≤ K1 + K2 + K3 + 1 by omega), h3 _ (show K3 ≤ K1 + K2 + K3 by omega), Option.bind_some]
    simp
  · refine ⟨0, ?_⟩
    unfold laws_FnExactMaskOf.f
    rw [if_pos (by omega)]

end Go.Proofs.Yteccjpcplceppaa.Pure
