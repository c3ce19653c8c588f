/- For every program of at most 2^20 instructions and every int, the program's CountOps gives what the reference's gives and leaves the argument as it was; of a longer one the law asks nothing. -/
import Derived.Test.YteccjpcplceppaaHSFnExactCountOpsStmt
import Derived.Test.YteccjpcplceppaaAid
import Derived.Test.YteccjpcplceppaaLoopAid
import Derived.Test.YteccjpcplceppaaListSHS
set_option linter.unusedVariables false
set_option linter.unusedSimpArgs false
namespace Go.Proofs.Yteccjpcplceppaa.Pure
open Go.RowKit Go.Proofs.Yteccjpcplceppaa.HS Go.Proofs.YteccjpcplceppaaW.PrintWords Go.Proofs.YteccjpcplceppaaW.PrintLast Go.Proofs.Yteccjpcplceppaa.Aid

theorem countOps_same (l : List S27) (op : Int) (hl : l.length ≤ 1048576) : ∀ k m i, 0 ≤ i → i ≤ (l.length : Int) → spec_CountOps.l0 k l op m i = impl_CountOps.l0 k op m l (l.length : Int) i := by
  intro k
  induction k with
  | zero => intro m i _ _; rfl
  | succ k ih =>
    intro m i h0 h1
    simp only [spec_CountOps.l0, impl_CountOps.l0]
    by_cases h : i < (l.length : Int)
    · rw [if_pos h, if_pos h, if_pos h0, if_pos h0, if_pos h, wrap_id (n := i + 1) (by omega) (by omega), ih _ (i + 1) (by omega) (by omega), ih _ (i + 1) (by omega) (by omega)]
    · rw [if_neg h, if_neg h]
theorem countOps_ends (l : List S27) (op : Int) (hl : l.length ≤ 1048576) : ∃ r, True ∧ Ev (fun k => spec_CountOps.f k l op) r := by
  have h := loop_ev (fun k n (m : Int) => spec_CountOps.l0 k l op m (n : Int)) l.length (fun _ _ => True) (fun _ => True)
    (fun n m hn _ => by
      by_cases e : (rd_T27 l (n : Int)).f0 = op
      · refine Or.inl ⟨wrap64 (m + 1), trivial, 0, fun k _ => ?_⟩
        simp only [spec_CountOps.l0]
        rw [if_pos (by omega), if_pos (by omega), if_pos e, wrap_succ hn (by omega)]
      · refine Or.inl ⟨m, trivial, 0, fun k _ => ?_⟩
        simp only [spec_CountOps.l0]
        rw [if_pos (by omega), if_pos (by omega), if_neg e, wrap_succ hn (by omega)])
    (fun m _ => ⟨m, trivial, 0, fun k _ => by
      simp only [spec_CountOps.l0]
      rw [if_neg (by omega)]⟩) 0 0 (Nat.zero_le _) trivial
  exact h
theorem FnExactCountOps : laws_FnExactCountOps.PureH := by
  intro l op h8 _ _
  by_cases hl : l.length ≤ 1048576
  · obtain ⟨K1, h1⟩ := toInsS_ev l hl
    obtain ⟨r, _, K2, h2⟩ := countOps_ends (l.map conv) op (by simpa using hl)
    obtain ⟨K3, h3⟩ := eqInsS_same (l.map conv) (by simpa using hl)
    have h4 : ∀ k, impl_CountOps.f k (l.map conv) op = spec_CountOps.f k (l.map conv) op := fun k => (countOps_same (l.map conv) op (by simpa using hl) k 0 0 (by omega) (by omega)).symm
    refine ⟨K1 + K2 + K3, ?_⟩
    have e1 := h1 (K1 + K2 + K3) (by omega)
    have e2 := h2 (K1 + K2 + K3) (by omega)
    have e3 := h3 (K1 + K2 + K3) (by omega)
    unfold laws_FnExactCountOps.f
    rw [szInsS_small l 1048576 (by omega) (by omega) (by omega), if_pos (by omega), Option.bind_some, if_neg (by omega)]
    simp only [h4, e1, e2, e3, Option.bind_some, if_true]
  · refine ⟨0, ?_⟩
    unfold laws_FnExactCountOps.f
    rw [szInsS_small l 1048576 (by omega) (by omega) (by omega), if_neg (by omega), Option.bind_some, if_pos (by omega)]

end Go.Proofs.Yteccjpcplceppaa.Pure
