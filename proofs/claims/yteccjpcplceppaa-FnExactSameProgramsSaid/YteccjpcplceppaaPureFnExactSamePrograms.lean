/- For every two programs of together at most 2^20 instructions, the program's SamePrograms gives what the reference's gives and leaves its arguments as they were; of longer ones the law asks nothing. -/
import Derived.Test.YteccjpcplceppaaHSFnExactSameProgramsStmt
import Derived.Test.YteccjpcplceppaaAid
import Derived.Test.YteccjpcplceppaaLoopAid
import Derived.Test.YteccjpcplceppaaListSHS
set_option linter.unusedVariables false
set_option linter.unusedSimpArgs false
namespace Go.Proofs.Yteccjpcplceppaa.Pure
open Go.RowKit Go.Proofs.Yteccjpcplceppaa.HS Go.Proofs.YteccjpcplceppaaW.PrintWords Go.Proofs.YteccjpcplceppaaW.PrintLast Go.Proofs.Yteccjpcplceppaa.Aid

theorem eq27_bool (x y : S27) : (!(x.f0 == y.f0) || (!(x.f1 == y.f1) || (!(x.f2 == y.f2) || (!(x.f3 == y.f3))))) = true ↔ x ≠ y := by
  constructor
  · rintro h rfl
    simp at h
  · intro h
    by_cases h0 : x.f0 = y.f0
    · by_cases h1 : x.f1 = y.f1
      · by_cases h2 : x.f2 = y.f2
        · by_cases h3 : x.f3 = y.f3
          · exact absurd (S27.ext_of h0 h1 h2 h3) h
          · simp [h3]
        · simp [h2]
      · simp [h1]
    · simp [h0]
theorem same_both (a b : List S27) (ha : a.length ≤ 1048576) : ∀ k i, 0 ≤ i → i ≤ (a.length : Int) → a.length = b.length → impl_Ins.l0 k a b (a.length : Int) i = spec_SamePrograms.l0 k a b i := by
  intro k
  induction k with
  | zero => intro i _ _ _; rfl
  | succ k ih =>
    intro i h0 h1 he
    simp only [spec_SamePrograms.l0, impl_Ins.l0]
    by_cases h : i < (a.length : Int)
    · rw [if_pos h, if_pos h, if_pos h0, if_pos h0, if_pos h, if_pos (show i < (b.length : Int) by omega), if_pos (show i < (b.length : Int) by omega), wrap_id (n := i + 1) (by omega) (by omega), ih (i + 1) (by omega) (by omega) he]
    · rw [if_neg h, if_neg h]
theorem same_ends (a b : List S27) (ha : a.length ≤ 1048576) : ∃ r, True ∧ Ev (fun k => spec_SamePrograms.f k a b) r := by
  by_cases he : a.length = b.length
  · have h := loop_ev (fun k n (_ : Unit) => spec_SamePrograms.l0 k a b (n : Int)) a.length (fun _ _ => True) (fun _ => True)
      (fun n m hn _ => by
        by_cases e : rd_T27 a (n : Int) ≠ rd_T27 b (n : Int)
        · refine Or.inr ⟨false, trivial, 0, fun k _ => ?_⟩
          simp only [spec_SamePrograms.l0]
          rw [if_pos (by omega), if_pos (by omega), if_pos (by omega), if_pos ((eq27_bool _ _).2 e)]
        · refine Or.inl ⟨(), trivial, 0, fun k _ => ?_⟩
          simp only [spec_SamePrograms.l0]
          rw [if_pos (by omega), if_pos (by omega), if_pos (by omega), if_neg (fun h => e ((eq27_bool _ _).1 h)), wrap_succ hn (by omega)])
      (fun m _ => ⟨true, trivial, 0, fun k _ => by
        simp only [spec_SamePrograms.l0]
        rw [if_neg (by omega)]⟩) 0 () (Nat.zero_le _) trivial
    obtain ⟨r, _, h⟩ := h
    refine ⟨r, trivial, Ev.congr (fun k => ?_) h⟩
    unfold spec_SamePrograms.f
    rw [if_pos (by omega)]
    rfl
  · refine ⟨false, trivial, Ev.congr (fun k => ?_) (ev_some _)⟩
    unfold spec_SamePrograms.f
    rw [if_neg (by omega)]
theorem FnExactSamePrograms : laws_FnExactSamePrograms.PureH := by
  intro a b h8 _ h9 _
  by_cases hl : a.length ≤ 1048576
  · by_cases hm : (b.length : Int) ≤ 1048576 - a.length
    · obtain ⟨K1, h1⟩ := toInsS_ev a hl
      obtain ⟨K2, h2⟩ := toInsS_ev b (by omega)
      obtain ⟨r, _, K3, h3⟩ := same_ends (a.map conv) (b.map conv) (by simpa using hl)
      obtain ⟨K4, h4⟩ := eqInsS_same (a.map conv) (by simpa using hl)
      obtain ⟨K5, h5⟩ := eqInsS_same (b.map conv) (by simp; omega)
      have h6 : ∀ k, impl_SamePrograms.f k (a.map conv) (b.map conv) = spec_SamePrograms.f k (a.map conv) (b.map conv) := fun k => by
        unfold impl_SamePrograms.f impl_Ins.f spec_SamePrograms.f
        by_cases he : (a.map conv).length = (b.map conv).length
        · rw [if_pos (by omega), if_pos (by omega), same_both _ _ (by simpa using hl) k 0 (by omega) (by omega) he]
          cases spec_SamePrograms.l0 k (a.map conv) (b.map conv) 0 <;> rfl
        · rw [if_neg (by omega), if_neg (by omega)]; rfl
      refine ⟨K1 + K2 + K3 + K4 + K5, ?_⟩
      have e1 := h1 (K1 + K2 + K3 + K4 + K5) (by omega)
      have e2 := h2 (K1 + K2 + K3 + K4 + K5) (by omega)
      have e3 := h3 (K1 + K2 + K3 + K4 + K5) (by omega)
      have e4 := h4 (K1 + K2 + K3 + K4 + K5) (by omega)
      have e5 := h5 (K1 + K2 + K3 + K4 + K5) (by omega)
      unfold laws_FnExactSamePrograms.f
      rw [szInsS_small a 1048576 (by omega) (by omega) (by omega), if_pos (by omega), Option.bind_some, if_neg (by omega), szInsS_small b _ (by omega) (by omega) (by omega), if_pos hm, Option.bind_some, if_neg (by omega)]
      simp only [h6, e1, e2, e3, e4, e5, Option.bind_some, if_true]
      simp
    · refine ⟨0, ?_⟩
      unfold laws_FnExactSamePrograms.f
      rw [szInsS_small a 1048576 (by omega) (by omega) (by omega), if_pos (by omega), Option.bind_some, if_neg (by omega), szInsS_small b _ (by omega) (by omega) (by omega), if_neg hm, Option.bind_some, if_pos (by omega)]
  · refine ⟨0, ?_⟩
    unfold laws_FnExactSamePrograms.f
    rw [szInsS_small a 1048576 (by omega) (by omega) (by omega), if_neg (by omega), Option.bind_some, if_pos (by omega)]

end Go.Proofs.Yteccjpcplceppaa.Pure
