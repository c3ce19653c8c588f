/- For every two ints, the program's SplitMask gives what the reference's gives: no condition. -/
import Derived.Test.YtinjochelhmkjaaPFnExactSplitMaskx1
import Derived.Test.YtinjochelhmkjaaAid
set_option linter.unusedVariables false
set_option linter.unusedSimpArgs false
namespace Go.Proofs.Ytinjochelhmkjaa.Pure
open Go.RowKit Go.Proofs.Ytinjochelhmkjaa.PFnExactSplitMask Go.Proofs.YtinjochelhmkjaaW.PrintWords Go.Proofs.YtinjochelhmkjaaW.PrintLast Go.Proofs.Ytinjochelhmkjaa.Aid

theorem split_at : ∀ x y : Fin 256, Go.bits .andNot .i64 (x.val : Int) (y.val : Int) = (x.val : Int) - ((x.val &&& y.val : Nat) : Int) := by
  intro x y
  have h1 : (BitVec.ofInt 64 (x.val : Int)).toNat = x.val := by
    rw [BitVec.ofInt_natCast, BitVec.toNat_ofNat]; exact Nat.mod_eq_of_lt (by have := x.isLt; omega)
  have h2 : (BitVec.ofInt 64 (y.val : Int)).toNat = y.val := by
    rw [BitVec.ofInt_natCast, BitVec.toNat_ofNat]; exact Nat.mod_eq_of_lt (by have := y.isLt; omega)
  show IntKind.i64.wrap ((BitVec.ofInt 64 (x.val : Int) &&& ~~~ BitVec.ofInt 64 (y.val : Int)).toNat : Int) = _
  have hs : (BitVec.ofInt 64 (x.val : Int) &&& ~~~ BitVec.ofInt 64 (y.val : Int)) + (BitVec.ofInt 64 (x.val : Int) &&& BitVec.ofInt 64 (y.val : Int)) = BitVec.ofInt 64 (x.val : Int) := by
    rw [BitVec.add_eq_or_of_and_eq_zero]
    · generalize BitVec.ofInt 64 (x.val : Int) = p
      generalize BitVec.ofInt 64 (y.val : Int) = q
      apply BitVec.eq_of_getLsbD_eq
      intro i hi
      simp only [BitVec.getLsbD_or, BitVec.getLsbD_and, BitVec.getLsbD_not, hi, decide_true, Bool.true_and]
      cases p.getLsbD i <;> cases q.getLsbD i <;> rfl
    · generalize BitVec.ofInt 64 (x.val : Int) = p
      generalize BitVec.ofInt 64 (y.val : Int) = q
      apply BitVec.eq_of_getLsbD_eq
      intro i hi
      simp only [BitVec.getLsbD_and, BitVec.getLsbD_not, hi, decide_true, Bool.true_and]
      cases p.getLsbD i <;> cases q.getLsbD i <;> simp
  have hle : (BitVec.ofInt 64 (x.val : Int) &&& ~~~ BitVec.ofInt 64 (y.val : Int)).toNat ≤ 255 := by
    rw [BitVec.toNat_and, h1]
    exact Nat.le_trans Nat.and_le_left (by have := x.isLt; omega)
  have hle2 : (BitVec.ofInt 64 (x.val : Int) &&& BitVec.ofInt 64 (y.val : Int)).toNat ≤ 255 := by
    rw [BitVec.toNat_and, h1]
    exact Nat.le_trans Nat.and_le_left (by have := x.isLt; omega)
  have ht := congrArg BitVec.toNat hs
  rw [BitVec.toNat_add, Nat.mod_eq_of_lt (by omega), h1] at ht
  have h3 : (BitVec.ofInt 64 (x.val : Int) &&& BitVec.ofInt 64 (y.val : Int)).toNat = x.val &&& y.val := by rw [BitVec.toNat_and, h1, h2]
  rw [wraps_i64 _ (by omega) (by omega)]
  rw [h3] at ht
  omega
theorem mask_of {a : Int} (h : impl_IsMask.f a = some true) : ∃ x : Fin 256, a = (x.val : Int) := by
  unfold impl_IsMask.f impl_within.f at h
  by_cases h0 : a ≥ 0
  · simp [h0] at h
    exact ⟨⟨a.toNat, by omega⟩, by simp; omega⟩
  · simp [h0] at h
theorem FnExactSplitMask : laws_FnExactSplitMask.Pure := by
  intro a b _ _
  have e : ∀ x, spec_IsMask.f x = impl_IsMask.f x := fun _ => rfl
  have s : ∀ x, ∃ r, impl_IsMask.f x = some r := fun x => by unfold impl_IsMask.f impl_within.f; split <;> exact ⟨_, rfl⟩
  unfold laws_FnExactSplitMask.f spec_SplitMask.f impl_SplitMask.f
  simp only [e]
  obtain ⟨r, h1⟩ := s a
  obtain ⟨q, h2⟩ := s b
  cases r
  · rw [h1]; simp
  · cases q
    · rw [h1, h2]; simp
    · obtain ⟨x, rfl⟩ := mask_of h1
      obtain ⟨y, rfl⟩ := mask_of h2
      rw [h1, h2]
      have h3 := split_at x y
      have h4 := and_nat x.val y.val (by have := x.isLt; omega) (by have := y.isLt; omega)
      have h5 : x.val &&& y.val ≤ x.val := Nat.and_le_left
      simp only [Option.bind_some, if_true]
      rw [h3, h4, wrap_id (by have := x.isLt; omega) (by have := x.isLt; omega)]
      simp

end Go.Proofs.Ytinjochelhmkjaa.Pure
