/- Decimal numerals: what they spell, how long they are, and when a text is one. No condition. -/
import Derived.Lib.ItoaNum
import Derived.Lib.AtoiTie
import Derived.Lib.AtoiAllCases
import Derived.WalkKit
set_option linter.unusedVariables false
namespace Go.Proofs.YtionemdnfhcfpaaDoor.Aid
open Go

theorem digitVal_of {d : Nat} (h : d < 10) : Lib.digitVal (UInt8.ofNat (48 + d)) = some d := by
  unfold Lib.digitVal
  have e : (UInt8.ofNat (48 + d)).toNat = 48 + d := by rw [UInt8.toNat_ofNat']; omega
  rw [e, if_pos ⟨by omega, by omega⟩]
  congr 1; omega
theorem decFrom_cons (acc : Nat) (x : UInt8) (l : List UInt8) : Lib.decFrom acc (x :: l) = match Lib.digitVal x with
  | some d => Lib.decFrom (acc * 10 + d) l
  | none => none := rfl
theorem decFrom_append : ∀ (a b : List UInt8) (acc : Nat), Lib.decFrom acc (a ++ b) = (Lib.decFrom acc a).bind fun m => Lib.decFrom m b
  | [], b, acc => by simp [Lib.decFrom]
  | x :: a, b, acc => by
    rw [List.cons_append, decFrom_cons, decFrom_cons]
    cases Lib.digitVal x with
    | none => rfl
    | some d => exact decFrom_append a b _
theorem decFrom_digits (u : Nat) : Lib.decFrom 0 (Lib.decDigits u) = some u := by
  induction u using Nat.strongRecOn with
  | _ u ih =>
    by_cases h : u < 10
    · rw [Lib.decDigits_one h, decFrom_cons, digitVal_of h]
      simp [Lib.decFrom]
    · rw [Lib.decDigits, dif_neg h, decFrom_append, ih (u / 10) (by omega), Option.bind_some, decFrom_cons, digitVal_of (show u % 10 < 10 by omega)]
      simp only [Lib.decFrom, Option.some.injEq]
      omega
theorem digits_ne (u : Nat) : Lib.decDigits u ≠ [] := by
  intro h
  have := Lib.decDigits_length u
  have := Lib.nDigits_pos u
  rw [h] at *
  simp at *
  omega
theorem digits_len (u k : Nat) (hk : 1 ≤ k) (h : u < 10 ^ k) : (Lib.decDigits u).length ≤ k := by
  induction k generalizing u with
  | zero => omega
  | succ k ih =>
    by_cases h1 : u < 10
    · rw [Lib.decDigits_one h1]; simp
    · rw [Lib.decDigits, dif_neg h1]
      cases k with
      | zero => omega
      | succ k =>
        have := ih (u / 10) (by omega) (by rw [Nat.pow_succ] at h; omega)
        simp; omega
theorem digits_mem {u : Nat} {b : UInt8} (h : b ∈ Lib.decDigits u) : 48 ≤ b.toNat ∧ b.toNat ≤ 57 := by
  obtain ⟨k, hk⟩ := List.getElem?_of_mem h
  obtain ⟨d, hd⟩ := Lib.digit_of_decFrom _ _ _ (decFrom_digits u) k b hk
  have := Lib.digitVal_eq hd
  omega
theorem itoa_pos {n : Int} (h : 0 ≤ n) : Lib.itoa n = Lib.decDigits n.toNat := by unfold Lib.itoa; rw [if_neg (by omega)]
theorem itoa_ne (n : Int) : Lib.itoa n ≠ [] := by
  unfold Lib.itoa
  split
  · simp
  · exact digits_ne _
theorem decFrom_itoa {n : Int} (h : 0 ≤ n) : Lib.decFrom 0 (Lib.itoa n) = some n.toNat := by rw [itoa_pos h, decFrom_digits]
theorem itoa_len {n : Int} (h : 0 ≤ n) (h1 : n ≤ 1000000000) : (Lib.itoa n).length ≤ 10 := by
  rw [itoa_pos h]
  exact digits_len _ _ (by omega) (by omega)
theorem atoi_digits {l : List UInt8} {m : Nat} (hne : l ≠ []) (h : Lib.decFrom 0 l = some m) : Lib.atoi l = some (m : Int) := by
  cases l with
  | nil => exact absurd rfl hne
  | cons b r =>
    obtain ⟨d, hd⟩ := Lib.digit_of_decFrom _ _ _ h 0 b rfl
    have hb := Lib.digitVal_eq hd
    unfold Lib.atoi
    have h45 : (b == 45) = false := by
      rw [beq_eq_false_iff_ne]; rintro rfl; simp at hb
    have h43 : (b == 43) = false := by
      rw [beq_eq_false_iff_ne]; rintro rfl; simp at hb
    have hn : Lib.decNat (b :: r) = some m := by unfold Lib.decNat; simpa using h
    simp [h45, h43, hn]
theorem atoiAll_itoa {n : Int} (h : 0 ≤ n) (h1 : n ≤ 1000000000) : Lib.atoiAll (Lib.itoa n) = .ok n := by
  rw [Lib.atoiAll_short _ (by have := itoa_len h h1; omega), atoi_digits (itoa_ne n) (decFrom_itoa h)]
  have : ((n.toNat : Nat) : Int) = n := by omega
  rw [this]; rfl
/-- The number that a text spells, if it is that number's own numeral and at most 10^9. -/
def puB (s : List UInt8) : Int × Bool := match Lib.decFrom 0 s with
  | some m => if m ≤ 1000000000 ∧ Lib.itoa (m : Int) = s then ((m : Int), true) else (0, false)
  | none => (0, false)
theorem puB_itoa {n : Int} (h : 0 ≤ n) (h1 : n ≤ 1000000000) : puB (Lib.itoa n) = (n, true) := by
  unfold puB
  rw [decFrom_itoa h]
  have e : ((n.toNat : Nat) : Int) = n := by omega
  simp only [e]
  rw [if_pos ⟨by omega, trivial⟩]
theorem puB_cases (s : List UInt8) : (∃ n : Int, 0 ≤ n ∧ n ≤ 1000000000 ∧ s = Lib.itoa n ∧ puB s = (n, true)) ∨ (puB s = (0, false) ∧ ∀ n : Int, 0 ≤ n → n ≤ 1000000000 → s ≠ Lib.itoa n) := by
  by_cases h : ∃ n : Int, 0 ≤ n ∧ n ≤ 1000000000 ∧ s = Lib.itoa n
  · obtain ⟨n, h0, h1, e⟩ := h
    exact .inl ⟨n, h0, h1, e, by rw [e]; exact puB_itoa h0 h1⟩
  · refine .inr ⟨?_, fun n h0 h1 e => h ⟨n, h0, h1, e⟩⟩
    unfold puB
    cases hd : Lib.decFrom 0 s with
    | none => rfl
    | some m =>
      simp only
      rw [if_neg]
      rintro ⟨h1, h2⟩
      exact h ⟨m, by omega, by omega, h2.symm⟩
theorem puB_neg {n : Int} (h : n < 0 ∨ 1000000000 < n) : puB (Lib.itoa n) = (0, false) := by
  by_cases h0 : n < 0
  · unfold puB Lib.itoa
    rw [if_pos h0]
    rfl
  · unfold puB
    rw [decFrom_itoa (by omega)]
    simp only
    rw [if_neg (by omega)]
end Go.Proofs.YtionemdnfhcfpaaDoor.Aid
