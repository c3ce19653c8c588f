/- Plain lemmas on whole numbers and their bits that the laws' proofs use. No condition. -/
import Derived.OpenShut
import Derived.Laws.BitsLemmas
import Derived.Test.YtomehbmijdjjfaaWMore
namespace Go.Proofs.Ytomehbmijdjjfaa.Aid
open Go Go.RowKit Go.Proofs.YtomehbmijdjjfaaW.PrintWords Go.Proofs.YtomehbmijdjjfaaW.PrintLast

theorem bd {n : Int} (h : (Lit.int .i64 n).wf = true) : -9223372036854775808 ≤ n ∧ n ≤ 9223372036854775807 := bounds_i64 h
theorem wrap_id {n : Int} (h : -9223372036854775808 ≤ n) (h' : n ≤ 9223372036854775807) : wrap64 n = n := by unfold wrap64; omega

/-- The remainder as the reference reckons it. -/
theorem mod_word (m : Int) : Int.tmod (wrap64 (Int.tmod m 65536 + 65536)) 65536 = m % 65536 := by
  have h4 : m.tmod 65536 = if 0 ≤ m then m % 65536 else -((-m) % 65536) := by
    split
    · exact Int.tmod_eq_emod_of_nonneg (by assumption)
    · have := Int.neg_tmod (-m) 65536
      rw [Int.neg_neg] at this
      rw [this, Int.tmod_eq_emod_of_nonneg (by omega)]
  have h5 : wrap64 (m.tmod 65536 + 65536) = m.tmod 65536 + 65536 := by
    rw [h4]; unfold wrap64; split <;> omega
  rw [h5, h4, Int.tmod_eq_emod_of_nonneg (by split <;> omega)]
  split <;> omega
theorem toNat_ofInt64 (x : Int) : ((BitVec.ofInt 64 x).toNat : Int) = x % 18446744073709551616 := by
  rw [BitVec.toNat_ofInt]
  have h : 0 ≤ x % ((2 ^ 64 : Nat) : Int) := Int.emod_nonneg _ (by decide)
  rw [Int.toNat_of_nonneg h]
  rfl

/-- The low bits of a number of whatever sign. -/
theorem and_low (i : Nat) (hi : i ≤ 62) (x : Int) : Go.bits .and .i64 x ((2 : Int) ^ i - 1) = x % (2 : Int) ^ i := by
  have hpos : 0 < 2 ^ i := Nat.two_pow_pos i
  have hle : 2 ^ i ≤ 2 ^ 62 := Nat.pow_le_pow_right (by decide) hi
  have hc : ((2 : Int) ^ i - 1) = ((2 ^ i - 1 : Nat) : Int) := by
    rw [Int.natCast_sub hpos]; simp
  have e2 : (BitVec.ofInt 64 ((2 : Int) ^ i - 1)).toNat = 2 ^ i - 1 := by
    rw [hc, BitVec.ofInt_natCast, BitVec.toNat_ofNat]
    exact Nat.mod_eq_of_lt (by omega)
  show IntKind.i64.wrap ((BitVec.ofInt 64 x &&& BitVec.ofInt 64 ((2 : Int) ^ i - 1)).toNat : Int) = _
  rw [BitVec.toNat_and, e2, Nat.and_two_pow_sub_one_eq_mod]
  have e1 := toNat_ofInt64 x
  have hm : ((2 : Int) ^ i) ∣ 18446744073709551616 := by
    refine ⟨2 ^ (64 - i), ?_⟩
    rw [← Int.pow_add, Nat.add_sub_cancel' (by omega : i ≤ 64)]
    decide
  have hcast : (((BitVec.ofInt 64 x).toNat % 2 ^ i : Nat) : Int) = x % (2 : Int) ^ i := by
    have hp2 : ((2 ^ i : Nat) : Int) = (2 : Int) ^ i := by simp
    rw [Int.natCast_emod, e1, hp2]
    exact Int.emod_emod_of_dvd x hm
  rw [hcast, IntKind.wrap_i64]
  have h0 : 0 ≤ x % (2 : Int) ^ i := Int.emod_nonneg _ (by have : (0 : Int) < 2 ^ i := Int.pow_pos (by decide); omega)
  have h1 : x % (2 : Int) ^ i < 2 ^ i := Int.emod_lt_of_pos _ (Int.pow_pos (by decide))
  have h2 : (2 : Int) ^ i ≤ 4611686018427387904 := by
    have : (2 : Int) ^ i = ((2 ^ i : Nat) : Int) := by simp
    rw [this]
    have := Int.ofNat_le.2 hle
    exact this
  omega
theorem and_65535 (x : Int) : Go.bits .and .i64 x 65535 = x % 65536 := by simpa using and_low 16 (by decide) x
theorem and_255 (x : Int) : Go.bits .and .i64 x 255 = x % 256 := by simpa using and_low 8 (by decide) x
theorem and_1 (x : Int) : Go.bits .and .i64 x 1 = x % 2 := by simpa using and_low 1 (by decide) x

theorem wraps_i64 (n : Int) (h₀ : 0 ≤ n) (h₁ : n < 2 ^ 62) : IntKind.i64.wrap n = n := by rw [IntKind.wrap_i64]; omega
/-- Two masks. -/
theorem and_nat (a b : Nat) (ha : a < 2 ^ 62) (hb : b < 2 ^ 62) : Go.bits .and .i64 (a : Int) (b : Int) = ((a &&& b : Nat) : Int) := (bits_nat .i64 62 (by decide) wraps_i64 a b ha hb).1
theorem or_nat (a b : Nat) (ha : a < 2 ^ 62) (hb : b < 2 ^ 62) : Go.bits .or .i64 (a : Int) (b : Int) = ((a ||| b : Nat) : Int) := (bits_nat .i64 62 (by decide) wraps_i64 a b ha hb).2
end Go.Proofs.Ytomehbmijdjjfaa.Aid
