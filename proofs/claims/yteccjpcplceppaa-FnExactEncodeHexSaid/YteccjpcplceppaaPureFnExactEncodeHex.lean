/- For every string of at most 2^20 bytes, the program's EncodeHex gives what the reference's gives; of a longer one the law asks nothing. -/
import Derived.Test.YteccjpcplceppaaHFnExactEncodeHexStmt
import Derived.Test.YteccjpcplceppaaAid
import Derived.Test.YteccjpcplceppaaLoopAid
set_option linter.unusedVariables false
set_option linter.unusedSimpArgs false
namespace Go.Proofs.Yteccjpcplceppaa.Pure
open Go.RowKit Go.Proofs.Yteccjpcplceppaa.H Go.Proofs.YteccjpcplceppaaW.PrintWords Go.Proofs.YteccjpcplceppaaW.PrintLast Go.Proofs.Yteccjpcplceppaa.Aid

def hexD : ByteArray := ⟨#[48, 49, 50, 51, 52, 53, 54, 55, 56, 57, 97, 98, 99, 100, 101, 102]⟩
def pairOf (c : Int) : List Int := [bt hexD (c / 16), bt hexD (Go.bits .and .u8 c 15)]
theorem pair_at : ∀ c : Fin 256, spec_l01Figure.f (wrap64 (Int.tdiv (wrap64 (c.val : Int)) 16)) = some (bt hexD ((c.val : Int) / 16)) ∧ spec_l01Figure.f (Int.tmod (wrap64 (c.val : Int)) 16) = some (bt hexD (Go.bits .and .u8 (c.val : Int) 15)) ∧
    0 ≤ Go.bits .and .u8 (c.val : Int) 15 ∧ Go.bits .and .u8 (c.val : Int) 15 < 16 := by decide +kernel
theorem bt_fin (a : ByteArray) (i : Int) : ∃ c : Fin 256, bt a i = (c.val : Int) := ⟨⟨(bt a i).toNat, by have := bt_range a i; omega⟩, by have := bt_range a i; simp; omega⟩
def hexOf (a : ByteArray) (n : Nat) : List Int := (List.range n).flatMap fun (j : Nat) => pairOf (bt a (j : Int))
theorem hexOf_succ (a : ByteArray) (n : Nat) : hexOf a (n + 1) = hexOf a n ++ pairOf (bt a (n : Int)) := by simp [hexOf, List.range_succ, List.flatMap_append]
theorem hexOf_len (a : ByteArray) (n : Nat) : (hexOf a n).length = 2 * n := by
  induction n with
  | zero => rfl
  | succ n ih => rw [hexOf_succ, List.length_append, ih]; simp [pairOf]; omega
theorem spec_hex (a : ByteArray) (ha : a.size ≤ 20000) : Ev (fun k => spec_EncodeHex.l0 k a [] 0) (strOfNums (hexOf a a.size), true) := by
  have h := loop_to (fun k n (s : List Int) => spec_EncodeHex.l0 k a s (n : Int)) a.size (fun n s => s = hexOf a n) (strOfNums (hexOf a a.size), true)
    (fun n s hn hI => Or.inl ⟨hexOf a (n + 1), rfl, 0, fun k _ => by
      subst hI
      obtain ⟨c, hc⟩ := bt_fin a (n : Int)
      obtain ⟨h1, h2, h3, h4⟩ := pair_at c
      have hl := hexOf_len a n
      simp only [spec_EncodeHex.l0]
      rw [if_pos (by omega), if_pos (by omega), hc, h1, Option.bind_some, h2, Option.bind_some, Option.bind_some, if_pos (by simp; omega), wrap_succ hn (by omega), hexOf_succ, hc]
      rfl⟩)
    (fun s hI => ⟨0, fun k _ => by
      subst hI
      simp only [spec_EncodeHex.l0]
      rw [if_neg (by omega)]⟩) 0 [] (Nat.zero_le _) rfl
  exact h
theorem impl_hex (a : ByteArray) (ha : a.size ≤ 20000) : Ev (fun k => impl_hexText.f k a) (strOfNums (hexOf a a.size)) := by
  have h := loop_to (fun k n (s : List Int) => impl_hexText.l0 k a s (a.size : Int) (n : Int)) a.size (fun n s => s = hexOf a n) (strOfNums (hexOf a a.size))
    (fun n s hn hI => Or.inl ⟨hexOf a (n + 1), rfl, 0, fun k _ => by
      subst hI
      obtain ⟨c, hc⟩ := bt_fin a (n : Int)
      obtain ⟨h1, h2, h3, h4⟩ := pair_at c
      have hl := hexOf_len a n
      have hlt := c.isLt
      simp only [impl_hexText.l0]
      rw [if_pos (by omega), if_pos (by omega), if_pos (by omega), hc, if_pos (by omega), if_pos (by omega), if_pos h3, if_pos h4, Option.bind_some, if_pos (by simp; omega), wrap_succ hn (by omega), hexOf_succ, hc]
      rfl⟩)
    (fun s hI => ⟨0, fun k _ => by
      subst hI
      simp only [impl_hexText.l0]
      rw [if_neg (by omega)]⟩) 0 [] (Nat.zero_le _) rfl
  refine Ev.congr (fun k => ?_) h
  unfold impl_hexText.f
  rw [wrap_id (by omega) (by omega), if_pos (by omega), if_pos (by omega)]
  rfl
theorem FnExactEncodeHex : laws_FnExactEncodeHex.PureH := by
  intro a _
  by_cases hl : a.size ≤ 20000
  · obtain ⟨K1, h1⟩ := spec_hex a hl
    obtain ⟨K2, h2⟩ := impl_hex a hl
    refine ⟨K1 + K2, ?_⟩
    have e1 := h1 (K1 + K2) (by omega)
    have e2 := h2 (K1 + K2) (by omega)
    unfold laws_FnExactEncodeHex.f spec_EncodeHex.f impl_EncodeHex.f
    rw [if_neg (by omega), if_neg (by omega), if_neg (by omega)]
    simp only [e1, e2, Option.bind_some]
    simp
  · refine ⟨0, ?_⟩
    unfold laws_FnExactEncodeHex.f spec_EncodeHex.f impl_EncodeHex.f
    by_cases h : (a.size : Int) > 1048576
    · rw [if_pos h]
    · rw [if_neg h, if_pos (by omega), if_pos (by omega)]
      simp

end Go.Proofs.Yteccjpcplceppaa.Pure
