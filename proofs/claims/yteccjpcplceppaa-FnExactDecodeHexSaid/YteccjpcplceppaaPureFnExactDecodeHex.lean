/- For every string of at most 2^20 bytes, the program's DecodeHex gives what the reference's gives; of a longer one the law asks nothing. -/
import Derived.Test.YteccjpcplceppaaHFnExactDecodeHexStmt
import Derived.Test.YteccjpcplceppaaAid
import Derived.Test.YteccjpcplceppaaLoopAid
set_option linter.unusedVariables false
set_option linter.unusedSimpArgs false
namespace Go.Proofs.Yteccjpcplceppaa.Pure
open Go.RowKit Go.Proofs.Yteccjpcplceppaa.H Go.Proofs.YteccjpcplceppaaW.PrintWords Go.Proofs.YteccjpcplceppaaW.PrintLast Go.Proofs.Yteccjpcplceppaa.Aid

def hv (c : Int) : Int := if 48 ≤ c ∧ c ≤ 57 then c - 48 else if 97 ≤ c ∧ c ≤ 102 then c - 87 else 16
theorem hv_range (c : Int) : 0 ≤ hv c ∧ hv c ≤ 16 := by unfold hv; split <;> (try split) <;> omega
theorem bt_fin (a : ByteArray) (i : Int) : ∃ c : Fin 256, bt a i = (c.val : Int) := ⟨⟨(bt a i).toNat, by have := bt_range a i; omega⟩, by have := bt_range a i; simp; omega⟩
theorem value_at : ∀ c : Fin 256, spec_l01Value.f 1 (c.val : Int) = some (if hv (c.val : Int) = 16 then -1 else hv (c.val : Int)) ∧ impl_hexDigit.f 1 (c.val : Int) = some (hv (c.val : Int)) := by decide +kernel
theorem join_at : ∀ h l : Fin 16, (wrap64 ((wrap64 (16 * (h.val : Int))) + (l.val : Int))) % 256 = Go.bits .or .u8 (((h.val : Int) * 16) % 256) (l.val : Int) := by decide +kernel
theorem spec_val (a : ByteArray) (i : Int) {k : Nat} (hk : 1 ≤ k) : spec_l01Value.f k (bt a i) = some (if hv (bt a i) = 16 then -1 else hv (bt a i)) := by
  obtain ⟨c, hc⟩ := bt_fin a i
  rw [hc]
  exact at_rounds (fun k => spec_l01Value.mono _ k) hk (value_at c).1
theorem impl_val (a : ByteArray) (i : Int) {k : Nat} (hk : 1 ≤ k) : impl_hexDigit.f k (bt a i) = some (hv (bt a i)) := by
  obtain ⟨c, hc⟩ := bt_fin a i
  rw [hc]
  exact at_rounds (fun k => impl_hexDigit.mono _ k) hk (value_at c).2
theorem joined (a : ByteArray) (i j : Int) (h1 : hv (bt a i) ≠ 16) (h2 : hv (bt a j) ≠ 16) : (wrap64 ((wrap64 (16 * hv (bt a i))) + hv (bt a j))) % 256 = Go.bits .or .u8 ((hv (bt a i) * 16) % 256) (hv (bt a j)) := by
  have r1 := hv_range (bt a i)
  have r2 := hv_range (bt a j)
  have := join_at ⟨(hv (bt a i)).toNat, by omega⟩ ⟨(hv (bt a j)).toNat, by omega⟩
  simp only [Int.toNat_of_nonneg r1.1, Int.toNat_of_nonneg r2.1] at this
  exact this
/-- Both loops, side by side. -/
theorem both (a : ByteArray) (ha : a.size ≤ 1048576) (he : a.size % 2 = 0) : ∃ r : (ByteArray × Bool) × (ByteArray × Bool), (r.1 = r.2 ∧ (r.1.2 = true → r.1.1.size = a.size / 2) ∧ (r.1.2 = false → r.1.1 = (⟨#[]⟩ : ByteArray))) ∧
    Ev (fun k => (spec_DecodeHex.l0 k a [] 0).bind fun x => (impl_readHex.l0 k a [] 0).bind fun y => some (x, y)) r := by
  have h := loop_ev (fun k n (s : List Int) => (spec_DecodeHex.l0 k a s ((2 * n : Nat) : Int)).bind fun x => (impl_readHex.l0 k a s ((2 * n : Nat) : Int)).bind fun y => some (x, y)) (a.size / 2) (fun n s => s.length = n)
    (fun r : (ByteArray × Bool) × (ByteArray × Bool) => r.1 = r.2 ∧ (r.1.2 = true → r.1.1.size = a.size / 2) ∧ (r.1.2 = false → r.1.1 = (⟨#[]⟩ : ByteArray)))
    (fun n s hn hI => by
      have w1 : wrap64 (((2 * n : Nat) : Int) + 1) = ((2 * n + 1 : Nat) : Int) := wrap_succ (N := a.size) (by omega) (by omega)
      have w2 : wrap64 (((2 * n : Nat) : Int) + 2) = ((2 * (n + 1) : Nat) : Int) := by rw [wrap_id (by omega) (by omega)]; omega
      by_cases e1 : hv (bt a ((2 * n : Nat) : Int)) = 16
      · refine Or.inr ⟨(((⟨#[]⟩ : ByteArray), false), ((⟨#[]⟩ : ByteArray), false)), ⟨rfl, by simp, by simp⟩, 1, fun k hk => ?_⟩
        simp only [spec_DecodeHex.l0, impl_readHex.l0, w1]
        rw [if_pos (by omega), if_pos (by omega), spec_val a _ hk, Option.bind_some, if_pos (by omega), if_pos (by omega), spec_val a _ hk, Option.bind_some, if_pos e1, if_pos (by omega), Option.bind_some, if_pos (by omega), if_pos (by omega), impl_val a _ hk, Option.bind_some, if_pos (by omega), if_pos (by omega), impl_val a _ hk, Option.bind_some, if_pos e1]
        rfl
      · have r1 := hv_range (bt a ((2 * n : Nat) : Int))
        have r2 := hv_range (bt a ((2 * n + 1 : Nat) : Int))
        by_cases e2 : hv (bt a ((2 * n + 1 : Nat) : Int)) = 16
        · refine Or.inr ⟨(((⟨#[]⟩ : ByteArray), false), ((⟨#[]⟩ : ByteArray), false)), ⟨rfl, by simp, by simp⟩, 1, fun k hk => ?_⟩
          simp only [spec_DecodeHex.l0, impl_readHex.l0, w1]
          rw [if_pos (by omega), if_pos (by omega), spec_val a _ hk, Option.bind_some, if_pos (by omega), if_pos (by omega), spec_val a _ hk, Option.bind_some, if_neg e1, if_neg (by omega), if_pos e2, if_pos (by omega), Option.bind_some, if_pos (by omega), if_pos (by omega), impl_val a _ hk, Option.bind_some, if_pos (by omega), if_pos (by omega), impl_val a _ hk, Option.bind_some, if_neg e1, if_pos e2]
          rfl
        · refine Or.inl ⟨s ++ [Go.bits .or .u8 ((hv (bt a ((2 * n : Nat) : Int)) * 16) % 256) (hv (bt a ((2 * n + 1 : Nat) : Int)))], by simp [hI], 1, fun k hk => ?_⟩
          have hj := joined a ((2 * n : Nat) : Int) ((2 * n + 1 : Nat) : Int) e1 e2
          simp only [spec_DecodeHex.l0, impl_readHex.l0, w1, w2]
          rw [if_pos (by omega), if_pos (by omega), spec_val a _ hk, Option.bind_some, if_pos (by omega), if_pos (by omega), spec_val a _ hk, Option.bind_some, if_neg e1, if_neg (by omega), if_neg e2, if_neg (by omega), if_pos (by omega), hj, if_pos (by omega), if_pos (by omega), impl_val a _ hk, Option.bind_some, if_pos (by omega), if_pos (by omega), impl_val a _ hk, Option.bind_some, if_neg e1, if_neg e2, if_pos (by omega)])
    (fun s hI => ⟨((strOfNums s, true), (strOfNums s, true)), ⟨rfl, fun _ => (strOfNums_size s).trans hI, by simp⟩, 0, fun k _ => by
      simp only [spec_DecodeHex.l0, impl_readHex.l0]
      rw [if_neg (by omega), if_neg (by omega)]
      rfl⟩) 0 [] (Nat.zero_le _) rfl
  exact h
theorem FnExactDecodeHex : laws_FnExactDecodeHex.PureH := by
  intro a _
  by_cases hbig : (a.size : Int) > 1048576
  · refine ⟨0, ?_⟩
    unfold laws_FnExactDecodeHex.f
    rw [if_pos hbig]
  · by_cases he : a.size % 2 = 0
    · obtain ⟨⟨x, y⟩, ⟨hxy, ht, hf⟩, K, hK⟩ := both a (by omega) he
      simp only at hxy ht hf
      subst hxy
      refine ⟨K + 1, ?_⟩
      have e := hK (K + 1) (by omega)
      have e0 := hK K (Nat.le_refl _)
      simp only [Option.bind_eq_some_iff, Option.some.injEq, Prod.mk.injEq] at e e0
      obtain ⟨x1, hx1, y1, hy1, rfl, rfl⟩ := e
      obtain ⟨x2, hx2, y2, hy2, h3, h4⟩ := e0
      subst h3
      unfold laws_FnExactDecodeHex.f spec_DecodeHex.f impl_DecodeHex.f impl_readHex.f
      rw [if_neg hbig, if_neg (show ¬ ((a.size : Int) % 2) = 1 by omega), wrap_id (by omega) (by omega), if_pos (show 0 ≤ (a.size : Int) / 2 by omega), if_pos (show ((a.size : Int) / 2).toNat ≤ 281474976710656 by omega)]
      obtain ⟨b, t⟩ := x2
      by_cases h4 : (a.size : Int) > 40000
      · rw [if_pos h4]
        simp only [spec_DecodeHex.j0, hy1, Option.bind_some, if_true]
        cases t with
        | true =>
          have := ht rfl
          simp only at this
          simp only [gt_iff_lt]
          rw [if_pos (show (20000 : Int) < (b.size : Int) by omega)]
          simp
        | false => simp
      · rw [if_neg h4]
        have h5 : (((a.size : Int) % 2) != 0) = false := by simp; omega
        rw [h5]
        simp only [spec_DecodeHex.j0, hx2, hy1, Option.bind_some]
        cases t with
        | true =>
          have := ht rfl
          simp only at this
          rw [if_neg (by decide), Option.bind_some, if_pos rfl, if_neg (by omega)]
          simp
        | false =>
          have := hf rfl
          simp only at this
          subst this
          simp
    · refine ⟨1, ?_⟩
      unfold laws_FnExactDecodeHex.f spec_DecodeHex.f impl_DecodeHex.f impl_readHex.f
      rw [if_neg hbig, if_pos (show (a.size : Int) % 2 = 1 by omega)]
      have h5 : (((a.size : Int) % 2) != 0) = true := by simp; omega
      rw [h5]
      by_cases h4 : (a.size : Int) > 40000
      · rw [if_pos h4]; simp [spec_DecodeHex.j0]
      · rw [if_neg h4]; simp [spec_DecodeHex.j0]

end Go.Proofs.Yteccjpcplceppaa.Pure
