/- The numbers that are parsed from decimal texts, as the program and as the reference tell them. No condition but a text that memory holds. -/
import Derived.Test.YtionemdnfhcfpaaDoorFmtHR
import Derived.Test.YtionemdnfhcfpaaDoorSplitTHR
import Derived.Test.YtionemdnfhcfpaaDoorHR3
import Derived.Test.YtionemdnfhcfpaaDoorHR9
set_option linter.unusedVariables false
set_option linter.unusedSimpArgs false
namespace Go.Proofs.YtionemdnfhcfpaaDoor.HR
open Go Go.RowKit Go.Proofs.YtionemdnfhcfpaaDoorW.PrintWords Go.Proofs.YtionemdnfhcfpaaDoorW.PrintLast Go.Proofs.YtionemdnfhcfpaaDoor.Aid

theorem implUint_val {a : ByteArray} (ha : a.size ≤ 281474976710656) : impl_ParseUint.f a = some (puB a.data.toList) := by
  unfold impl_ParseUint.f
  rw [if_pos ha]
  congr 1
  unfold impl_ParseUint.v
  rcases puB_cases a.data.toList with ⟨n, h0, h1, e, hp⟩ | ⟨hp, hn⟩
  · rw [hp, e, atoiAll_itoa h0 h1]
    simp only
    rw [if_pos ⟨h0, h1⟩, if_pos trivial]
  · rw [hp]
    cases Lib.atoiAll a.data.toList with
    | range => rfl
    | ok v =>
      simp only
      by_cases hv : 0 ≤ v ∧ v ≤ 1000000000
      · rw [if_pos hv, if_neg (fun e => hn v hv.1 hv.2 e.symm)]
      · rw [if_neg hv]
    | _ => rfl
def uintFin (L : List UInt8) : Option Nat → Int × Bool
  | some m => if m ≤ 1000000000 ∧ Lib.itoa (m : Int) = L then ((m : Int), true) else (0, false)
  | none => (0, false)
theorem uintFin_puB (L : List UInt8) : uintFin L (Lib.decFrom 0 L) = puB L := by
  unfold puB uintFin
  cases Lib.decFrom 0 L <;> rfl
theorem uint_ev (a : ByteArray) (ha : a.size ≤ 10) : ∀ (d i acc p : Nat), a.size - i = d → i ≤ a.size → p = 10 ^ i → acc < p → Ev (fun k => spec_ParseUint.l0 k a (acc : Int) (i : Int)) (uintFin a.data.toList (Lib.decFrom acc (a.data.toList.drop i))) := by
  have hL := size_list a
  have hpow : ∀ i : Nat, i ≤ 10 → 10 ^ i ≤ 10000000000 := fun i hi => Nat.le_trans (Nat.pow_le_pow_right (by decide) hi) (by decide)
  intro d
  induction d with
  | zero =>
    intro i acc p hd hi hp hacc
    obtain rfl : i = a.size := by omega
    have hpb : p ≤ 10000000000 := hp ▸ hpow a.size ha
    clear hp hpow
    have hdrop : a.data.toList.drop a.size = [] := by rw [hL]; exact List.drop_length
    rw [hdrop]
    by_cases hbig : acc ≤ 1000000000
    · obtain ⟨K, hK⟩ := specFmt_ev (n := (acc : Int)) (by omega) (by omega)
      refine ⟨K + 1, fun k hk => ?_⟩
      obtain ⟨k, rfl⟩ : ∃ j, k = j + 1 := ⟨k - 1, by omega⟩
      have e : spec_FormatInt.f k (acc : Int) = some ⟨(Lib.itoa (acc : Int)).toArray⟩ := hK k (by omega)
      show spec_ParseUint.l0 (k + 1) a (acc : Int) (a.size : Int) = some _
      simp only [spec_ParseUint.l0]
      rw [if_neg (by omega), if_neg (by omega), e, Option.bind_some, toList_data, toList_data]
      simp only [uintFin, Lib.decFrom]
      by_cases h : Lib.itoa (acc : Int) = a.data.toList
      · rw [if_pos h, if_pos ⟨hbig, h⟩]
      · rw [if_neg h, if_neg (fun x => h x.2)]
    · refine ⟨1, fun k hk => ?_⟩
      obtain ⟨k, rfl⟩ : ∃ j, k = j + 1 := ⟨k - 1, by omega⟩
      show spec_ParseUint.l0 (k + 1) a (acc : Int) (a.size : Int) = some _
      simp only [spec_ParseUint.l0]
      rw [if_neg (by omega), if_pos (by omega)]
      simp only [uintFin, Lib.decFrom]
      rw [if_neg (fun x => hbig x.1)]
  | succ d ih =>
    intro i acc p hd hi hp hacc
    have hlt : i < a.size := by omega
    have hpb : p ≤ 10000000000 := hp ▸ hpow i (by omega)
    have hp1 : p * 10 = 10 ^ (i + 1) := by rw [Nat.pow_succ, hp]
    clear hp hpow
    obtain ⟨c, hc⟩ : ∃ c, a.data.toList[i]? = some c := ⟨_, List.getElem?_eq_getElem (by omega)⟩
    have hbt := bt_list hc
    have hc255 : c.toNat < 256 := c.toNat_lt
    have hdrop : a.data.toList.drop i = c :: a.data.toList.drop (i + 1) := by
      rw [List.drop_eq_getElem_cons (by omega)]
      congr 1
      exact (List.getElem?_eq_some_iff.1 hc).2
    rw [hdrop, decFrom_cons]
    by_cases hdig : 48 ≤ c.toNat ∧ c.toNat ≤ 57
    · have hv : Lib.digitVal c = some (c.toNat - 48) := by unfold Lib.digitVal; rw [if_pos hdig]
      rw [hv]
      obtain ⟨K, hK⟩ := ih (i + 1) (acc * 10 + (c.toNat - 48)) (p * 10) (by omega) (by omega) hp1 (by omega)
      clear hp1 ih
      refine ⟨K + 1, fun k hk => ?_⟩
      obtain ⟨k, rfl⟩ : ∃ j, k = j + 1 := ⟨k - 1, by omega⟩
      have e : spec_ParseUint.l0 k a ((acc * 10 + (c.toNat - 48) : Nat) : Int) ((i + 1 : Nat) : Int) = some _ := hK k (by omega)
      show spec_ParseUint.l0 (k + 1) a (acc : Int) (i : Int) = some _
      simp only [spec_ParseUint.l0, hbt]
      have k1 : -9223372036854775808 ≤ 10 * (acc : Int) ∧ 10 * (acc : Int) ≤ 9223372036854775807 := by omega
      have k2 : -9223372036854775808 ≤ (c.toNat : Int) ∧ (c.toNat : Int) ≤ 9223372036854775807 := by omega
      have k3 : -9223372036854775808 ≤ 10 * (acc : Int) + (c.toNat : Int) ∧ 10 * (acc : Int) + (c.toNat : Int) ≤ 9223372036854775807 := by omega
      have k4 : -9223372036854775808 ≤ 10 * (acc : Int) + (c.toNat : Int) - 48 ∧ 10 * (acc : Int) + (c.toNat : Int) - 48 ≤ 9223372036854775807 := by omega
      have k5 : 10 * (acc : Int) + (c.toNat : Int) - 48 = ((acc * 10 + (c.toNat - 48) : Nat) : Int) := by omega
      have k6 : (i : Int) < (a.size : Int) := by omega
      have k7 : (0 : Int) ≤ (i : Int) := by omega
      have k8 : ¬ (c.toNat : Int) < 48 := by omega
      have k9 : ¬ (c.toNat : Int) > 57 := by omega
      have k10 := wrap_succ (n := i) (N := a.size) hlt (by omega)
      rw [if_pos k6, if_pos k7, if_neg k8, if_neg k9, wrap_id k1.1 k1.2, wrap_id k2.1 k2.2, wrap_id k3.1 k3.2, wrap_id k4.1 k4.2, k5, k10]
      exact e
    · have hv : Lib.digitVal c = none := by unfold Lib.digitVal; rw [if_neg hdig]
      rw [hv]
      refine ⟨1, fun k hk => ?_⟩
      obtain ⟨k, rfl⟩ : ∃ j, k = j + 1 := ⟨k - 1, by omega⟩
      show spec_ParseUint.l0 (k + 1) a (acc : Int) (i : Int) = some (0, false)
      simp only [spec_ParseUint.l0, hbt]
      rw [if_pos (by omega), if_pos (by omega)]
      by_cases h1 : (c.toNat : Int) < 48
      · rw [if_pos h1]
      · rw [if_neg h1, if_pos (by omega)]
theorem specUint_ev (a : ByteArray) : Ev (fun k => spec_ParseUint.f k a) (puB a.data.toList) := by
  have hL := size_list a
  by_cases h : a.size ≤ 10
  · have he := uint_ev a h a.size 0 0 1 (by omega) (by omega) rfl (by decide)
    rw [List.drop_zero, uintFin_puB] at he
    refine Ev.congr (fun k => ?_) he
    unfold spec_ParseUint.f
    rw [if_neg (by omega)]
    rfl
  · have hp : puB a.data.toList = (0, false) := by
      rcases puB_cases a.data.toList with ⟨n, h0, h1, e, _⟩ | ⟨hp, _⟩
      · have := itoa_len h0 h1
        rw [← e] at this
        omega
      · exact hp
    rw [hp]
    refine Ev.congr (fun k => ?_) (ev_some _)
    unfold spec_ParseUint.f
    rw [if_pos (by omega)]
end Go.Proofs.YtionemdnfhcfpaaDoor.HR
