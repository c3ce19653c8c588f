/- The reference's numerals are the library's, and so are the program's. No condition but a number that an int holds. -/
import Derived.Test.YtionemdnfhcfpaaDoorNumAid
import Derived.Test.YtionemdnfhcfpaaDoorLoopAid
import Derived.Test.YtionemdnfhcfpaaDoorHR2
import Derived.Test.YtionemdnfhcfpaaDoorHR7
set_option linter.unusedVariables false
set_option linter.unusedSimpArgs false
namespace Go.Proofs.YtionemdnfhcfpaaDoor.HR
open Go Go.RowKit Go.Proofs.YtionemdnfhcfpaaDoorW.PrintWords Go.Proofs.YtionemdnfhcfpaaDoorW.PrintLast Go.Proofs.YtionemdnfhcfpaaDoor.Aid

theorem mk_append (a b : List UInt8) : (⟨a.toArray⟩ : ByteArray) ++ ⟨b.toArray⟩ = ⟨(a ++ b).toArray⟩ := by
  apply ByteArray.ext
  simp [ByteArray.data_append]
theorem mk_size (a : List UInt8) : (⟨a.toArray⟩ : ByteArray).size = a.length := by simp [ByteArray.size]
theorem fmtInt_val {n : Int} (h0 : -9223372036854775808 ≤ n) (h1 : n ≤ 9223372036854775807) : impl_FormatInt.f n = some ⟨(Lib.itoa n).toArray⟩ := by
  unfold impl_FormatInt.f strconv_Itoa.f
  rw [if_pos ⟨h0, h1⟩]; rfl
theorem figure_val {x : Int} (h0 : 0 ≤ x) (h1 : x < 10) : spec_l01Figure.f x = some (48 + x) := by
  unfold spec_l01Figure.f
  rw [if_pos h1, wrap_id (by omega) (by omega)]
  congr 1; omega
theorem str_one {d : Nat} (h : d < 10) : strOfNums [48 + (d : Int)] = ⟨[UInt8.ofNat (48 + d)].toArray⟩ := by
  unfold strOfNums
  have : (48 + (d : Int)).toNat = 48 + d := by omega
  simp [this]
def digs (u : Nat) : List UInt8 := if u = 0 then [] else Lib.decDigits u
theorem digs_step {u : Nat} (h : 0 < u) : digs u = digs (u / 10) ++ [UInt8.ofNat (48 + u % 10)] := by
  unfold digs
  rw [if_neg (by omega)]
  by_cases h1 : u < 10
  · rw [Lib.decDigits_one h1, if_pos (by omega), Nat.mod_eq_of_lt h1]; rfl
  · rw [Lib.decDigits, dif_neg h1, if_neg (by omega)]
theorem tmod_at {x : Int} {u : Nat} (h : x = (u : Int) ∨ x = -(u : Int)) : x.tmod 10 = ((u % 10 : Nat) : Int) ∨ x.tmod 10 = -((u % 10 : Nat) : Int) := by
  rcases h with rfl | rfl
  · left; rw [Int.tmod_eq_emod_of_nonneg (by omega)]; omega
  · right; rw [Int.neg_tmod, Int.tmod_eq_emod_of_nonneg (by omega)]; omega
theorem tdiv_at {x : Int} {u : Nat} (h : x = (u : Int) ∨ x = -(u : Int)) : x.tdiv 10 = ((u / 10 : Nat) : Int) ∨ x.tdiv 10 = -((u / 10 : Nat) : Int) := by
  rcases h with rfl | rfl
  · left; rw [Int.tdiv_eq_ediv_of_nonneg (by omega)]; omega
  · right; rw [Int.neg_tdiv, Int.tdiv_eq_ediv_of_nonneg (by omega)]; omega
theorem fmt_loop : ∀ (u : Nat) (x : Int) (m : Bool) (L : List UInt8), (x = (u : Int) ∨ x = -(u : Int)) → u ≤ 9223372036854775808 → L.length + (digs u).length ≤ 100 →
    Ev (fun k => spec_FormatInt.l0 k x m ⟨L.toArray⟩) ⟨((if m = true then [45] else []) ++ (digs u ++ L)).toArray⟩ := by
  intro u
  induction u using Nat.strongRecOn with
  | _ u ih =>
    intro x m L hx hu hl
    by_cases h0 : u = 0
    · subst h0
      have hx0 : x = 0 := by omega
      subst hx0
      refine ⟨1, fun k hk => ?_⟩
      obtain ⟨k, rfl⟩ : ∃ j, k = j + 1 := ⟨k - 1, by omega⟩
      have hsz := mk_size L
      simp only [spec_FormatInt.l0]
      rw [if_pos trivial]
      cases m with
      | true =>
        rw [if_pos rfl, if_pos (by rw [hsz]; omega)]
        exact congrArg some (mk_append [45] L)
      | false => rfl
    · have hd : u % 10 < 10 := by omega
      have hst := digs_step (u := u) (by omega)
      have hq := tdiv_at hx
      have hqw : wrap64 (x.tdiv 10) = x.tdiv 10 := wrap_id (by omega) (by omega)
      obtain ⟨K, hK⟩ := ih (u / 10) (by omega) (x.tdiv 10) m (UInt8.ofNat (48 + u % 10) :: L) hq (by omega) (by rw [hst] at hl; simp at hl ⊢; omega)
      refine ⟨K + 1, fun k hk => ?_⟩
      obtain ⟨k, rfl⟩ : ∃ j, k = j + 1 := ⟨k - 1, by omega⟩
      have e : spec_FormatInt.l0 k (x.tdiv 10) m ⟨(UInt8.ofNat (48 + u % 10) :: L).toArray⟩ = some _ := hK k (by omega)
      have happ : strOfNums [48 + ((u % 10 : Nat) : Int)] ++ ⟨L.toArray⟩ = ⟨(UInt8.ofNat (48 + u % 10) :: L).toArray⟩ := by
        rw [str_one hd, mk_append]; rfl
      have hsz : (strOfNums [48 + ((u % 10 : Nat) : Int)]).size + (⟨L.toArray⟩ : ByteArray).size ≤ 9223372036854775807 := by
        rw [str_one hd, mk_size, mk_size]; simp; omega
      have hfin : (if m = true then [45] else []) ++ (digs (u / 10) ++ (UInt8.ofNat (48 + u % 10) :: L)) = (if m = true then [45] else []) ++ (digs u ++ L) := by
        rw [hst]; simp
      rw [hfin] at e
      have go : ∀ y : Int, y = ((u % 10 : Nat) : Int) → ((spec_l01Figure.f y).bind fun t => ((some (([t] : List Int) : List Int)).bind fun z => (if (strOfNums z).size + (⟨L.toArray⟩ : ByteArray).size ≤ 9223372036854775807 then spec_FormatInt.l0 k (wrap64 (Int.tdiv x 10)) m ((strOfNums z) ++ ⟨L.toArray⟩) else none))) = some ⟨((if m = true then [45] else []) ++ (digs u ++ L)).toArray⟩ := by
        intro y hy
        rw [hy, figure_val (by omega) (by omega), Option.bind_some, Option.bind_some, if_pos hsz, happ, hqw, e]
      show spec_FormatInt.l0 (k + 1) x m ⟨L.toArray⟩ = some _
      simp only [spec_FormatInt.l0]
      rw [if_neg (by omega)]
      rcases tmod_at hx with ht | ht
      · rw [if_neg (by omega)]
        exact go _ ht
      · by_cases hz : x.tmod 10 < 0
        · rw [if_pos hz]
          exact go _ (by rw [wrap_id (by omega) (by omega)]; omega)
        · rw [if_neg hz]
          exact go _ (by omega)
theorem specFmt_ev {n : Int} (h0 : -9223372036854775808 ≤ n) (h1 : n ≤ 9223372036854775807) : Ev (fun k => spec_FormatInt.f k n) ⟨(Lib.itoa n).toArray⟩ := by
  by_cases hz : n = 0
  · subst hz
    refine Ev.congr (fun k => ?_) (ev_some _)
    unfold spec_FormatInt.f
    rw [if_pos rfl, itoa_pos (by omega), Lib.decDigits_one (by decide)]
    rfl
  · have hl : (digs n.natAbs).length ≤ 19 := by
      unfold digs
      rw [if_neg (by omega)]
      exact digits_len _ 19 (by omega) (by omega)
    have h := fmt_loop n.natAbs n (decide (n < 0)) [] (by omega) (by omega) (by simp; omega)
    have e : (if decide (n < 0) = true then [45] else []) ++ (digs n.natAbs ++ []) = Lib.itoa n := by
      have hd : digs n.natAbs = Lib.decDigits n.natAbs := by unfold digs; rw [if_neg (by omega)]
      unfold Lib.itoa
      rw [hd, List.append_nil]
      by_cases hn : n < 0
      · rw [if_pos (by simpa using hn), if_pos hn]; rfl
      · have : n.natAbs = n.toNat := by omega
        rw [if_neg (by simpa using hn), if_neg hn, this]; rfl
    rw [e] at h
    refine Ev.congr (fun k => ?_) h
    unfold spec_FormatInt.f
    rw [if_neg hz]
end Go.Proofs.YtionemdnfhcfpaaDoor.HR
