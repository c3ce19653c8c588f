/- Exactly the numbers from 0 to the bound can be read back from their decimal text, whatever number is drawn. -/
import Derived.Test.YtionemdnfhcfpaaDoorHQFnNumbersStmt
import Derived.Test.YtionemdnfhcfpaaDoorAid
import Derived.Test.YtionemdnfhcfpaaDoorLoopAid
import Derived.Test.YtionemdnfhcfpaaDoorUintTHQ
import Derived.Test.YtionemdnfhcfpaaDoorPickHQ
import Derived.Test.YtionemdnfhcfpaaDoorLongTHQ
set_option linter.unusedVariables false
set_option linter.unusedSimpArgs false
namespace Go.Proofs.YtionemdnfhcfpaaDoor.Pure
open Go.RowKit Go.Proofs.YtionemdnfhcfpaaDoor.HQ Go.Proofs.YtionemdnfhcfpaaDoorW.PrintWords Go.Proofs.YtionemdnfhcfpaaDoorW.PrintLast Go.Proofs.YtionemdnfhcfpaaDoor.Aid

theorem wrap_in (x : Int) : -9223372036854775808 ≤ wrap64 x ∧ wrap64 x ≤ 9223372036854775807 := by unfold wrap64; omega
theorem draw_int (b : List Int) (hb : b.length ≤ 140737488351232) : ∃ n : Int, (-9223372036854775808 ≤ n ∧ n ≤ 9223372036854775807) ∧ Ev (fun k => spec_DrawFormatInt.f k b) n := by
  obtain ⟨i, h, hn, hi⟩ := new_ok b
  obtain ⟨x, i1, g1, e1, hi1⟩ := once_ok (h := h) hb hi 3
  have key : ∃ n : Int, (-9223372036854775808 ≤ n ∧ n ≤ 9223372036854775807) ∧ (if x = true then ((spec_l01Below.f b i1 g1 1000000).bind fun bt425 => ((spec_l01Below.f b bt425.2.1 bt425.2.2 2000000).bind fun bt428 => (some (wrap64 (bt425.1 * (wrap64 (bt428.1 - 1000000))))))) else ((spec_l01Number.f b i1 g1).bind fun bt431 => (some bt431.1))) = some n := by
    cases x with
    | true =>
      obtain ⟨y, i2, g2, e2, _, _, _, hi2⟩ := below_ok (h := g1) hb hi1 1000000
      obtain ⟨z, i3, g3, e3, _, _, _, hi3⟩ := below_ok (h := g2) hb hi2 2000000
      refine ⟨_, wrap_in (y * wrap64 (z - 1000000)), ?_⟩
      rw [if_pos rfl, e2, Option.bind_some, e3, Option.bind_some]
    | false =>
      rw [if_neg (by decide)]
      unfold spec_l01Number.f
      obtain ⟨y, i2, g2, e2, _, _, _, hi2⟩ := below_ok (h := g1) hb hi1 4
      rw [e2, Option.bind_some]
      by_cases hy : y = 0
      · rw [if_pos hy]
        obtain ⟨n, i3, g3, e3, hm, _⟩ := pick_ok (h := g2) hb hi2 [(-1), 0, 127, 128, 16383, 16384, 1000000000, 1000000001, 9223372036854775807, (-9223372036854775808)] (by decide)
        refine ⟨n, ?_, by rw [e3]; rfl⟩
        revert n
        intro n _ hm
        have : ∀ x ∈ ([(-1), 0, 127, 128, 16383, 16384, 1000000000, 1000000001, 9223372036854775807, (-9223372036854775808)] : List Int), -9223372036854775808 ≤ x ∧ x ≤ 9223372036854775807 := by decide
        exact this n hm
      · rw [if_neg hy]
        by_cases hy1 : y = 1
        · rw [if_pos hy1]
          obtain ⟨n, i3, g3, e3, h0, h1, _, _⟩ := below_ok (h := g2) hb hi2 1000000000
          have h1 := h1 (by decide)
          exact ⟨n, by omega, by rw [e3]; rfl⟩
        · rw [if_neg hy1]
          obtain ⟨n, i3, g3, e3, h0, h1, _, _⟩ := below_ok (h := g2) hb hi2 400
          have h1 := h1 (by decide)
          exact ⟨n, by omega, by rw [e3]; rfl⟩
  obtain ⟨n, hn', ek⟩ := key
  obtain ⟨K, hK⟩ := hn
  refine ⟨n, hn', K, fun k hk => ?_⟩
  have e0 : spec_l01New.f k b = some (b, i, h) := hK k hk
  show spec_DrawFormatInt.f k b = some n
  unfold spec_DrawFormatInt.f
  simp only [e0, e1, Option.bind_some]
  exact ek
theorem FnNumbers : laws_FnNumbers.PureH := by
  intro b h8 _
  by_cases hb : (b.length : Int) > 1048576
  · refine ⟨0, ?_⟩
    unfold laws_FnNumbers.f laws_big.f
    rw [Option.bind_some, if_pos (by simpa using hb)]
  obtain ⟨n, ⟨h0, h1⟩, K, hK⟩ := draw_int b (by omega)
  refine ⟨K, ?_⟩
  have e : spec_DrawFormatInt.f K b = some n := hK K (Nat.le_refl _)
  unfold laws_FnNumbers.f laws_big.f
  have hl : (Lib.itoa n).length ≤ 20 := by
    unfold Lib.itoa
    split
    · have := digits_len n.natAbs 19 (by omega) (by omega)
      simp; omega
    · have := digits_len n.toNat 19 (by omega) (by omega)
      omega
  have hp := implUint_val (a := ⟨(Lib.itoa n).toArray⟩) (by rw [mk_size]; omega)
  have hd : (⟨(Lib.itoa n).toArray⟩ : ByteArray).data.toList = Lib.itoa n := by simp
  rw [hd] at hp
  rw [Option.bind_some, if_neg (by simpa using hb), e, Option.bind_some, fmtInt_val h0 h1, Option.bind_some, hp, Option.bind_some, toList_data, hd]
  have hne := itoa_ne n
  by_cases hn : n ≥ 0
  · rw [if_pos hn, if_neg hne]
    by_cases hm : n ≤ 1000000000
    · rw [puB_itoa hn hm, if_pos (by simpa using hm), if_pos hm]
      simp
    · rw [puB_neg (Or.inr (by omega)), if_pos (by simpa using hm), if_neg hm]
  · rw [if_neg hn, if_neg hne, puB_neg (Or.inl (by omega))]
    rfl

end Go.Proofs.YtionemdnfhcfpaaDoor.Pure
