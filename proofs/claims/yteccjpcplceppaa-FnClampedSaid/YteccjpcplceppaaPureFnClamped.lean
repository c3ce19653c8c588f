/- For every code (of whatever length: above 2^20 bytes the law asks nothing), a clamped number is in the range, is not changed again, and equals the number if this is in the range. -/
import Derived.Test.YteccjpcplceppaaHFnClampedStmt
import Derived.Test.YteccjpcplceppaaAid
import Derived.Test.YteccjpcplceppaaLoopAid
import Derived.Test.YteccjpcplceppaaDraw
set_option linter.unusedVariables false
set_option linter.unusedSimpArgs false
namespace Go.Proofs.Yteccjpcplceppaa.Pure
open Go.RowKit Go.Proofs.Yteccjpcplceppaa.H Go.Proofs.YteccjpcplceppaaW.PrintWords Go.Proofs.YteccjpcplceppaaW.PrintLast Go.Proofs.Yteccjpcplceppaa.Aid

theorem once_ok {b : List Int} (hb : b.length ≤ 140737488351232) {i h : Int} (hi : Rok b i) (n : Int) : ∃ x i' h', spec_l01Once.f b i h n = some (x, i', h') ∧ Rok b i' := by
  obtain ⟨x, i1, h1, e, _, _, _, hi1⟩ := below_ok (h := h) hb hi n
  unfold spec_l01Once.f
  rw [e]
  exact ⟨_, _, _, rfl, hi1⟩
theorem pick_ok {b : List Int} (hb : b.length ≤ 140737488351232) {i h : Int} (hi : Rok b i) (l : List Int) (hl : 0 < l.length) : ∃ x i' h', spec_l01PickInt.f b i h l = some (x, i', h') ∧ Rok b i' := by
  obtain ⟨x, i1, h1, e, h0, hlt, _, hi1⟩ := below_ok (h := h) hb hi (l.length : Int)
  unfold spec_l01PickInt.f
  rw [e, Option.bind_some, if_pos h0, if_pos (hlt (by omega))]
  exact ⟨_, _, _, rfl, hi1⟩
theorem number_ok {b : List Int} (hb : b.length ≤ 140737488351232) {i h : Int} (hi : Rok b i) : ∃ x i' h', spec_l01Number.f b i h = some (x, i', h') ∧ Rok b i' := by
  obtain ⟨x, i1, h1, e, _, _, _, hi1⟩ := below_ok (h := h) hb hi 4
  unfold spec_l01Number.f
  rw [e, Option.bind_some]
  by_cases h0 : x = 0
  · rw [if_pos h0]
    obtain ⟨y, i2, h2, e2, hi2⟩ := pick_ok (h := h1) hb hi1 [(-1), 0, 127, 128, 16383, 16384, 1000000000, 1000000001, 9223372036854775807, (-9223372036854775808)] (by decide)
    rw [e2]
    exact ⟨_, _, _, rfl, hi2⟩
  · rw [if_neg h0]
    by_cases h3 : x = 1
    · rw [if_pos h3]
      obtain ⟨y, i2, h2, e2, _, _, _, hi2⟩ := below_ok (h := h1) hb hi1 1000000000
      rw [e2]
      exact ⟨_, _, _, rfl, hi2⟩
    · rw [if_neg h3]
      obtain ⟨y, i2, h2, e2, _, _, _, hi2⟩ := below_ok (h := h1) hb hi1 400
      rw [e2]
      exact ⟨_, _, _, rfl, hi2⟩
theorem draw_clamp (b : List Int) (hb : b.length ≤ 140737488351232) : ∃ n x y, Ev (fun k => spec_DrawClamp.f k b) (n, x, y) := by
  obtain ⟨i, h, hn, hi⟩ := new_ok b
  obtain ⟨t, i1, h1, e1, hi1⟩ := once_ok (h := h) hb hi 4
  unfold spec_DrawClamp.f
  cases t with
  | true =>
    obtain ⟨n, i2, h2, e2, hi2⟩ := number_ok (h := h1) hb hi1
    obtain ⟨x, i3, h3, e3, hi3⟩ := number_ok (h := h2) hb hi2
    obtain ⟨y, i4, h4, e4, hi4⟩ := number_ok (h := h3) hb hi3
    refine ⟨n, x, y, Ev.bind hn ?_⟩
    simp only [e1, e2, e3, e4, Option.bind_some, if_true]
    exact ev_some _
  | false =>
    obtain ⟨n, i2, h2, e2, _, _, _, hi2⟩ := below_ok (h := h1) hb hi1 40
    obtain ⟨x, i3, h3, e3, _, _, _, hi3⟩ := below_ok (h := h2) hb hi2 80
    obtain ⟨y, i4, h4, e4, _, _, _, hi4⟩ := below_ok (h := h3) hb hi3 30
    refine ⟨wrap64 (x - 40), wrap64 (n - 20), wrap64 (wrap64 (wrap64 (n - 20) + y) - 3), Ev.bind hn ?_⟩
    simp only [e1, e2, e3, e4, Option.bind_some, Bool.false_eq_true, if_false]
    exact ev_some _
theorem clamp_val (n a b : Int) : impl_Clamp.f n a b = some (if b < a then a else mn (mx n a) b) := by
  unfold impl_Clamp.f; split <;> rfl
theorem FnClamped : laws_FnClamped.PureH := by
  intro l hl _
  have hb : l.length ≤ 140737488351232 := by omega
  unfold laws_FnClamped.f laws_big.f
  by_cases hbig : (l.length : Int) > 1048576
  · exact ⟨0, by simp [hbig]⟩
  · obtain ⟨n, a, b, K, hK⟩ := draw_clamp l hb
    refine ⟨K, ?_⟩
    have e := hK K (Nat.le_refl _)
    have h7 : impl_Clamp.f 7 3 5 = some 5 := rfl
    simp only [hbig, decide_false, Option.bind_some, Bool.false_eq_true, if_false, e, h7, clamp_val]
    by_cases h1 : b < a
    · simp [h1]
    · have p1 : mn (mx n a) b ≥ a := by unfold mn mx; (repeat' split) <;> omega
      have p2 : mn (mx n a) b ≤ b := by unfold mn mx; (repeat' split) <;> omega
      have p3 : mn (mx (mn (mx n a) b) a) b = mn (mx n a) b := by unfold mn mx; (repeat' split) <;> omega
      by_cases h2 : n < a
      · simp [h1, p1, p2, p3, h2]
      · by_cases h3 : n > b
        · simp [h1, p1, p2, p3, h2, h3]
        · have p4 : mn (mx n a) b = n := by unfold mn mx; (repeat' split) <;> omega
          have p5 : n ≥ a := by omega
          have p6 : n ≤ b := by omega
          simp [h1, p4, h2, h3, p5, p6]

end Go.Proofs.Yteccjpcplceppaa.Pure
