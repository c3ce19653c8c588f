/- The twelve places that the reference draws. -/
import Derived.Test.YtomehbmijdjjfaaDraw2HA
import Derived.Test.YtomehbmijdjjfaaHA2
set_option linter.unusedVariables false
set_option linter.unusedSimpArgs false
namespace Go.Proofs.Ytomehbmijdjjfaa.HA
open Go Go.RowKit Go.Proofs.YtomehbmijdjjfaaW.PrintWords Go.Proofs.YtomehbmijdjjfaaW.PrintLast Go.Proofs.Ytomehbmijdjjfaa.Aid

theorem places_ok {b : List Int} (hb : b.length ≤ 140737488351232) : ∃ l : List Int, Ev (fun k => spec_DrawPlaces.f k b) l ∧ l.length = 12 ∧ ∀ x ∈ l, 0 ≤ x ∧ x ≤ 9999 := by
  obtain ⟨i, h, ⟨K0, h0⟩, hi⟩ := new_ok b
  obtain ⟨r, ⟨hr, hx⟩, K1, h1⟩ := loop_ev (fun k n (s : List Int × Int × Int) => spec_DrawPlaces.l0 k s.1 (n : Int) b s.2.1 s.2.2) 12
    (fun n s => s.1.length = n ∧ (∀ x ∈ s.1, 0 ≤ x ∧ x ≤ 9999) ∧ Rok b s.2.1) (fun r => r.length = 12 ∧ ∀ x ∈ r, 0 ≤ x ∧ x ≤ 9999)
    (fun n s hn hI => by
      obtain ⟨x, i', h', e, hx0, hx1, _, hi'⟩ := below_ok (h := s.2.2) hb hI.2.2 10000
      have hx1 := hx1 (by omega)
      refine Or.inl ⟨(s.1 ++ [x], i', h'), ⟨by simp [hI.1], fun y hy => ?_, hi'⟩, 0, fun k _ => ?_⟩
      · rcases List.mem_append.1 hy with hy | hy
        · exact hI.2.1 y hy
        · simp only [List.mem_cons, List.not_mem_nil, or_false] at hy
          subst hy; exact ⟨hx0, by omega⟩
      · simp only [spec_DrawPlaces.l0]
        rw [if_pos (by omega), e, Option.bind_some, if_pos (by omega), wrap_succ hn (by omega)])
    (fun s hI => ⟨s.1, ⟨hI.1, hI.2.1⟩, 0, fun k _ => by
      simp only [spec_DrawPlaces.l0]
      rw [if_neg (by omega)]⟩) 0 ([], i, h) (Nat.zero_le _) ⟨rfl, (fun x hx => by cases hx), hi⟩
  refine ⟨r, ⟨K0 + K1, fun k hk => ?_⟩, hr, hx⟩
  have e0 : spec_l01New.f k b = some (b, i, h) := h0 k (by omega)
  have e1 : spec_DrawPlaces.l0 k [] 0 b i h = some r := h1 k (by omega)
  show spec_DrawPlaces.f k b = some r
  unfold spec_DrawPlaces.f
  rw [e0, Option.bind_some]
  exact e1
end Go.Proofs.Ytomehbmijdjjfaa.HA
