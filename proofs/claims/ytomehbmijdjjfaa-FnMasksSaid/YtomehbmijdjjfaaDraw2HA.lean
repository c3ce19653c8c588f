/- A draw of a word. No condition. -/
import Derived.Test.YtomehbmijdjjfaaPickHA
import Derived.Test.YtomehbmijdjjfaaHA1
set_option linter.unusedVariables false
set_option linter.unusedSimpArgs false
namespace Go.Proofs.Ytomehbmijdjjfaa.HA
open Go Go.RowKit Go.Proofs.YtomehbmijdjjfaaW.PrintWords Go.Proofs.YtomehbmijdjjfaaW.PrintLast Go.Proofs.Ytomehbmijdjjfaa.Aid

theorem word_ok {b : List Int} (hb : b.length ≤ 140737488351232) {i h : Int} (hi : Rok b i) : ∃ x i' h', spec_l02Word.f b i h = some (x, i', h') ∧ 0 ≤ x ∧ x ≤ 65535 ∧ Rok b i' := by
  unfold spec_l02Word.f
  obtain ⟨n, i1, h1, e1, hn0, hn1, _, hi1⟩ := below_ok (h := h) hb hi 9
  obtain ⟨m, i2, h2, e2, hm0, hm1, _, hi2⟩ := below_ok (h := h1) hb hi1 9000
  have hn1 := hn1 (by omega)
  have hm1 := hm1 (by omega)
  obtain ⟨x, i3, h3, e3, hx, hi3⟩ := pick_ok (h := h2) hb hi2 [0, 1, 2, 7, 100, 65535, 32768, n, m] (by simp)
  simp only [e1, e2, e3, Option.bind_some]
  refine ⟨_, _, _, rfl, ?_, ?_, hi3⟩
  · simp only [List.mem_cons, List.not_mem_nil, or_false] at hx
    rcases hx with rfl | rfl | rfl | rfl | rfl | rfl | rfl | rfl | rfl <;> omega
  · simp only [List.mem_cons, List.not_mem_nil, or_false] at hx
    rcases hx with rfl | rfl | rfl | rfl | rfl | rfl | rfl | rfl | rfl <;> omega
end Go.Proofs.Ytomehbmijdjjfaa.HA
