/- A draw of a number out of a list. No condition but a list that is not empty. -/
import Derived.Test.YtionemdnfhcfpaaDoorDrawHQ
import Derived.Test.YtionemdnfhcfpaaDoorHQ21
set_option linter.unusedVariables false
set_option linter.unusedSimpArgs false
namespace Go.Proofs.YtionemdnfhcfpaaDoor.HQ
open Go Go.RowKit Go.Proofs.YtionemdnfhcfpaaDoorW.PrintWords Go.Proofs.YtionemdnfhcfpaaDoorW.PrintLast Go.Proofs.YtionemdnfhcfpaaDoor.Aid

theorem rd_in {l : List Int} {n : Int} (h0 : 0 ≤ n) (h1 : n < (l.length : Int)) : rd l n ∈ l := by
  unfold rd
  have hl : n.toNat < l.length := by omega
  rw [List.getD_eq_getElem?_getD, List.getElem?_eq_getElem hl]
  exact List.getElem_mem hl
theorem pick_ok {b : List Int} (hb : b.length ≤ 140737488351232) {i h : Int} (hi : Rok b i) (l : List Int) (hl : 0 < l.length) : ∃ x i' h', spec_l01PickInt.f b i h l = some (x, i', h') ∧ x ∈ l ∧ Rok b i' := by
  unfold spec_l01PickInt.f
  obtain ⟨n, i', h', e, h0, h1, _, hi'⟩ := below_ok (h := h) hb hi (l.length : Int)
  have h1 := h1 (by omega)
  rw [e, Option.bind_some, if_pos h0, if_pos h1]
  exact ⟨_, _, _, rfl, rd_in h0 h1, hi'⟩
end Go.Proofs.YtionemdnfhcfpaaDoor.HQ
