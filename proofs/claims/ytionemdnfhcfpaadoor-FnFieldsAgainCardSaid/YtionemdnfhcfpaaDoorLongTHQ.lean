/- Draws of a bool and of a long text. No condition but a length that fits. -/
import Derived.Test.YtionemdnfhcfpaaDoorDrawHQ
import Derived.Test.YtionemdnfhcfpaaDoorHQ17
import Derived.Test.YtionemdnfhcfpaaDoorHQ18
set_option linter.unusedVariables false
set_option linter.unusedSimpArgs false
namespace Go.Proofs.YtionemdnfhcfpaaDoor.HQ
open Go Go.RowKit Go.Proofs.YtionemdnfhcfpaaDoorW.PrintWords Go.Proofs.YtionemdnfhcfpaaDoorW.PrintLast Go.Proofs.YtionemdnfhcfpaaDoor.Aid

theorem once_ok {b : List Int} (hb : b.length ≤ 140737488351232) {i h : Int} (hi : Rok b i) (n : Int) : ∃ x i' h', spec_l01Once.f b i h n = some (x, i', h') ∧ Rok b i' := by
  unfold spec_l01Once.f
  obtain ⟨x, i', h', e, _, _, _, hi'⟩ := below_ok (h := h) hb hi n
  rw [e, Option.bind_some]
  exact ⟨_, _, _, rfl, hi'⟩
theorem nums_size (l : List Int) : (strOfNums l).size = l.length := by simp [strOfNums, ByteArray.size]
theorem long_ok (n : Nat) (hn : n ≤ 1048576) (x : Int) : ∃ s : ByteArray, s.size = n ∧ Ev (fun k => spec_l01Long.f k (n : Int) x) s := by
  have h := loop_ev (fun k j (s : List Int) => spec_l01Long.l0 k (n : Int) x s (j : Int)) n (fun j s => s.length = n) (fun r : ByteArray => r.size = n)
    (fun j s hj hI => Or.inl ⟨s.set (j : Int).toNat x, by simpa using hI, 0, fun k _ => by
      have hI' : s.length = n := hI
      simp only [spec_l01Long.l0]
      rw [if_pos (by omega), if_pos (by omega), if_pos (by omega), wrap_succ hj (by omega)]⟩)
    (fun s hI => ⟨strOfNums s, (nums_size s).trans hI, 0, fun k _ => by
      simp only [spec_l01Long.l0]
      rw [if_neg (by omega)]⟩) 0 (List.replicate n 0) (Nat.zero_le _) (by simp)
  obtain ⟨r, hr, he⟩ := h
  refine ⟨r, hr, Ev.congr (fun k => ?_) he⟩
  unfold spec_l01Long.f
  rw [if_pos (by omega), if_pos (by omega)]
  rfl
end Go.Proofs.YtionemdnfhcfpaaDoor.HQ
