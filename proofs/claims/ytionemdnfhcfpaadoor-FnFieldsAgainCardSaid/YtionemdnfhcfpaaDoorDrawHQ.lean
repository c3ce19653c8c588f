/- The reference's draws: each gives a number of its range, whatever the bytes. No condition. -/
import Derived.Test.YtionemdnfhcfpaaDoorLoopAid
import Derived.Test.YtionemdnfhcfpaaDoorHQ17
set_option linter.unusedVariables false
set_option linter.unusedSimpArgs false
namespace Go.Proofs.YtionemdnfhcfpaaDoor.HQ
open Go Go.RowKit Go.Proofs.YtionemdnfhcfpaaDoorW.PrintWords Go.Proofs.YtionemdnfhcfpaaDoorW.PrintLast Go.Proofs.YtionemdnfhcfpaaDoor.Aid

/-- A reader's state: its place lies in the code or behind it. -/
def Rok (b : List Int) (i : Int) : Prop := 0 ≤ i ∧ i ≤ 140737488355328
theorem byte_ok {b : List Int} (hb : b.length ≤ 140737488351232) {i h : Int} (hi : Rok b i) : ∃ x i' h', spec_l01Byte.f b i h = some (x, i', h') ∧ 0 ≤ x ∧ x ≤ 255 ∧ Rok b i' := by
  unfold spec_l01Byte.f
  obtain ⟨h0, h1⟩ := hi
  by_cases hlt : i < (b.length : Int)
  · rw [if_pos hlt, if_pos h0]
    refine ⟨_, _, _, rfl, ?_, ?_, ?_⟩
    · rw [and_255]; omega
    · rw [and_255]; omega
    · rw [wrap_id (by omega) (by omega)]
      exact ⟨by omega, by omega⟩
  · rw [if_neg hlt]
    refine ⟨_, _, _, rfl, ?_, ?_, h0, h1⟩
    · rw [and_255]; omega
    · rw [and_255]; omega
theorem tmod_below {x n : Int} (h0 : 0 ≤ x) (hn : 0 < n) : 0 ≤ x.tmod n ∧ x.tmod n < n := by
  rw [Int.tmod_eq_emod_of_nonneg h0]
  exact ⟨Int.emod_nonneg _ (by omega), Int.emod_lt_of_pos _ hn⟩
/-- A draw below n. -/
theorem below_ok {b : List Int} (hb : b.length ≤ 140737488351232) {i h : Int} (hi : Rok b i) (n : Int) : ∃ x i' h', spec_l01Below.f b i h n = some (x, i', h') ∧ 0 ≤ x ∧ (0 < n → x < n) ∧ (n ≤ 0 → x = 0) ∧ Rok b i' := by
  unfold spec_l01Below.f
  by_cases h0 : n ≤ 0
  · rw [if_pos h0]
    exact ⟨_, _, _, rfl, by omega, by omega, fun _ => rfl, hi⟩
  · rw [if_neg h0]
    by_cases h1 : n ≤ 256
    · rw [if_pos h1]
      obtain ⟨x, i1, g1, e, hx0, hx1, hi1⟩ := byte_ok (h := h) hb hi
      rw [e, Option.bind_some, if_neg (by omega)]
      have := tmod_below (x := x) (n := n) hx0 (by omega)
      exact ⟨_, _, _, rfl, this.1, fun _ => this.2, by omega, hi1⟩
    · rw [if_neg h1]
      obtain ⟨x, i1, g1, e, hx0, hx1, hi1⟩ := byte_ok (h := h) hb hi
      obtain ⟨y, i2, g2, e2, hy0, hy1, hi2⟩ := byte_ok (h := g1) hb hi1
      obtain ⟨z, i3, g3, e3, hz0, hz1, hi3⟩ := byte_ok (h := g2) hb hi2
      obtain ⟨u, i4, g4, e4, hu0, hu1, hi4⟩ := byte_ok (h := g3) hb hi3
      simp only [e, e2, e3, e4, Option.bind_some]
      rw [if_neg (by omega)]
      have hw : 0 ≤ wrap64 (wrap64 (wrap64 (wrap64 (x * 16777216) + wrap64 (y * 65536)) + wrap64 (z * 256)) + u) := by
        unfold wrap64; omega
      have := tmod_below (x := wrap64 (wrap64 (wrap64 (wrap64 (x * 16777216) + wrap64 (y * 65536)) + wrap64 (z * 256)) + u)) (n := n) hw (by omega)
      exact ⟨_, _, _, rfl, this.1, fun _ => this.2, by omega, hi4⟩
/-- A new reader. -/
theorem new_ok (b : List Int) : ∃ i h, Ev (fun k => spec_l01New.f k b) (b, i, h) ∧ Rok b i := by
  have key := loop_ev (fun k n (s : Int) => spec_l01New.l0 k b s (n : Int)) (min b.length 4000) (fun _ _ => True) (fun r : List Int × Int × Int => ∃ h, r = (b, 0, h))
    (fun n s hn _ => Or.inl ⟨Go.bits .and .i64 (wrap64 ((wrap64 ((wrap64 (s * 131)) + (wrap64 (rd b (n : Int))))) + 7)) 1073741823, trivial, 0, fun k _ => by
      simp only [spec_l01New.l0]
      rw [if_pos (by omega), if_pos (by omega), if_pos (by omega), wrap_succ (N := 4000) (by omega) (by omega)]⟩)
    (fun s _ => ⟨(b, 0, s), ⟨s, rfl⟩, 0, fun k _ => by
      simp only [spec_l01New.l0]
      by_cases h : b.length ≤ 4000
      · rw [if_neg (by omega)]
      · rw [if_pos (by omega), if_neg (by omega)]⟩) 0 (wrap64 (98561 + (b.length : Int))) (Nat.zero_le _) trivial
  obtain ⟨r, ⟨h, rfl⟩, hev⟩ := key
  exact ⟨0, h, hev, by unfold Rok; omega⟩
end Go.Proofs.YtionemdnfhcfpaaDoor.HQ
