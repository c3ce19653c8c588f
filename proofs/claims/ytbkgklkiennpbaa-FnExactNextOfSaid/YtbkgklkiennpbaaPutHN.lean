/- The reference's insertion into an ascending list. No condition but a length that fits. -/
import Derived.Test.YtbkgklkiennpbaaAsc
import Derived.Test.YtbkgklkiennpbaaHN10
set_option linter.unusedVariables false
set_option linter.unusedSimpArgs false
namespace Go.Proofs.Ytbkgklkiennpbaa.HN
open Go Go.RowKit Go.Proofs.YtbkgklkiennpbaaW.PrintWords Go.Proofs.YtbkgklkiennpbaaW.PrintLast Go.Proofs.Ytbkgklkiennpbaa.Aid

theorem rd_get {l : List Int} {n : Nat} (h : n < l.length) : rd l (n : Int) = l[n] := by
  simp [rd, List.getD_eq_getElem?_getD, h]
theorem ins_asc {l : List Int} (hl : Asc l) (n : Int) (m : Nat) (hm : m ≤ l.length) (hup : ∀ j (h : j < l.length), m ≤ j → n < l[j]) (hdn : ∀ j (h : j < l.length), j < m → l[j] < n) :
    Asc (l.take m ++ [n] ++ l.drop m) ∧ ∀ x, x ∈ l.take m ++ [n] ++ l.drop m ↔ x ∈ l ∨ x = n := by
  refine ⟨?_, fun x => ?_⟩
  · rw [List.append_assoc]
    show (l.take m ++ (n :: l.drop m)).Pairwise (· < ·)
    refine List.pairwise_append.2 ⟨hl.sublist (List.take_sublist _ _), List.pairwise_cons.2 ⟨fun y hy => ?_, hl.sublist (List.drop_sublist _ _)⟩, fun a ha b hb => ?_⟩
    · obtain ⟨j, hj, rfl⟩ := List.mem_iff_getElem.1 hy
      rw [List.getElem_drop]
      rw [List.length_drop] at hj
      exact hup _ _ (by omega)
    · obtain ⟨i, hi, rfl⟩ := List.mem_iff_getElem.1 ha
      rw [List.length_take] at hi
      rw [List.getElem_take]
      have h1 := hdn i (by omega) (by omega)
      rcases List.mem_cons.1 hb with e | hb
      · rw [e]; exact h1
      · obtain ⟨j, hj, rfl⟩ := List.mem_iff_getElem.1 hb
        rw [List.getElem_drop]
        rw [List.length_drop] at hj
        have h2 := hup (m + j) (by omega) (by omega)
        omega
  · have e : x ∈ l ↔ x ∈ l.take m ∨ x ∈ l.drop m := by
      rw [← List.mem_append, List.take_append_drop]
    rw [e, List.mem_append, List.mem_append, List.mem_singleton]
    constructor
    · rintro ((h | h) | h)
      · exact .inl (.inl h)
      · exact .inr h
      · exact .inl (.inr h)
    · rintro ((h | h) | h)
      · exact .inl (.inl h)
      · exact .inr h
      · exact .inl (.inr h)
theorem put_ev (l : List Int) (hl : Asc l) (hlen : l.length ≤ 1000) (n : Int) : ∃ r, (Asc r ∧ (∀ x, x ∈ r ↔ x ∈ l ∨ x = n) ∧ r.length ≤ l.length + 1) ∧ Ev (fun k => spec_l04Put.f k l n) r := by
  have key : ∀ m, m ≤ l.length → (∀ j (h : j < l.length), m ≤ j → n < l[j]) → ∃ r, (Asc r ∧ (∀ x, x ∈ r ↔ x ∈ l ∨ x = n) ∧ r.length ≤ l.length + 1) ∧ Ev (fun k => spec_l04Put.l0 k l n (m : Int)) r := by
    intro m
    induction m with
    | zero =>
      intro _ hup
      obtain ⟨h1, h2⟩ := ins_asc hl n 0 (by omega) (fun j h _ => hup j h (by omega)) (fun j h h' => by omega)
      refine ⟨_, ⟨h1, h2, by simp⟩, 1, fun k hk => ?_⟩
      obtain ⟨k, rfl⟩ : ∃ m, k = m + 1 := ⟨k - 1, by omega⟩
      simp only [spec_l04Put.l0]
      rw [if_neg (by omega), Option.bind_some, if_pos (by omega), if_pos (by omega)]
      simp only [Option.bind_some, List.nil_append, List.length_nil, Int.toNat_natCast]
      rw [if_pos (by simp), if_pos (by simp), if_pos (by simp <;> omega)]
    | succ m ih =>
      intro hm hup
      have hw : wrap64 (((m + 1 : Nat) : Int) - 1) = (m : Int) := by rw [wrap_id (by omega) (by omega)]; omega
      have hr := rd_get (l := l) (n := m) (by omega)
      by_cases h1 : rd l (m : Int) > n
      · obtain ⟨r, hr', hev⟩ := ih (by omega) (fun j h hj => by
          by_cases e : j = m
          · subst e; rw [← hr]; exact h1
          · exact hup j h (by omega))
        refine ⟨r, hr', Ev.step (fun k => ?_) hev⟩
        simp only [spec_l04Put.l0]
        rw [if_pos (by omega), hw, if_pos (by omega), if_pos (by omega), if_pos h1]
      · by_cases h2 : rd l (m : Int) = n
        · refine ⟨l, ⟨hl, fun x => ⟨.inl, ?_⟩, by omega⟩, 1, fun k hk => ?_⟩
          · rintro (h | h)
            · exact h
            · rw [h, ← h2, hr]; exact List.getElem_mem _
          · obtain ⟨k, rfl⟩ : ∃ m, k = m + 1 := ⟨k - 1, by omega⟩
            simp only [spec_l04Put.l0]
            rw [if_pos (by omega), hw, if_pos (by omega), if_pos (by omega), if_neg h1, if_pos h2]
        · obtain ⟨g1, g2⟩ := ins_asc hl n (m + 1) hm hup (fun j h hj => by
            by_cases e : j = m
            · subst e; rw [← hr]; omega
            · have := List.pairwise_iff_getElem.1 hl j m h (by omega) (by omega)
              omega)
          refine ⟨_, ⟨g1, g2, by simp; omega⟩, 1, fun k hk => ?_⟩
          obtain ⟨k, rfl⟩ : ∃ m, k = m + 1 := ⟨k - 1, by omega⟩
          simp only [spec_l04Put.l0]
          rw [if_pos (by omega), hw, if_pos (by omega), if_pos (by omega), if_neg h1, if_neg h2, Option.bind_some, if_pos (by omega), if_pos (by omega)]
          simp only [Option.bind_some, List.nil_append, List.length_nil, Int.toNat_natCast]
          rw [if_pos (by simp <;> omega), if_pos (by simp <;> omega), if_pos (by simp <;> omega)]
  obtain ⟨r, h, hev⟩ := key l.length (Nat.le_refl _) (fun j h h' => by omega)
  exact ⟨r, h, hev⟩
end Go.Proofs.Ytbkgklkiennpbaa.HN
