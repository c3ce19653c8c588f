/- The registers that an instruction uses: the program's list and the reference's are the same. No condition. -/
import Derived.Test.YtomehbmijdjjfaaPutHR
import Derived.Test.YtomehbmijdjjfaaHR2
import Derived.Test.YtomehbmijdjjfaaHR4
set_option linter.unusedVariables false
set_option linter.unusedSimpArgs false
namespace Go.Proofs.Ytomehbmijdjjfaa.HR
open Go Go.RowKit Go.Proofs.YtomehbmijdjjfaaW.PrintWords Go.Proofs.YtomehbmijdjjfaaW.PrintLast Go.Proofs.Ytomehbmijdjjfaa.Aid

def regsOf (op a b c : Int) : List Int :=
  if op = 2 ∨ op = 13 then [b] else if 3 ≤ op ∧ op ≤ 7 then [b, c] else if op = 9 then [a, b, c] else if op = 10 then [a] else if op = 14 ∨ op = 15 then [a, b] else []
theorem regsOf_len (op a b c : Int) : (regsOf op a b c).length ≤ 3 := by
  unfold regsOf; repeat' split
  all_goals simp
theorem sort_compact (l : List Int) (hl : l.length ≤ 3) : ((slices_Sort_int_int.f l).bind fun t => ((slices_Compact_int_int.f t).bind fun u => (some u))) = some (srt l) := by
  unfold slices_Sort_int_int.f slices_Compact_int_int.f
  rw [if_pos (by omega)]
  rfl
theorem implRegs_val (op a b c : Int) (k : Nat) : impl_ReadsRegs.f (k + 3) op a b c = some (srt (regsOf op a b c)) := by
  unfold impl_ReadsRegs.f regsOf
  simp only [Option.bind_some, impl_ReadsRegs.j0, impl_ReadsRegs.j1, impl_ReadsRegs.j2]
  rw [sort_compact [b] (by simp), sort_compact [b, c] (by simp), sort_compact [a, b, c] (by simp), sort_compact [a] (by simp), sort_compact [a, b] (by simp), sort_compact [] (by simp)]
  by_cases e2 : op = 2
  · subst e2; simp
  by_cases e13 : op = 13
  · subst e13; simp
  by_cases e3 : op = 3
  · subst e3; simp
  by_cases e4 : op = 4
  · subst e4; simp
  by_cases e5 : op = 5
  · subst e5; simp
  by_cases e6 : op = 6
  · subst e6; simp
  by_cases e7 : op = 7
  · subst e7; simp
  by_cases e9 : op = 9
  · subst e9; simp
  by_cases e10 : op = 10
  · subst e10; simp
  by_cases e14 : op = 14
  · subst e14; simp
  by_cases e15 : op = 15
  · subst e15; simp
  have h37 : ¬ (3 ≤ op ∧ op ≤ 7) := by omega
  simp [e2, e13, e3, e4, e5, e6, e7, e9, e10, e14, e15, h37]
theorem regs_loop (l : List Int) (hl : l.length ≤ 3) : Ev (fun k => spec_ReadsRegs.l0 k l [] 0) (srt l) := by
  have h := loop_ev (fun k n (s : List Int) => spec_ReadsRegs.l0 k l s (n : Int)) l.length (fun n s => Asc s ∧ s.length ≤ n ∧ ∀ x, x ∈ s ↔ ∃ j : Nat, j < n ∧ l[j]? = some x) (fun r => r = srt l)
    (fun n s hn hI => by
      obtain ⟨r, ⟨h1, h2, h3⟩, K, hK⟩ := put_ev s hI.1 (by omega) (rd l (n : Int))
      refine Or.inl ⟨r, ⟨h1, by omega, fun x => ?_⟩, K, fun k hk => ?_⟩
      · rw [h2, hI.2.2]
        constructor
        · rintro (⟨j, hj, e⟩ | e)
          · exact ⟨j, by omega, e⟩
          · exact ⟨n, by omega, by rw [e]; exact rd_at hn⟩
        · rintro ⟨j, hj, e⟩
          by_cases e2 : j = n
          · subst e2; rw [rd_at hn] at e; exact .inr (Option.some.inj e).symm
          · exact .inl ⟨j, by omega, e⟩
      · simp only [spec_ReadsRegs.l0]
        have hk' : spec_l04Put.f k s (rd l (n : Int)) = some r := hK k hk
        rw [if_pos (by omega), if_pos (by omega), hk', Option.bind_some, wrap_succ hn (by omega)])
    (fun s hI => ⟨s, (srt_eq hI.1 (fun x => by
        rw [hI.2.2]
        constructor
        · rintro ⟨j, hj, e⟩; exact List.mem_of_getElem? e
        · intro hx
          obtain ⟨j, hj, rfl⟩ := List.mem_iff_getElem.1 hx
          exact ⟨j, hj, List.getElem?_eq_getElem hj⟩)).symm, 0, fun k _ => by
      simp only [spec_ReadsRegs.l0]
      rw [if_neg (by omega)]⟩) 0 [] (Nat.zero_le _) ⟨List.Pairwise.nil, by simp, fun x => by simp⟩
  obtain ⟨r, rfl, h⟩ := h
  exact h
theorem specRegs_ev (op a b c : Int) : Ev (fun k => spec_ReadsRegs.f k op a b c) (srt (regsOf op a b c)) := by
  obtain ⟨K, hK⟩ := regs_loop (regsOf op a b c) (regsOf_len op a b c)
  refine ⟨K + 3, fun k hk => ?_⟩
  obtain ⟨k, rfl⟩ : ∃ m, k = m + 3 := ⟨k - 3, by omega⟩
  have h0 := hK k (by omega)
  have h1 := hK (k + 1) (by omega)
  have h2 := hK (k + 2) (by omega)
  simp only at h0 h1 h2
  unfold spec_ReadsRegs.f
  simp only [Option.bind_some, spec_ReadsRegs.j0, spec_ReadsRegs.j1, spec_ReadsRegs.j2]
  unfold regsOf at h0 h1 h2 ⊢
  by_cases e2 : op = 2
  · subst e2; simpa using h1
  by_cases e13 : op = 13
  · subst e13; simpa using h1
  by_cases e3 : op = 3
  · subst e3; simpa using h0
  by_cases e4 : op = 4
  · subst e4; simpa using h0
  by_cases e5 : op = 5
  · subst e5; simpa using h0
  by_cases e6 : op = 6
  · subst e6; simpa using h0
  by_cases e7 : op = 7
  · subst e7; simpa using h0
  by_cases e9 : op = 9
  · subst e9; simpa using h0
  by_cases e10 : op = 10
  · subst e10; simpa using h0
  by_cases e14 : op = 14
  · subst e14; simpa using h0
  by_cases e15 : op = 15
  · subst e15; simpa using h0
  have h37 : ¬ (3 ≤ op ∧ op ≤ 7) := by omega
  simpa [e2, e13, e3, e4, e5, e6, e7, e9, e10, e14, e15, h37] using h0
end Go.Proofs.Ytomehbmijdjjfaa.HR
