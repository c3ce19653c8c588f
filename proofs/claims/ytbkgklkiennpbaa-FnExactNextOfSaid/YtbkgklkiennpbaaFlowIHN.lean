/- The successors of a node of a valid program, as the program tells them. -/
import Derived.Test.YtbkgklkiennpbaaProgOkIHN
import Derived.Test.YtbkgklkiennpbaaAsc
import Derived.Test.YtbkgklkiennpbaaBfs
import Derived.Test.YtbkgklkiennpbaaHN1
import Derived.Test.YtbkgklkiennpbaaHN4
set_option linter.unusedVariables false
set_option linter.unusedSimpArgs false
namespace Go.Proofs.Ytbkgklkiennpbaa.HN
open Go Go.RowKit Go.Proofs.YtbkgklkiennpbaaW.PrintWords Go.Proofs.YtbkgklkiennpbaaW.PrintLast Go.Proofs.Ytbkgklkiennpbaa.Aid

def nxt (l : List S52) (a : Int) : List Int :=
  if a = (l.length : Int) then [] else if (rd_T52 l a).f0 = 12 then [(l.length : Int)] else if (rd_T52 l a).f0 = 11 then [(rd_T52 l a).f2]
  else if (rd_T52 l a).f0 = 10 then srt [(rd_T52 l a).f2, a + 1] else [a + 1]
theorem srt_pair (x y : Int) : srt [x, y] = if x = y then [x] else if x < y then [x, y] else [y, x] := by
  by_cases h : x = y
  · subst h
    rw [if_pos rfl]
    exact srt_eq (by simp [Asc]) (by simp)
  · rw [if_neg h]
    by_cases h2 : x < y
    · rw [if_pos h2]
      exact srt_eq (by simp [Asc, h2]) (by simp)
    · rw [if_neg h2]
      have h3 : y < x := by omega
      refine srt_eq (by simp [Asc, h3]) (fun z => ?_)
      simp only [List.mem_cons, List.not_mem_nil, or_false]
      exact Or.comm
theorem next_val (l : List S52) (hl : l.length ≤ 1048576) {a : Int} (h0 : 0 ≤ a) (h1 : a ≤ (l.length : Int)) : impl_next.f l a = some (nxt l a) := by
  unfold impl_next.f nxt
  by_cases e : a = (l.length : Int)
  · rw [if_pos e, if_pos e]
  · rw [if_neg e, if_neg e, if_pos h0, if_pos (by omega), wrap_id (n := a + 1) (by omega) (by omega)]
    by_cases e12 : (rd_T52 l a).f0 = 12
    · rw [if_pos e12, if_pos e12]
    · rw [if_neg e12, if_neg e12]
      by_cases e11 : (rd_T52 l a).f0 = 11
      · rw [if_pos e11, if_pos e11]
      · rw [if_neg e11, if_neg e11]
        by_cases e10 : (rd_T52 l a).f0 = 10
        · rw [if_pos e10, if_pos e10]
          unfold slices_Sort_int_int.f slices_Compact_int_int.f
          rw [if_pos (by simp)]
          rfl
        · rw [if_neg e10, if_neg e10]
theorem prog_small {l : List S52} (h : progB l = true) : l.length ≤ 32 := by
  unfold progB at h
  rw [Bool.and_eq_true] at h
  simpa using h.1
theorem prog_ins {l : List S52} (h : progB l = true) {a : Int} (h0 : 0 ≤ a) (h1 : a < (l.length : Int)) : insOkB (rd_T52 l a).f0 (rd_T52 l a).f1 (rd_T52 l a).f2 (rd_T52 l a).f3 (l.length : Int) = true := by
  unfold progB at h
  rw [Bool.and_eq_true, List.all_eq_true] at h
  obtain ⟨n, rfl⟩ := Int.eq_ofNat_of_zero_le h0
  exact h.2 _ (List.mem_of_getElem? (rdP_at (by omega)))
theorem ins_target {op a b c s : Int} (h : insOkB op a b c s = true) (ho : op = 10 ∨ op = 11) : 0 ≤ b ∧ b ≤ s := by
  rcases ho with rfl | rfl <;> (simp [insOkB, inB] at h; omega)
theorem nxt_ok {l : List S52} (h : progB l = true) (x : Int) (h0 : 0 ≤ x) (h1 : x ≤ (l.length : Int)) : (∀ y ∈ nxt l x, 0 ≤ y ∧ y ≤ (l.length : Int)) ∧ (nxt l x).length ≤ 2 := by
  unfold nxt
  by_cases e : x = (l.length : Int)
  · rw [if_pos e]; simp
  · have hi := prog_ins h h0 (by omega)
    rw [if_neg e]
    by_cases e12 : (rd_T52 l x).f0 = 12
    · rw [if_pos e12]; simp
    · rw [if_neg e12]
      by_cases e11 : (rd_T52 l x).f0 = 11
      · rw [if_pos e11]; have := ins_target hi (.inr e11); simpa using this
      · rw [if_neg e11]
        by_cases e10 : (rd_T52 l x).f0 = 10
        · rw [if_pos e10]
          have ht := ins_target hi (.inl e10)
          refine ⟨fun y hy => ?_, Nat.le_trans (srt_len _) (by simp)⟩
          have := ((srt_spec _).2 y).1 hy
          simp only [List.mem_cons, List.not_mem_nil, or_false] at this
          rcases this with rfl | rfl
          · exact ht
          · omega
        · rw [if_neg e10]
          refine ⟨fun y hy => ?_, by simp⟩
          simp only [List.mem_cons, List.not_mem_nil, or_false] at hy
          subst hy
          omega
theorem nxt_exit (l : List S52) : nxt l (l.length : Int) = [] := by unfold nxt; rw [if_pos rfl]
theorem nxt_ne {l : List S52} {x : Int} (h1 : x < (l.length : Int)) : nxt l x ≠ [] := by
  unfold nxt
  rw [if_neg (by omega), srt_pair]
  repeat' split
  all_goals simp
theorem isNode_val (l : List S52) (a : Int) : impl_isNode.f l a = some (progB l && inB a 0 (l.length : Int)) := by
  unfold impl_isNode.f
  rw [progOk_val, Option.bind_some]
  cases progB l
  · rfl
  · rw [if_pos rfl, within_val]; rfl
theorem inB_iff {a lo hi : Int} : inB a lo hi = true ↔ lo ≤ a ∧ a ≤ hi := by unfold inB; simp
theorem inB_not {a lo hi : Int} : inB a lo hi = false ↔ ¬ (lo ≤ a ∧ a ≤ hi) := by rw [← inB_iff]; simp
end Go.Proofs.Ytbkgklkiennpbaa.HN
