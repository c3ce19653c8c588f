/- The registers that an instruction uses, as the program lists them. No condition. -/
import Derived.Test.YtomehbmijdjjfaaAsc
import Derived.Test.YtomehbmijdjjfaaHU2
set_option linter.unusedVariables false
set_option linter.unusedSimpArgs false
namespace Go.Proofs.Ytomehbmijdjjfaa.HU
open Go Go.RowKit Go.Proofs.YtomehbmijdjjfaaW.PrintWords Go.Proofs.YtomehbmijdjjfaaW.PrintLast Go.Proofs.Ytomehbmijdjjfaa.Aid

def regsOf (op a b c : Int) : List Int :=
  if op = 2 ∨ op = 13 then [b] else if 3 ≤ op ∧ op ≤ 7 then [b, c] else if op = 9 then [a, b, c] else if op = 10 then [a] else if op = 14 ∨ op = 15 then [a, b] else []
theorem regsOf_len (op a b c : Int) : (regsOf op a b c).length ≤ 3 := by
  unfold regsOf; repeat' split
  all_goals simp
theorem sort_compact (l : List Int) (hl : l.length ≤ 3) : ((slices_Sort_int_int.f l).bind fun t => ((slices_Compact_int_int.f t).bind fun u => (some u))) = some (srt l) := by
  unfold slices_Sort_int_int.f slices_Compact_int_int.f
  rw [if_pos (by omega)]
  rfl
theorem implRegs_val (op a b c : Int) (k : Nat) : impl_ReadsRegs.f (k + 3) op a b c = some (srt (regsOf op a b c)) := by
  unfold impl_ReadsRegs.f regsOf
  simp only [Option.bind_some, impl_ReadsRegs.j0, impl_ReadsRegs.j1, impl_ReadsRegs.j2]
  rw [sort_compact [b] (by simp), sort_compact [b, c] (by simp), sort_compact [a, b, c] (by simp), sort_compact [a] (by simp), sort_compact [a, b] (by simp), sort_compact [] (by simp)]
  by_cases e2 : op = 2
  · subst e2; simp
  by_cases e13 : op = 13
  · subst e13; simp
  by_cases e3 : op = 3
  · subst e3; simp
  by_cases e4 : op = 4
  · subst e4; simp
  by_cases e5 : op = 5
  · subst e5; simp
  by_cases e6 : op = 6
  · subst e6; simp
  by_cases e7 : op = 7
  · subst e7; simp
  by_cases e9 : op = 9
  · subst e9; simp
  by_cases e10 : op = 10
  · subst e10; simp
  by_cases e14 : op = 14
  · subst e14; simp
  by_cases e15 : op = 15
  · subst e15; simp
  have h37 : ¬ (3 ≤ op ∧ op ≤ 7) := by omega
  simp [e2, e13, e3, e4, e5, e6, e7, e9, e10, e14, e15, h37]
end Go.Proofs.Ytomehbmijdjjfaa.HU
