/- The successors of a node of a valid program, as the reference tells them. -/
import Derived.Test.YtbkgklkiennpbaaFlowIHN
import Derived.Test.YtbkgklkiennpbaaProgOkSHN
import Derived.Test.YtbkgklkiennpbaaPutHN
import Derived.Test.YtbkgklkiennpbaaHN10
import Derived.Test.YtbkgklkiennpbaaHN9
set_option linter.unusedVariables false
set_option linter.unusedSimpArgs false
namespace Go.Proofs.Ytbkgklkiennpbaa.HN
open Go Go.RowKit Go.Proofs.YtbkgklkiennpbaaW.PrintWords Go.Proofs.YtbkgklkiennpbaaW.PrintLast Go.Proofs.Ytbkgklkiennpbaa.Aid

theorem specNext_ev (l : List S52) (hl : l.length ≤ 1048576) {a : Int} (h0 : 0 ≤ a) (h1 : a ≤ (l.length : Int)) : Ev (fun k => spec_l07Next.f k l a) (nxt l a) := by
  obtain ⟨r, ⟨hr, hm, _⟩, K, hK⟩ := put_ev [a + 1] (by simp [Asc]) (by simp) (rd_T52 l a).f2
  refine ⟨K, fun k hk => ?_⟩
  have hk' : spec_l04Put.f k [a + 1] (rd_T52 l a).f2 = some r := hK k hk
  show spec_l07Next.f k l a = some _
  unfold spec_l07Next.f nxt
  by_cases e : a = (l.length : Int)
  · rw [if_pos e, if_pos e]
  · rw [if_neg e, if_neg e, if_pos h0, if_pos (by omega), wrap_id (n := a + 1) (by omega) (by omega), hk', Option.bind_some]
    have : srt [(rd_T52 l a).f2, a + 1] = r := srt_eq hr (fun x => by rw [hm]; simp only [List.mem_cons, List.not_mem_nil, or_false]; exact Or.comm)
    rw [this]
    by_cases e12 : (rd_T52 l a).f0 = 12
    · rw [if_pos e12, if_pos e12]
    · rw [if_neg e12, if_neg e12]
      by_cases e11 : (rd_T52 l a).f0 = 11
      · rw [if_pos e11, if_pos e11]
      · rw [if_neg e11, if_neg e11]
        by_cases e10 : (rd_T52 l a).f0 = 10
        · rw [if_pos e10, if_pos e10]
        · rw [if_neg e10, if_neg e10]
theorem specOk_ev (l : List S52) (hl : l.length ≤ 1048576) (a : Int) : Ev (fun k => spec_l07Ok.f k l a) (progB l && inB a 0 (l.length : Int)) := by
  obtain ⟨K, hK⟩ := specProgOk_ev l hl
  refine ⟨K, fun k hk => ?_⟩
  have hk' : spec_ProgramOk.f k l = some (progB l) := hK k hk
  show spec_l07Ok.f k l a = some _
  unfold spec_l07Ok.f
  rw [hk', Option.bind_some]
  cases progB l
  · rfl
  · rw [if_pos rfl, l01In_val]; rfl
end Go.Proofs.Ytbkgklkiennpbaa.HN
