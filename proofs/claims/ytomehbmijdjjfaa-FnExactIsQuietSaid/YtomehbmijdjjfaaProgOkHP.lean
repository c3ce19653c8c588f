/- Whether a program is valid: the program's look and the reference's tell the same. No condition but a length that fits. -/
import Derived.Test.YtomehbmijdjjfaaLoopAid
import Derived.Test.YtomehbmijdjjfaaInsOkHP
import Derived.Test.YtomehbmijdjjfaaHP3
import Derived.Test.YtomehbmijdjjfaaHP6
set_option linter.unusedVariables false
set_option linter.unusedSimpArgs false
namespace Go.Proofs.Ytomehbmijdjjfaa.HP
open Go Go.RowKit Go.Proofs.YtomehbmijdjjfaaW.PrintWords Go.Proofs.YtomehbmijdjjfaaW.PrintLast Go.Proofs.Ytomehbmijdjjfaa.Aid

def okIns (m : Nat) (x : S52) : Bool := insOkB x.f0 x.f1 x.f2 x.f3 (m : Int)
def progB (l : List S52) : Bool := decide (l.length ≤ 32) && l.all (okIns l.length)
theorem rdP_at {l : List S52} {n : Nat} (h : n < l.length) : l[n]? = some (rd_T52 l (n : Int)) := by
  simp [rd_T52, List.getD_eq_getElem?_getD, h]
theorem progOk_val (l : List S52) : impl_ProgramOk.f l = some (progB l) := by
  unfold impl_ProgramOk.f progB
  by_cases h : l.length ≤ 32
  · have hall : l.all (fun x => (impl_InsOk.f x.f0 x.f1 x.f2 x.f3 (l.length : Int)).isSome) = true := by
      rw [List.all_eq_true]; intro x _; rw [insOk_val]; rfl
    rw [if_pos h, if_pos hall]
    simp only [h, decide_true, Bool.true_and]
    congr 1
    rw [List.any_eq_not_all_not, Bool.not_not]
    congr 1
    funext x
    unfold impl_ProgramOk.bad okIns
    rw [insOk_val]
    cases insOkB x.f0 x.f1 x.f2 x.f3 (l.length : Int) <;> rfl
  · rw [if_neg h]
    simp [h]
theorem specProgOk_ev (l : List S52) (hl : l.length ≤ 1048576) : Ev (fun k => spec_ProgramOk.f k l) (progB l) := by
  have h := loop_to (fun k n (_ : Unit) => spec_ProgramOk.l0 k l (n : Int)) l.length (fun n _ => ∀ j : Nat, j < n → okIns l.length (rd_T52 l (j : Int)) = true) (progB l)
    (fun n s hn hI => by
      cases hb : okIns l.length (rd_T52 l (n : Int)) with
      | true =>
        refine Or.inl ⟨(), fun j hj => ?_, 2, fun k hk => ?_⟩
        · by_cases e : j = n
          · subst e; exact hb
          · exact hI j (by omega)
        · obtain ⟨k, rfl⟩ : ∃ m, k = m + 2 := ⟨k - 2, by omega⟩
          conv => lhs; unfold spec_ProgramOk.l0
          rw [if_pos (by omega), if_pos (by omega), specInsOk_val, Option.bind_some, if_pos (by exact hb), wrap_succ hn (by omega)]
      | false =>
        refine Or.inr ⟨2, fun k hk => ?_⟩
        obtain ⟨k, rfl⟩ : ∃ m, k = m + 2 := ⟨k - 2, by omega⟩
        unfold spec_ProgramOk.l0
        have hb' : insOkB (rd_T52 l (n : Int)).f0 (rd_T52 l (n : Int)).f1 (rd_T52 l (n : Int)).f2 (rd_T52 l (n : Int)).f3 (l.length : Int) = false := hb
        rw [if_pos (by omega), if_pos (by omega), specInsOk_val, Option.bind_some, if_neg (by rw [hb']; decide)]
        have : l.all (okIns l.length) = false := by
          rw [List.all_eq_false]
          exact ⟨_, List.mem_of_getElem? (rdP_at hn), by rw [hb]; decide⟩
        unfold progB
        rw [this, Bool.and_false])
    (fun s hI => ⟨0, fun k _ => by
      unfold spec_ProgramOk.l0
      rw [if_neg (by omega)]
      have : l.all (okIns l.length) = true := by
        rw [List.all_eq_true]
        intro x hx
        obtain ⟨j, hj, rfl⟩ := List.mem_iff_getElem.1 hx
        have h1 := hI j hj
        have h2 := rdP_at hj
        rw [List.getElem?_eq_getElem hj] at h2
        rw [Option.some.inj h2]
        exact h1
      unfold progB
      rw [this, Bool.and_true]
      congr 1
      simp only [decide_eq_decide]
      omega⟩) 0 () (Nat.zero_le _) (fun j hj => absurd hj (Nat.not_lt_zero _))
  exact Ev.congr (fun k => rfl) h
end Go.Proofs.Ytomehbmijdjjfaa.HP
