/- For every program of at most 2^20 instructions, the program's IsQuiet gives what the reference's gives and leaves the argument as it was; of a longer one the law asks nothing. -/
import Derived.Test.YtomehbmijdjjfaaHPFnExactIsQuietStmt
import Derived.Test.YtomehbmijdjjfaaAid
import Derived.Test.YtomehbmijdjjfaaLoopAid
import Derived.Test.YtomehbmijdjjfaaListSHP
import Derived.Test.YtomehbmijdjjfaaInsOkHP
import Derived.Test.YtomehbmijdjjfaaProgOkHP
set_option linter.unusedVariables false
set_option linter.unusedSimpArgs false
namespace Go.Proofs.Ytomehbmijdjjfaa.Pure
open Go.RowKit Go.Proofs.Ytomehbmijdjjfaa.HP Go.Proofs.YtomehbmijdjjfaaW.PrintWords Go.Proofs.YtomehbmijdjjfaaW.PrintLast Go.Proofs.Ytomehbmijdjjfaa.Aid

def locB (x : S52) : Bool := inB x.f0 0 12
theorem specIsLocal_val (a b c d : Int) : spec_IsLocal.f a b c d = some (inB a 0 12) := by unfold spec_IsLocal.f; rw [l01In_val]; rfl
theorem implIsLocal_val (a b c d : Int) : impl_IsLocal.f a b c d = some (inB a 0 12) := by unfold impl_IsLocal.f; rw [within_val]; rfl
theorem quiet_val (l : List S52) : impl_IsQuiet.f l = some (progB l && l.all locB) := by
  unfold impl_IsQuiet.f
  rw [progOk_val, Option.bind_some]
  cases progB l
  · rfl
  · rw [if_pos rfl, Bool.true_and]
    congr 1
    rw [List.any_eq_not_all_not, Bool.not_not]
    congr 1
    funext x
    unfold impl_IsQuiet_1.f locB
    rw [implIsLocal_val]
    cases inB x.f0 0 12 <;> rfl
theorem specQuiet_ev (l : List S52) (hl : l.length ≤ 1048576) : Ev (fun k => spec_IsQuiet.f k l) (progB l && l.all locB) := by
  obtain ⟨K0, h0⟩ := specProgOk_ev l hl
  have h := loop_to (fun k n (_ : Unit) => spec_IsQuiet.l0 k l (n : Int)) l.length (fun n _ => ∀ j : Nat, j < n → locB (rd_T52 l (j : Int)) = true) (progB l && l.all locB)
    (fun n s hn hI => by
      cases hb : locB (rd_T52 l (n : Int)) with
      | true =>
        refine Or.inl ⟨(), fun j hj => ?_, 0, fun k hk => ?_⟩
        · by_cases e : j = n
          · subst e; exact hb
          · exact hI j (by omega)
        · simp only [spec_IsQuiet.l0]
          rw [if_pos (by omega), if_pos (by omega), specIsLocal_val, Option.bind_some, if_pos (by exact hb), wrap_succ hn (by omega)]
      | false =>
        refine Or.inr ⟨0, fun k hk => ?_⟩
        simp only [spec_IsQuiet.l0]
        have hb' : inB (rd_T52 l (n : Int)).f0 0 12 = false := hb
        rw [if_pos (by omega), if_pos (by omega), specIsLocal_val, Option.bind_some, if_neg (by rw [hb']; decide)]
        have : l.all locB = false := by
          rw [List.all_eq_false]
          exact ⟨_, List.mem_of_getElem? (rdP_at hn), by rw [hb]; decide⟩
        rw [this, Bool.and_false])
    (fun s hI => ⟨K0, fun k hk => by
      simp only [spec_IsQuiet.l0]
      have hk' : spec_ProgramOk.f k l = some (progB l) := h0 k hk
      rw [if_neg (by omega), hk']
      have : l.all locB = true := by
        rw [List.all_eq_true]
        intro x hx
        obtain ⟨j, hj, rfl⟩ := List.mem_iff_getElem.1 hx
        have h1 := hI j hj
        have h2 := rdP_at hj
        rw [List.getElem?_eq_getElem hj] at h2
        rw [Option.some.inj h2]
        exact h1
      rw [this, Bool.and_true]
      rfl⟩) 0 () (Nat.zero_le _) (fun j hj => absurd hj (Nat.not_lt_zero _))
  exact Ev.congr (fun k => rfl) h
theorem FnExactIsQuiet : laws_FnExactIsQuiet.PureH := by
  intro l h8 _
  by_cases hl : l.length ≤ 1048576
  · obtain ⟨K1, h1⟩ := toInsS_ev l hl
    obtain ⟨K2, h2⟩ := specQuiet_ev (l.map conv) (by simpa using hl)
    obtain ⟨K3, h3⟩ := eqInsS_same (l.map conv) (by simpa using hl)
    refine ⟨K1 + K2 + K3, ?_⟩
    have e1 := h1 (K1 + K2 + K3) (by omega)
    have e2 := h2 (K1 + K2 + K3) (by omega)
    have e3 := h3 (K1 + K2 + K3) (by omega)
    unfold laws_FnExactIsQuiet.f
    rw [szInsS_small l 1048576 (by omega) (by omega) (by omega), if_pos (by omega), Option.bind_some, if_neg (by omega)]
    simp only [e1, e2, e3, quiet_val, Option.bind_some, if_true]
    simp
  · refine ⟨0, ?_⟩
    unfold laws_FnExactIsQuiet.f
    rw [szInsS_small l 1048576 (by omega) (by omega) (by omega), if_neg (by omega), Option.bind_some, if_pos (by omega)]

end Go.Proofs.Ytomehbmijdjjfaa.Pure
