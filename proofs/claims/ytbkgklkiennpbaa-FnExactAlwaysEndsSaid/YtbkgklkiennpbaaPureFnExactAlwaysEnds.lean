/- For every program of at most 2^20 instructions, the program's AlwaysEnds gives what the reference's gives and leaves the argument as it was; of a longer one the law asks nothing. -/
import Derived.Test.YtbkgklkiennpbaaHEFnExactAlwaysEndsStmt
import Derived.Test.YtbkgklkiennpbaaKitHE
set_option linter.unusedVariables false
set_option linter.unusedSimpArgs false
namespace Go.Proofs.Ytbkgklkiennpbaa.Pure
open Go.RowKit Go.Proofs.Ytbkgklkiennpbaa.HE Go.Proofs.YtbkgklkiennpbaaW.PrintWords Go.Proofs.YtbkgklkiennpbaaW.PrintLast Go.Proofs.Ytbkgklkiennpbaa.Aid

theorem ev_all {f : Nat → Int → Option Bool} {v : Int → Bool} : ∀ {R : List Int}, (∀ x ∈ R, ∃ K, ∀ k, K ≤ k → f k x = some (v x)) → ∃ K, ∀ k, K ≤ k → ∀ x ∈ R, f k x = some (v x) := by
  intro R
  induction R with
  | nil => intro _; exact ⟨0, fun k _ x hx => by cases hx⟩
  | cons a R ih =>
    intro h
    obtain ⟨K1, h1⟩ := h a List.mem_cons_self
    obtain ⟨K2, h2⟩ := ih (fun x hx => h x (List.mem_cons_of_mem _ hx))
    refine ⟨K1 + K2, fun k hk x hx => ?_⟩
    rcases List.mem_cons.1 hx with rfl | hx
    · exact h1 k (by omega)
    · exact h2 k (by omega) x hx
noncomputable def cyc (l : List S52) (x : Int) : Bool := rdOf false (rset (nxt l) (-1) (nxt l x) l.length) x
noncomputable def first (l : List S52) : List Int := idxTo (rset (nxt l) (-1) [0] l.length) (l.length + 1)
noncomputable def endsB (l : List S52) : Bool := if progB l = true then !((first l).any (cyc l)) else false
theorem first_rng {l : List S52} {x : Int} (h : x ∈ first l) : 0 ≤ x ∧ x ≤ (l.length : Int) := by
  obtain ⟨h0, h1, _⟩ := idxTo_mem.1 h
  exact ⟨h0, by omega⟩
theorem ends_ev (l : List S52) : Ev (fun k => impl_AlwaysEnds.f k l) (endsB l) := by
  unfold endsB
  by_cases hp : progB l = true
  · rw [if_pos hp]
    have hs := prog_small hp
    have hin : inB 0 0 (l.length : Int) = true := inB_iff.2 ⟨by omega, by omega⟩
    have hl := rset_len (nxt l) (-1) [0] l.length
    obtain ⟨K1, h1⟩ := reached_ev hp [0] (-1) (by simp) (by simp)
    obtain ⟨K2, h2⟩ := trues_ev (rset (nxt l) (-1) [0] l.length) (by omega)
    obtain ⟨K3, h3⟩ := ev_all (f := fun k x => impl_AlwaysEnds.at k l x) (v := cyc l) (R := first l) (fun x hx => by
      have hr := first_rng hx
      have hok := nxt_ok hp x hr.1 hr.2
      obtain ⟨K, hK⟩ := reached_ev hp (nxt l x) (-1) hok.1 (by omega)
      refine ⟨K, fun k hk => ?_⟩
      have hk' : impl_reached.f k l (nxt l x) (-1) = some (rset (nxt l) (-1) (nxt l x) l.length) := hK k hk
      have hl := rset_len (nxt l) (-1) (nxt l x) l.length
      show impl_AlwaysEnds.at k l x = some (cyc l x)
      unfold impl_AlwaysEnds.at cyc
      rw [next_val l (by omega) hr.1 hr.2, Option.bind_some, hk', Option.bind_some, if_pos hr.1, if_pos (by omega)])
    refine ⟨K1 + K2 + K3, fun k hk => ?_⟩
    have e1 : impl_reached.f k l [0] (-1) = some (rset (nxt l) (-1) [0] l.length) := h1 k (by omega)
    have e2 : impl_trues.f k (rset (nxt l) (-1) [0] l.length) = some (idxTo (rset (nxt l) (-1) [0] l.length) (rset (nxt l) (-1) [0] l.length).length) := h2 k (by omega)
    have e3 : ∀ x ∈ first l, impl_AlwaysEnds.at k l x = some (cyc l x) := h3 k (by omega)
    have e4 : impl_ReachableFrom.f k l 0 = some (first l) := by
      unfold impl_ReachableFrom.f first
      rw [isNode_val, hp, hin, Option.bind_some, if_pos (show (true && true) = true from rfl), e1, Option.bind_some, e2, Option.bind_some, hl]
    have a1 : (first l).all (fun x => (impl_AlwaysEnds.at k l x).isSome) = true := by
      rw [List.all_eq_true]; intro x hx; rw [e3 x hx]; rfl
    have a2 : ((first l).any fun x => impl_AlwaysEnds.at k l x == some true) = (first l).any (cyc l) := by
      rw [Bool.eq_iff_iff, List.any_eq_true, List.any_eq_true]
      constructor
      · rintro ⟨x, hx, h⟩
        rw [e3 x hx] at h
        exact ⟨x, hx, by simpa using h⟩
      · rintro ⟨x, hx, h⟩
        refine ⟨x, hx, ?_⟩
        rw [e3 x hx, h]; rfl
    show impl_AlwaysEnds.f k l = some _
    unfold impl_AlwaysEnds.f
    rw [progOk_val, hp, Option.bind_some, if_pos rfl, e4, Option.bind_some, if_pos a1, a2]
  · rw [if_neg hp]
    refine Ev.congr (fun k => ?_) (ev_some _)
    unfold impl_AlwaysEnds.f
    rw [progOk_val, Option.bind_some, if_neg hp]
theorem specEnds_ev (l : List S52) (hl : l.length ≤ 1048576) : Ev (fun k => spec_AlwaysEnds.f k l) (endsB l) := by
  obtain ⟨K0, h0⟩ := specProgOk_ev l hl
  unfold endsB
  by_cases hp : progB l = true
  · rw [if_pos hp]
    have hs := prog_small hp
    obtain ⟨K1, h1⟩ := specReach_ev hp [0] (by simp) (by simp)
    have hlen := rset_len (nxt l) (-1) [0] l.length
    have hmem : ∀ x : Int, x ∈ first l ↔ 0 ≤ x ∧ x ≤ (l.length : Int) ∧ rdOf false (rset (nxt l) (-1) [0] l.length) x = true := by
      intro x
      unfold first
      rw [idxTo_mem]
      exact ⟨fun ⟨a, b, c⟩ => ⟨a, by omega, c⟩, fun ⟨a, b, c⟩ => ⟨a, by omega, c⟩⟩
    have loop := loop_to (fun k n (_ : Unit) => spec_AlwaysEnds.l0 k l (rset (nxt l) (-1) [0] l.length) (n : Int)) (l.length + 1)
      (fun n _ => ∀ j : Nat, j < n → rdOf false (rset (nxt l) (-1) [0] l.length) (j : Int) = true → cyc l (j : Int) = false) (!((first l).any (cyc l)))
      (fun n s hn hI => by
        have hw : wrap64 ((n : Int) + 1) = ((n + 1 : Nat) : Int) := wrap_succ hn (by omega)
        by_cases hm : rdOf false (rset (nxt l) (-1) [0] l.length) (n : Int) = true
        · have hok := nxt_ok hp (n : Int) (by omega) (by omega)
          obtain ⟨K2, h2⟩ := specNext_ev l hl (a := (n : Int)) (by omega) (by omega)
          obtain ⟨K3, h3⟩ := specReach_ev hp (nxt l (n : Int)) hok.1 (by omega)
          have hlen2 := rset_len (nxt l) (-1) (nxt l (n : Int)) l.length
          cases hc : cyc l (n : Int) with
          | true =>
            refine Or.inr ⟨K2 + K3, fun k hk => ?_⟩
            have e2 : spec_l07Next.f k l (n : Int) = some (nxt l (n : Int)) := h2 k (by omega)
            have e3 : spec_l07Reach.f k l (nxt l (n : Int)) = some (rset (nxt l) (-1) (nxt l (n : Int)) l.length) := h3 k (by omega)
            have hc' : rdOf false (rset (nxt l) (-1) (nxt l (n : Int)) l.length) (n : Int) = true := hc
            simp only [spec_AlwaysEnds.l0]
            rw [if_pos (by omega), if_pos (by omega), if_pos (by omega), if_pos hm, e2, Option.bind_some, e3, Option.bind_some, if_pos (by omega), if_pos hc']
            have : (first l).any (cyc l) = true := List.any_eq_true.2 ⟨(n : Int), (hmem _).2 ⟨by omega, by omega, hm⟩, hc⟩
            rw [this]; rfl
          | false =>
            refine Or.inl ⟨(), fun j hj hjm => ?_, K2 + K3, fun k hk => ?_⟩
            · by_cases e : j = n
              · subst e; exact hc
              · exact hI j (by omega) hjm
            · have e2 : spec_l07Next.f k l (n : Int) = some (nxt l (n : Int)) := h2 k (by omega)
              have e3 : spec_l07Reach.f k l (nxt l (n : Int)) = some (rset (nxt l) (-1) (nxt l (n : Int)) l.length) := h3 k (by omega)
              have hc' : rdOf false (rset (nxt l) (-1) (nxt l (n : Int)) l.length) (n : Int) = false := hc
              simp only [spec_AlwaysEnds.l0]
              rw [if_pos (by omega), if_pos (by omega), if_pos (by omega), if_pos hm, e2, Option.bind_some, e3, Option.bind_some, if_pos (by omega), if_neg (by rw [hc']; decide), hw]
        · refine Or.inl ⟨(), fun j hj hjm => ?_, 0, fun k hk => ?_⟩
          · by_cases e : j = n
            · subst e; exact absurd hjm hm
            · exact hI j (by omega) hjm
          · simp only [spec_AlwaysEnds.l0]
            rw [if_pos (by omega), if_pos (by omega), if_pos (by omega), if_neg hm, hw])
      (fun s hI => ⟨0, fun k _ => by
        simp only [spec_AlwaysEnds.l0]
        rw [if_neg (by omega)]
        have : (first l).any (cyc l) = false := by
          cases h : (first l).any (cyc l)
          · rfl
          · obtain ⟨x, hx, hc⟩ := List.any_eq_true.1 h
            obtain ⟨x0, x1, hm⟩ := (hmem x).1 hx
            have e : ((x.toNat : Nat) : Int) = x := by omega
            have := hI x.toNat (by omega) (by rw [e]; exact hm)
            rw [e, hc] at this
            cases this
        rw [this]; rfl⟩) 0 () (Nat.zero_le _) (fun j hj => absurd hj (Nat.not_lt_zero _))
    obtain ⟨K2, h2⟩ := loop
    refine ⟨K0 + K1 + K2, fun k hk => ?_⟩
    have e0 : spec_ProgramOk.f k l = some (progB l) := h0 k (by omega)
    have e1 : spec_l07Reach.f k l [0] = some (rset (nxt l) (-1) [0] l.length) := h1 k (by omega)
    have e2 : spec_AlwaysEnds.l0 k l (rset (nxt l) (-1) [0] l.length) 0 = some (!((first l).any (cyc l))) := h2 k (by omega)
    show spec_AlwaysEnds.f k l = some _
    unfold spec_AlwaysEnds.f
    rw [e0, hp, Option.bind_some, if_pos rfl, e1, Option.bind_some, e2]
  · have hp' : progB l = false := by simpa using hp
    rw [if_neg hp]
    refine ⟨K0, fun k hk => ?_⟩
    have e0 : spec_ProgramOk.f k l = some (progB l) := h0 k (by omega)
    show spec_AlwaysEnds.f k l = some _
    unfold spec_AlwaysEnds.f
    rw [e0, hp']
    rfl
theorem FnExactAlwaysEnds : laws_FnExactAlwaysEnds.PureH := by
  intro l h8 _
  by_cases hl : l.length ≤ 1048576
  · have hlp : (l.map conv).length ≤ 1048576 := by simpa using hl
    obtain ⟨K0, h0⟩ := ends_ev (l.map conv)
    obtain ⟨K2, h2⟩ := specEnds_ev (l.map conv) hlp
    obtain ⟨K1, h1⟩ := toInsS_ev l hl
    obtain ⟨K3, h3⟩ := eqInsS_same (l.map conv) hlp
    refine ⟨K0 + K1 + K2 + K3, ?_⟩
    have e0 := h0 (K0 + K1 + K2 + K3) (by omega)
    have e1 := h1 (K0 + K1 + K2 + K3) (by omega)
    have e2 := h2 (K0 + K1 + K2 + K3) (by omega)
    have e3 := h3 (K0 + K1 + K2 + K3) (by omega)
    simp only at e0 e1 e2 e3
    unfold laws_FnExactAlwaysEnds.f
    rw [szInsS_small l 1048576 (by omega) (by omega) (by omega), if_pos (by omega), Option.bind_some, if_neg (by omega)]
    simp only [e0, e1, e2, e3, Option.bind_some, if_true]
    rw [if_neg (by simp)]
  · refine ⟨0, ?_⟩
    unfold laws_FnExactAlwaysEnds.f
    rw [szInsS_small l 1048576 (by omega) (by omega) (by omega), if_neg (by omega), Option.bind_some, if_pos (by omega)]

end Go.Proofs.Ytbkgklkiennpbaa.Pure
