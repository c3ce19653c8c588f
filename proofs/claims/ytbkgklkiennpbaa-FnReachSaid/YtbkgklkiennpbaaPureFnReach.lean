/- For every byte list: of at most 2^20 bytes, in the program drawn from it what is reached from a node is closed under successors, and a node reaches the exit exactly where a successor does or it is the exit; of a longer one the law asks nothing. -/
import Derived.Test.YtbkgklkiennpbaaHFFnReachStmt
import Derived.Test.YtbkgklkiennpbaaKitHF
set_option linter.unusedVariables false
set_option linter.unusedSimpArgs false
namespace Go.Proofs.Ytbkgklkiennpbaa.Pure
open Go.RowKit Go.Proofs.Ytbkgklkiennpbaa.HF Go.Proofs.YtbkgklkiennpbaaW.PrintWords Go.Proofs.YtbkgklkiennpbaaW.PrintLast Go.Proofs.Ytbkgklkiennpbaa.Aid

theorem nextOf_at {l : List S52} (hp : progB l = true) {a : Int} (h0 : 0 ≤ a) (h1 : a ≤ (l.length : Int)) : impl_NextOf.f l a = some (nxt l a) := by
  have hs := prog_small hp
  have hb : inB a 0 (l.length : Int) = true := inB_iff.2 ⟨h0, h1⟩
  unfold impl_NextOf.f
  rw [isNode_val, hp, hb, Option.bind_some, if_pos (show (true && true) = true from rfl), next_val l (by omega) h0 h1]
  rfl
theorem exit_at {l : List S52} (hp : progB l = true) {a : Int} (h0 : 0 ≤ a) (h1 : a ≤ (l.length : Int)) : exitB l a = true ↔ Rch (nxt l) (-1) [a] (l.length : Int) := by
  have hb : inB a 0 (l.length : Int) = true := inB_iff.2 ⟨h0, h1⟩
  unfold exitB
  rw [hp, hb, if_pos (show (true && true) = true from rfl)]
  exact rset_at (by omega) (by omega)
theorem exit_step {l : List S52} (hp : progB l = true) {v : Int} (h0 : 0 ≤ v) (h1 : v ≤ (l.length : Int)) : ((((nxt l v).length : Int) == 0) || (nxt l v).any (exitB l)) = exitB l v := by
  rw [Bool.eq_iff_iff, Bool.or_eq_true, List.any_eq_true, exit_at hp h0 h1]
  have hok := nxt_ok hp v h0 h1
  constructor
  · rintro (h | ⟨y, hy, h⟩)
    · have hnil : nxt l v = [] := List.eq_nil_of_length_eq_zero (by have := beq_iff_eq.1 h; omega)
      have hv : v = (l.length : Int) := by
        refine Classical.byContradiction fun hn => ?_
        exact nxt_ne (l := l) (x := v) (by omega) hnil
      rw [hv]
      exact .start (List.mem_singleton.2 rfl) (by omega)
    · have hyr := hok.1 y hy
      have := (exit_at hp hyr.1 hyr.2).1 h
      refine Rch.trans (fun s hs hw => ?_) this
      rw [List.mem_singleton.1 hs]
      exact .step (.start (List.mem_singleton.2 rfl) (by omega)) hy (by omega)
  · intro h
    by_cases hv : v = (l.length : Int)
    · left; rw [hv, nxt_exit]; rfl
    · rcases h.first with h | ⟨y, hy, _, h⟩
      · exact absurd h.symm hv
      · have hyr := hok.1 y hy
        exact .inr ⟨y, hy, (exit_at hp hyr.1 hyr.2).2 h⟩
theorem FnReach : laws_FnReach.PureH := by
  intro b h8 _
  unfold laws_FnReach.f laws_big.f
  by_cases hb : (b.length : Int) > 1048576
  · exact ⟨0, by rw [Option.bind_some, if_pos (by simpa using hb)]⟩
  obtain ⟨p, ⟨K1, h1⟩, hp, h8⟩ := wild_ok (b := b) (by omega)
  obtain ⟨l, ⟨K2, h2⟩, hl, hpl⟩ := places_ok (b := b) (by omega)
  have hy := hpl (rd l 0) (rd_in (by omega) (by omega))
  have hw : wrap64 ((p.length : Int) + 1) = (p.length : Int) + 1 := wrap_id (by omega) (by omega)
  have ha : ∃ a : Int, Int.tmod (rd l 0) (wrap64 ((p.length : Int) + 1)) = a ∧ 0 ≤ a ∧ a ≤ (p.length : Int) := by
    rw [hw, Int.tmod_eq_emod_of_nonneg hy.1]
    have g1 := Int.emod_nonneg (rd l 0) (show ((p.length : Int) + 1) ≠ 0 by omega)
    have g2 := Int.emod_lt_of_pos (rd l 0) (show 0 < (p.length : Int) + 1 by omega)
    exact ⟨_, rfl, g1, by omega⟩
  obtain ⟨a, ea, a0, a1⟩ := ha
  have hin : inB a 0 (p.length : Int) = true := inB_iff.2 ⟨a0, a1⟩
  have hrl := rset_len (nxt p) (-1) [a] p.length
  generalize hR : idxTo (rset (nxt p) (-1) [a] p.length) (p.length + 1) = R
  have hRl : R.length ≤ 9 := by rw [← hR]; exact Nat.le_trans (idxTo_len _ _) (by omega)
  have hmem : ∀ x, x ∈ R ↔ 0 ≤ x ∧ x ≤ (p.length : Int) ∧ Rch (nxt p) (-1) [a] x := by
    intro x
    rw [← hR, idxTo_mem]
    constructor
    · rintro ⟨g0, g1, g2⟩
      exact ⟨g0, by omega, (rset_at g0 (by omega)).1 g2⟩
    · rintro ⟨g0, g1, g2⟩
      exact ⟨g0, by omega, (rset_at g0 g1).2 g2⟩
  have reach : Ev (fun k => impl_ReachableFrom.f k p a) R := by
    obtain ⟨K3, h3⟩ := reached_ev hp [a] (-1) (by simpa using ⟨a0, a1⟩) (by simp)
    obtain ⟨K4, h4⟩ := trues_ev (rset (nxt p) (-1) [a] p.length) (by omega)
    refine ⟨K3 + K4, fun k hk => ?_⟩
    have e1 : impl_reached.f k p [a] (-1) = some (rset (nxt p) (-1) [a] p.length) := h3 k (by omega)
    have e2 : impl_trues.f k (rset (nxt p) (-1) [a] p.length) = some (idxTo (rset (nxt p) (-1) [a] p.length) (rset (nxt p) (-1) [a] p.length).length) := h4 k (by omega)
    show impl_ReachableFrom.f k p a = some _
    unfold impl_ReachableFrom.f
    rw [isNode_val, hp, hin, Option.bind_some, if_pos (show (true && true) = true from rfl), e1, Option.bind_some, e2, Option.bind_some, hrl, hR]
  have key : ∀ d j, R.length - j = d → j ≤ R.length → Ev (fun k => laws_FnReach.l0 k p a R (j : Int)) true := by
    intro d
    induction d with
    | zero =>
      intro j hd hj
      obtain rfl : j = R.length := by omega
      obtain ⟨K5, h5⟩ := has_ev R (by omega) a
      obtain ⟨K6, h6⟩ := has_ev R (by omega) (p.length : Int)
      obtain ⟨K7, h7⟩ := reachesExit_ev p a
      refine ⟨K5 + K6 + K7 + 1, fun k hk => ?_⟩
      obtain ⟨k, rfl⟩ : ∃ m, k = m + 1 := ⟨k - 1, by omega⟩
      have e5 : laws_has.f k R a = some (decide (a ∈ R)) := h5 k (by omega)
      have e6 : laws_has.f k R (p.length : Int) = some (decide ((p.length : Int) ∈ R)) := h6 k (by omega)
      have e7 : impl_ReachesExit.f k p a = some (exitB p a) := h7 k (by omega)
      have hm1 : a ∈ R := (hmem a).2 ⟨a0, a1, .start (List.mem_singleton.2 rfl) (by omega)⟩
      have hm2 : exitB p a = decide ((p.length : Int) ∈ R) := by
        rw [Bool.eq_iff_iff, exit_at hp a0 a1, decide_eq_true_iff, hmem]
        exact ⟨fun h => ⟨by omega, by omega, h⟩, fun h => h.2.2⟩
      simp only [laws_FnReach.l0]
      rw [if_neg (by omega), e5, e6, e7, hm2, nextOf_at hp (by omega) (by omega), nxt_exit]
      simp [hm1]
    | succ d ih =>
      intro j hd hj
      have hjl : j < R.length := by omega
      obtain ⟨K0, h0⟩ := ih (j + 1) (by omega) (by omega)
      have hv : rd R (j : Int) ∈ R := rd_in (by omega) (by omega)
      generalize hve : rd R (j : Int) = v at hv
      obtain ⟨v0, v1, hvr⟩ := (hmem v).1 hv
      have hok := nxt_ok hp v v0 v1
      have inner := loop_to (fun k i (s : Bool) => laws_FnReach.l1 k p a R (j : Int) (nxt p v) s (i : Int)) (nxt p v).length
        (fun i s => s = ((((nxt p v).length : Int) == 0) || ((nxt p v).take i).any (exitB p))) true
        (fun i s hi hI => Or.inl ⟨((((nxt p v).length : Int) == 0) || ((nxt p v).take (i + 1)).any (exitB p)), rfl, by
          have hyi : rd (nxt p v) (i : Int) ∈ nxt p v := rd_in (by omega) (by omega)
          have htk : (nxt p v).take (i + 1) = (nxt p v).take i ++ [rd (nxt p v) (i : Int)] := by
            rw [List.take_add_one, rd_at hi]; rfl
          generalize hye : rd (nxt p v) (i : Int) = y at hyi htk
          have hyr := hok.1 y hyi
          have hyR : y ∈ R := (hmem y).2 ⟨hyr.1, hyr.2, .step hvr hyi (by omega)⟩
          obtain ⟨K5, h5⟩ := has_ev R (by omega) y
          obtain ⟨K6, h6⟩ := reachesExit_ev p y
          refine ⟨K5 + K6, fun k hk => ?_⟩
          have e5 : laws_has.f k R y = some (decide (y ∈ R)) := h5 k (by omega)
          have e6 : impl_ReachesExit.f k p y = some (exitB p y) := h6 k (by omega)
          have hI' : s = ((((nxt p v).length : Int) == 0) || ((nxt p v).take i).any (exitB p)) := hI
          simp only [laws_FnReach.l1]
          rw [if_pos (by omega), if_pos (by omega), hye, e5, Option.bind_some, if_pos (by simpa using hyR), e6, wrap_succ hi (by omega), htk, List.any_append, ← Bool.or_assoc, ← hI']
          cases s <;> simp⟩)
        (fun s hI => by
          obtain ⟨K5, h5⟩ := reachesExit_ev p v
          refine ⟨K0 + K5, fun k hk => ?_⟩
          have e5 : impl_ReachesExit.f k p v = some (exitB p v) := h5 k (by omega)
          have e0 : laws_FnReach.l0 k p a R ((j + 1 : Nat) : Int) = some true := h0 k (by omega)
          have hs : s = exitB p v := by rw [hI, List.take_length]; exact exit_step hp v0 v1
          simp only [laws_FnReach.l1]
          rw [if_neg (by omega), if_pos (by omega), if_pos (by omega), hve, e5, Option.bind_some, hs, if_neg (by simp), wrap_succ hjl (by omega), e0]) 0 (((nxt p v).length : Int) == 0) (Nat.zero_le _) (by simp)
      obtain ⟨K, hK⟩ := inner
      refine ⟨K + 1, fun k hk => ?_⟩
      obtain ⟨k, rfl⟩ : ∃ m, k = m + 1 := ⟨k - 1, by omega⟩
      simp only [laws_FnReach.l0]
      rw [if_pos (by omega), if_pos (by omega), hve, nextOf_at hp v0 v1, Option.bind_some]
      exact hK k (by omega)
  obtain ⟨K3, h3⟩ := reach
  obtain ⟨K4, h4⟩ := key R.length 0 (by omega) (by omega)
  have e1 : spec_DrawWild.f (K1 + K2 + K3 + K4) b = some p := h1 _ (by omega)
  have e2 : spec_DrawPlaces.f (K1 + K2 + K3 + K4) b = some l := h2 _ (by omega)
  have e3 : impl_ReachableFrom.f (K1 + K2 + K3 + K4) p a = some R := h3 _ (by omega)
  have e4 : laws_FnReach.l0 (K1 + K2 + K3 + K4) p a R 0 = some true := h4 _ (by omega)
  refine ⟨K1 + K2 + K3 + K4, ?_⟩
  rw [Option.bind_some, if_neg (by simpa using hb), e1, Option.bind_some, e2, Option.bind_some, if_pos (by omega), if_neg (by omega), ea, e3, Option.bind_some, e4]

end Go.Proofs.Ytbkgklkiennpbaa.Pure
