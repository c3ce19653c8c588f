/- For every byte list: of at most 2^20 bytes, in the program drawn from it a node is among the branches exactly where it has two successors, and every instruction has one or two; of a longer one the law asks nothing. -/
import Derived.Test.YtbkgklkiennpbaaHBFnBranchesStmt
import Derived.Test.YtbkgklkiennpbaaKitHB
set_option linter.unusedVariables false
set_option linter.unusedSimpArgs false
namespace Go.Proofs.Ytbkgklkiennpbaa.Pure
open Go.RowKit Go.Proofs.Ytbkgklkiennpbaa.HB Go.Proofs.YtbkgklkiennpbaaW.PrintWords Go.Proofs.YtbkgklkiennpbaaW.PrintLast Go.Proofs.Ytbkgklkiennpbaa.Aid

theorem nextOf_at {l : List S52} (hp : progB l = true) {a : Int} (h0 : 0 ≤ a) (h1 : a ≤ (l.length : Int)) : impl_NextOf.f l a = some (nxt l a) := by
  have hs := prog_small hp
  have hb : inB a 0 (l.length : Int) = true := inB_iff.2 ⟨h0, h1⟩
  unfold impl_NextOf.f
  rw [isNode_val, hp, hb, Option.bind_some, if_pos (show (true && true) = true from rfl), next_val l (by omega) h0 h1]
  rfl
theorem brs_mem {l : List S52} (hp : progB l = true) {n : Nat} (hn : n < l.length) : (n : Int) ∈ brs l ↔ isBr l n = true := by
  unfold brs brsTo
  rw [if_pos hp, List.mem_map]
  constructor
  · rintro ⟨j, hj, e⟩
    have : j = n := by omega
    subst this
    exact (List.mem_filter.1 hj).2
  · intro h
    exact ⟨n, List.mem_filter.2 ⟨List.mem_range.2 hn, h⟩, rfl⟩
theorem FnBranches : laws_FnBranches.PureH := by
  intro b h8 _
  unfold laws_FnBranches.f laws_big.f
  by_cases hb : (b.length : Int) > 1048576
  · exact ⟨0, by rw [Option.bind_some, if_pos (by simpa using hb)]⟩
  obtain ⟨p, ⟨K1, h1⟩, hp, h8⟩ := wild_ok (b := b) (by omega)
  obtain ⟨K2, h2⟩ := branches_ev p (by omega)
  have hRl := brs_len p
  have loop := loop_to (fun k n (_ : Unit) => laws_FnBranches.l0 k p (brs p) (n : Int)) p.length (fun _ _ => True) true
    (fun n s hn _ => Or.inl ⟨(), trivial, by
      obtain ⟨K, hK⟩ := has_ev (brs p) (by omega) (n : Int)
      refine ⟨K, fun k hk => ?_⟩
      have hk' : laws_has.f k (brs p) (n : Int) = some (decide ((n : Int) ∈ brs p)) := hK k hk
      simp only [laws_FnBranches.l0]
      have hne := nxt_ne (l := p) (x := (n : Int)) (by omega)
      have hle := (nxt_ok hp (n : Int) (by omega) (by omega)).2
      have hpos : 0 < (nxt p (n : Int)).length := List.length_pos_iff.2 hne
      have htwo := nxt_two (l := p) hn
      have hmem := brs_mem hp hn
      rw [if_pos (by omega), nextOf_at hp (by omega) (by omega), Option.bind_some, hk', Option.bind_some, wrap_succ hn (by omega)]
      have hc : (decide ((n : Int) ∈ brs p) != (((nxt p (n : Int)).length : Int) == 2)) = false := by
        by_cases h : isBr p n = true
        · have a1 := hmem.2 h
          have a2 := htwo.2 h
          simp [a1, a2]
        · have a1 : ¬ (n : Int) ∈ brs p := fun x => h (hmem.1 x)
          have a2 : ¬ (nxt p (n : Int)).length = 2 := fun x => h (htwo.1 x)
          have a3 : ¬ ((nxt p (n : Int)).length : Int) = 2 := by omega
          simp [a1, a3]
      rw [hc, if_neg (by decide), if_neg (by omega), if_neg (by omega)]⟩)
    (fun s _ => ⟨0, fun k _ => by
      simp only [laws_FnBranches.l0]
      rw [if_neg (by omega)]⟩) 0 () (Nat.zero_le _) trivial
  obtain ⟨K3, h3⟩ := loop
  have e1 : spec_DrawWild.f (K1 + K2 + K3) b = some p := h1 _ (by omega)
  have e2 : impl_BranchesOf.f (K1 + K2 + K3) p = some (brs p) := h2 _ (by omega)
  have e3 : laws_FnBranches.l0 (K1 + K2 + K3) p (brs p) 0 = some true := h3 _ (by omega)
  refine ⟨K1 + K2 + K3, ?_⟩
  rw [Option.bind_some, if_neg (by simpa using hb), e1, Option.bind_some, e2, Option.bind_some, e3]

end Go.Proofs.Ytbkgklkiennpbaa.Pure
