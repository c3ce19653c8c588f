/- What the laws' marks on rows of ints tell: counted numbers, and that they are held. No condition but lengths that fit. -/
import Derived.Test.YtbkgklkiennpbaaLoopAid
import Derived.Test.YtbkgklkiennpbaaHN7
set_option linter.unusedVariables false
set_option linter.unusedSimpArgs false
namespace Go.Proofs.Ytbkgklkiennpbaa.HN
open Go Go.RowKit Go.Proofs.YtbkgklkiennpbaaW.PrintWords Go.Proofs.YtbkgklkiennpbaaW.PrintLast Go.Proofs.Ytbkgklkiennpbaa.Aid

def countI (n : Nat) : List Int := (List.range n).map fun j => ((j + 1 : Nat) : Int)
theorem countI_at {n j : Nat} (h : j < n) : (countI n)[j]? = some (((j + 1 : Nat) : Int)) := by simp [countI, h]
theorem countI_len (n : Nat) : (countI n).length = n := by simp [countI]
theorem markIntS_ev (l : List Int) (hl : l.length ≤ 1048576) : Ev (fun k => laws_markIntS.f k l 1) (((l.length + 1 : Nat) : Int), countI l.length) := by
  have h := loop_to (fun k n (s : List Int) => laws_markIntS.l0 k s ((n + 1 : Nat) : Int) (n : Int)) l.length (fun n s => s.length = l.length ∧ ∀ j, j < n → s[j]? = (countI l.length)[j]?) (((l.length + 1 : Nat) : Int), countI l.length)
    (fun n s hn hI => Or.inl ⟨s.set n (((n + 1 : Nat) : Int)), (by
      have := set_upto (l := countI l.length) (x := ((n + 1 : Nat) : Int)) (by rw [countI_len]; exact hI.1) (by rw [countI_len]; exact hn) hI.2 (countI_at hn)
      rw [countI_len] at this
      exact this), 0, fun k _ => by
      simp only [laws_markIntS.l0]
      have hs := hI.1
      rw [if_pos (by omega), if_pos (by omega), wrap_succ hn (by omega), Int.toNat_natCast, wrap_succ (n := n + 1) (N := l.length + 1) (by omega) (by omega)]⟩)
    (fun s hI => ⟨0, fun k _ => by
      simp only [laws_markIntS.l0]
      have hs := hI.1
      rw [if_neg (by omega), all_upto (l := countI l.length) (by rw [countI_len]; exact hI.1) (fun j hj => hI.2 j (by rw [countI_len] at hj; exact hj))]⟩) 0 l (Nat.zero_le _) ⟨rfl, fun j hj => absurd hj (Nat.not_lt_zero _)⟩
  exact Ev.congr (fun k => rfl) h
theorem heldIntS_ev (m : Nat) (hl : m ≤ 1048576) : Ev (fun k => laws_heldIntS.f k (countI m) 1) ((m + 1 : Nat) : Int) := by
  have h := loop_to (fun k n (_ : Unit) => laws_heldIntS.l0 k (countI m) ((n + 1 : Nat) : Int) (n : Int)) m (fun n _ => True) ((m + 1 : Nat) : Int)
    (fun n s hn _ => Or.inl ⟨(), trivial, 0, fun k _ => by
      simp only [laws_heldIntS.l0]
      have hs := countI_len m
      have hr : rd (countI m) (n : Int) = ((n + 1 : Nat) : Int) := by
        have := rd_at (l := countI m) (n := n) (by omega)
        rw [countI_at hn] at this
        exact (Option.some.inj this).symm
      rw [if_pos (by omega), if_pos (by omega), if_pos hr, wrap_succ hn (by omega), wrap_succ (n := n + 1) (N := m + 1) (by omega) (by omega)]⟩)
    (fun s _ => ⟨0, fun k _ => by
      simp only [laws_heldIntS.l0]
      have hs := countI_len m
      rw [if_neg (by omega)]⟩) 0 () (Nat.zero_le _) trivial
  exact Ev.congr (fun k => rfl) h
end Go.Proofs.Ytbkgklkiennpbaa.HN
