import Derived.Test.YtbkgklkiennpbaaBase
import Derived.Test.YtbkgklkiennpbaaHR7
import Derived.Test.YtbkgklkiennpbaaHR3
import Derived.Test.YtbkgklkiennpbaaHR11
/- What the laws' marks on rows of instructions tell: a count. No condition but lengths that fit. -/
set_option linter.unusedVariables false
set_option linter.unusedSimpArgs false
namespace Go.Proofs.Ytbkgklkiennpbaa.HR
open Go Go.RowKit Go.Proofs.YtbkgklkiennpbaaW.PrintWords Go.Proofs.YtbkgklkiennpbaaW.PrintLast Go.Proofs.Ytbkgklkiennpbaa.Aid

theorem markInsS_ev (l : List S52) (hl : l.length ≤ 1048576) : ∃ r : Int × List S52, 0 ≤ r.1 ∧ Ev (fun k => laws_markInsS.f k l 1) r := by
  have h := loop_ev (fun k n (s : List S52) => laws_markInsS.l0 k s ((4 * n + 1 : Nat) : Int) (n : Int)) l.length (fun n s => s.length = l.length) (fun r => 0 ≤ r.1)
    (fun n s hn hI => Or.inl (by
      have w1 : wrap64 (((4 * n + 1 : Nat) : Int) + 1) = ((4 * n + 2 : Nat) : Int) := wrap_succ (n := 4 * n + 1) (N := 4 * l.length + 9) (by omega) (by omega)
      have w2 : wrap64 (((4 * n + 2 : Nat) : Int) + 1) = ((4 * n + 3 : Nat) : Int) := wrap_succ (n := 4 * n + 2) (N := 4 * l.length + 9) (by omega) (by omega)
      have w3 : wrap64 (((4 * n + 3 : Nat) : Int) + 1) = ((4 * n + 4 : Nat) : Int) := wrap_succ (n := 4 * n + 3) (N := 4 * l.length + 9) (by omega) (by omega)
      have w4 : wrap64 (((4 * n + 4 : Nat) : Int) + 1) = ((4 * (n + 1) + 1 : Nat) : Int) := wrap_succ (n := 4 * n + 4) (N := 4 * l.length + 9) (by omega) (by omega)
      have w5 : wrap64 ((n : Int) + 1) = ((n + 1 : Nat) : Int) := wrap_succ hn (by omega)
      have key : ∃ s' : List S52, s'.length = l.length ∧ ∀ k, laws_markInsS.l0 (k + 1) s ((4 * n + 1 : Nat) : Int) (n : Int) = laws_markInsS.l0 k s' ((4 * (n + 1) + 1 : Nat) : Int) ((n + 1 : Nat) : Int) := by
        let y1 : List S52 := s.set (n : Int).toNat ⟨((4 * n + 1 : Nat) : Int), (rd_T52 s (n : Int)).f1, (rd_T52 s (n : Int)).f2, (rd_T52 s (n : Int)).f3⟩
        let y2 : List S52 := y1.set (n : Int).toNat ⟨(rd_T52 y1 (n : Int)).f0, ((4 * n + 2 : Nat) : Int), (rd_T52 y1 (n : Int)).f2, (rd_T52 y1 (n : Int)).f3⟩
        let y3 : List S52 := y2.set (n : Int).toNat ⟨(rd_T52 y2 (n : Int)).f0, (rd_T52 y2 (n : Int)).f1, ((4 * n + 3 : Nat) : Int), (rd_T52 y2 (n : Int)).f3⟩
        refine ⟨y3.set (n : Int).toNat ⟨(rd_T52 y3 (n : Int)).f0, (rd_T52 y3 (n : Int)).f1, (rd_T52 y3 (n : Int)).f2, ((4 * n + 4 : Nat) : Int)⟩, by simp [y1, y2, y3, hI], fun k => ?_⟩
        have hI' : s.length = l.length := hI
        simp only [laws_markInsS.l0]
        rw [if_pos (by omega), if_pos (by omega)]
        simp only [Option.bind_some, w1, w2, w3, w4, w5]
        rfl
      obtain ⟨s', h1, h2⟩ := key
      exact ⟨s', h1, 0, fun k _ => h2 k⟩))
    (fun s hI => ⟨(((4 * l.length + 1 : Nat) : Int), s), (by show (0 : Int) ≤ ((4 * l.length + 1 : Nat) : Int); omega), 0, fun k _ => by
      simp only [laws_markInsS.l0]
      rw [if_neg (by omega)]⟩) 0 l (Nat.zero_le _) rfl
  obtain ⟨r, hr, h⟩ := h
  exact ⟨r, hr, Ev.congr (fun k => rfl) h⟩
end Go.Proofs.Ytbkgklkiennpbaa.HR
/- What the laws' marks on rows of ints tell: counted numbers, and that they are held. No condition but lengths that fit. -/
set_option linter.unusedVariables false
set_option linter.unusedSimpArgs false
namespace Go.Proofs.Ytbkgklkiennpbaa.HR
open Go Go.RowKit Go.Proofs.YtbkgklkiennpbaaW.PrintWords Go.Proofs.YtbkgklkiennpbaaW.PrintLast Go.Proofs.Ytbkgklkiennpbaa.Aid

def countI (n : Nat) : List Int := (List.range n).map fun j => ((j + 1 : Nat) : Int)
theorem countI_at {n j : Nat} (h : j < n) : (countI n)[j]? = some (((j + 1 : Nat) : Int)) := by simp [countI, h]
theorem countI_len (n : Nat) : (countI n).length = n := by simp [countI]
theorem markIntS_ev (l : List Int) (hl : l.length ≤ 1048576) : Ev (fun k => laws_markIntS.f k l 1) (((l.length + 1 : Nat) : Int), countI l.length) := by
  have h := loop_to (fun k n (s : List Int) => laws_markIntS.l0 k s ((n + 1 : Nat) : Int) (n : Int)) l.length (fun n s => s.length = l.length ∧ ∀ j, j < n → s[j]? = (countI l.length)[j]?) (((l.length + 1 : Nat) : Int), countI l.length)
    (fun n s hn hI => Or.inl ⟨s.set n (((n + 1 : Nat) : Int)), (by
      have := set_upto (l := countI l.length) (x := ((n + 1 : Nat) : Int)) (by rw [countI_len]; exact hI.1) (by rw [countI_len]; exact hn) hI.2 (countI_at hn)
      rw [countI_len] at this
      exact this), 0, fun k _ => by
      simp only [laws_markIntS.l0]
      have hs := hI.1
      rw [if_pos (by omega), if_pos (by omega), wrap_succ hn (by omega), Int.toNat_natCast, wrap_succ (n := n + 1) (N := l.length + 1) (by omega) (by omega)]⟩)
    (fun s hI => ⟨0, fun k _ => by
      simp only [laws_markIntS.l0]
      have hs := hI.1
      rw [if_neg (by omega), all_upto (l := countI l.length) (by rw [countI_len]; exact hI.1) (fun j hj => hI.2 j (by rw [countI_len] at hj; exact hj))]⟩) 0 l (Nat.zero_le _) ⟨rfl, fun j hj => absurd hj (Nat.not_lt_zero _)⟩
  exact Ev.congr (fun k => rfl) h
theorem heldIntS_ev (m : Nat) (hl : m ≤ 1048576) : Ev (fun k => laws_heldIntS.f k (countI m) 1) ((m + 1 : Nat) : Int) := by
  have h := loop_to (fun k n (_ : Unit) => laws_heldIntS.l0 k (countI m) ((n + 1 : Nat) : Int) (n : Int)) m (fun n _ => True) ((m + 1 : Nat) : Int)
    (fun n s hn _ => Or.inl ⟨(), trivial, 0, fun k _ => by
      simp only [laws_heldIntS.l0]
      have hs := countI_len m
      have hr : rd (countI m) (n : Int) = ((n + 1 : Nat) : Int) := by
        have := rd_at (l := countI m) (n := n) (by omega)
        rw [countI_at hn] at this
        exact (Option.some.inj this).symm
      rw [if_pos (by omega), if_pos (by omega), if_pos hr, wrap_succ hn (by omega), wrap_succ (n := n + 1) (N := m + 1) (by omega) (by omega)]⟩)
    (fun s _ => ⟨0, fun k _ => by
      simp only [laws_heldIntS.l0]
      have hs := countI_len m
      rw [if_neg (by omega)]⟩) 0 () (Nat.zero_le _) trivial
  exact Ev.congr (fun k => rfl) h
end Go.Proofs.Ytbkgklkiennpbaa.HR
/- The marked places, as the program lists them. -/
set_option linter.unusedVariables false
set_option linter.unusedSimpArgs false
namespace Go.Proofs.Ytbkgklkiennpbaa.HR
open Go Go.RowKit Go.Proofs.YtbkgklkiennpbaaW.PrintWords Go.Proofs.YtbkgklkiennpbaaW.PrintLast Go.Proofs.Ytbkgklkiennpbaa.Aid

theorem trues_ev (m : List Bool) (hm : m.length ≤ 1048576) : Ev (fun k => impl_trues.f k m) (idxTo m m.length) := by
  have h := loop_to (fun k n (s : List Int) => impl_trues.l0 k s m (m.length : Int) (n : Int)) m.length (fun n s => s = idxTo m n) (idxTo m m.length)
    (fun n s hn hI => Or.inl ⟨idxTo m (n + 1), rfl, 0, fun k _ => by
      have hs : s = idxTo m n := hI
      subst hs
      have := idxTo_len m n
      simp only [impl_trues.l0]
      rw [if_pos (by omega), if_pos (by omega), if_pos (by omega), idxTo_succ, wrap_succ hn (by omega)]
      by_cases h : rdOf false m (n : Int) = true
      · rw [if_pos h, if_pos (by omega), if_pos h]
      · rw [if_neg h, if_neg h, List.append_nil]⟩)
    (fun s hI => ⟨0, fun k _ => by
      have hs : s = idxTo m m.length := hI
      simp only [impl_trues.l0]
      rw [if_neg (by omega), hs]⟩) 0 [] (Nat.zero_le _) rfl
  exact Ev.congr (fun k => rfl) h
end Go.Proofs.Ytbkgklkiennpbaa.HR
/- The marked places, as the reference lists them. -/
set_option linter.unusedVariables false
set_option linter.unusedSimpArgs false
namespace Go.Proofs.Ytbkgklkiennpbaa.HR
open Go Go.RowKit Go.Proofs.YtbkgklkiennpbaaW.PrintWords Go.Proofs.YtbkgklkiennpbaaW.PrintLast Go.Proofs.Ytbkgklkiennpbaa.Aid

theorem marked_ev (m : List Bool) (hm : m.length ≤ 1048576) : Ev (fun k => spec_l07Marked.f k m) (idxTo m m.length) := by
  have h := loop_to (fun k n (s : List Int) => spec_l07Marked.l0 k m s (n : Int)) m.length (fun n s => s = idxTo m n) (idxTo m m.length)
    (fun n s hn hI => Or.inl ⟨idxTo m (n + 1), rfl, 0, fun k _ => by
      have hs : s = idxTo m n := hI
      subst hs
      have := idxTo_len m n
      simp only [spec_l07Marked.l0]
      rw [if_pos (by omega), if_pos (by omega), idxTo_succ, wrap_succ hn (by omega)]
      by_cases h : rdOf false m (n : Int) = true
      · rw [if_pos h, if_pos (by omega), if_pos h]
      · rw [if_neg h, if_neg h, List.append_nil]⟩)
    (fun s hI => ⟨0, fun k _ => by
      have hs : s = idxTo m m.length := hI
      simp only [spec_l07Marked.l0]
      rw [if_neg (by omega), hs]⟩) 0 [] (Nat.zero_le _) rfl
  exact Ev.congr (fun k => rfl) h
end Go.Proofs.Ytbkgklkiennpbaa.HR
