/- What the laws' marks on rows of instructions tell: a count. No condition but lengths that fit. -/
import Derived.Test.YtbkgklkiennpbaaLoopAid
import Derived.Test.YtbkgklkiennpbaaHN7
set_option linter.unusedVariables false
set_option linter.unusedSimpArgs false
namespace Go.Proofs.Ytbkgklkiennpbaa.HN
open Go Go.RowKit Go.Proofs.YtbkgklkiennpbaaW.PrintWords Go.Proofs.YtbkgklkiennpbaaW.PrintLast Go.Proofs.Ytbkgklkiennpbaa.Aid

theorem markInsS_ev (l : List S52) (hl : l.length ≤ 1048576) : ∃ r : Int × List S52, 0 ≤ r.1 ∧ Ev (fun k => laws_markInsS.f k l 1) r := by
  have h := loop_ev (fun k n (s : List S52) => laws_markInsS.l0 k s ((4 * n + 1 : Nat) : Int) (n : Int)) l.length (fun n s => s.length = l.length) (fun r => 0 ≤ r.1)
    (fun n s hn hI => Or.inl (by
      have w1 : wrap64 (((4 * n + 1 : Nat) : Int) + 1) = ((4 * n + 2 : Nat) : Int) := wrap_succ (n := 4 * n + 1) (N := 4 * l.length + 9) (by omega) (by omega)
      have w2 : wrap64 (((4 * n + 2 : Nat) : Int) + 1) = ((4 * n + 3 : Nat) : Int) := wrap_succ (n := 4 * n + 2) (N := 4 * l.length + 9) (by omega) (by omega)
      have w3 : wrap64 (((4 * n + 3 : Nat) : Int) + 1) = ((4 * n + 4 : Nat) : Int) := wrap_succ (n := 4 * n + 3) (N := 4 * l.length + 9) (by omega) (by omega)
      have w4 : wrap64 (((4 * n + 4 : Nat) : Int) + 1) = ((4 * (n + 1) + 1 : Nat) : Int) := wrap_succ (n := 4 * n + 4) (N := 4 * l.length + 9) (by omega) (by omega)
      have w5 : wrap64 ((n : Int) + 1) = ((n + 1 : Nat) : Int) := wrap_succ hn (by omega)
      have key : ∃ s' : List S52, s'.length = l.length ∧ ∀ k, laws_markInsS.l0 (k + 1) s ((4 * n + 1 : Nat) : Int) (n : Int) = laws_markInsS.l0 k s' ((4 * (n + 1) + 1 : Nat) : Int) ((n + 1 : Nat) : Int) := by
        let y1 : List S52 := s.set (n : Int).toNat ⟨((4 * n + 1 : Nat) : Int), (rd_T52 s (n : Int)).f1, (rd_T52 s (n : Int)).f2, (rd_T52 s (n : Int)).f3⟩
        let y2 : List S52 := y1.set (n : Int).toNat ⟨(rd_T52 y1 (n : Int)).f0, ((4 * n + 2 : Nat) : Int), (rd_T52 y1 (n : Int)).f2, (rd_T52 y1 (n : Int)).f3⟩
        let y3 : List S52 := y2.set (n : Int).toNat ⟨(rd_T52 y2 (n : Int)).f0, (rd_T52 y2 (n : Int)).f1, ((4 * n + 3 : Nat) : Int), (rd_T52 y2 (n : Int)).f3⟩
        refine ⟨y3.set (n : Int).toNat ⟨(rd_T52 y3 (n : Int)).f0, (rd_T52 y3 (n : Int)).f1, (rd_T52 y3 (n : Int)).f2, ((4 * n + 4 : Nat) : Int)⟩, by simp [y1, y2, y3, hI], fun k => ?_⟩
        have hI' : s.length = l.length := hI
        simp only [laws_markInsS.l0]
        rw [if_pos (by omega), if_pos (by omega)]
        simp only [Option.bind_some, w1, w2, w3, w4, w5]
        rfl
      obtain ⟨s', h1, h2⟩ := key
      exact ⟨s', h1, 0, fun k _ => h2 k⟩))
    (fun s hI => ⟨(((4 * l.length + 1 : Nat) : Int), s), (by show (0 : Int) ≤ ((4 * l.length + 1 : Nat) : Int); omega), 0, fun k _ => by
      simp only [laws_markInsS.l0]
      rw [if_neg (by omega)]⟩) 0 l (Nat.zero_le _) rfl
  obtain ⟨r, hr, h⟩ := h
  exact ⟨r, hr, Ev.congr (fun k => rfl) h⟩
end Go.Proofs.Ytbkgklkiennpbaa.HN
