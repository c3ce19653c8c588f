/- Marks on rows of instructions, and that they are held. No condition but lengths that fit. -/
import Derived.Test.YtomehbmijdjjfaaLoopAid
import Derived.Test.YtomehbmijdjjfaaListSHN
import Derived.Test.YtomehbmijdjjfaaHN6
set_option linter.unusedVariables false
set_option linter.unusedSimpArgs false
namespace Go.Proofs.Ytomehbmijdjjfaa.HN
open Go Go.RowKit Go.Proofs.YtomehbmijdjjfaaW.PrintWords Go.Proofs.YtomehbmijdjjfaaW.PrintLast Go.Proofs.Ytomehbmijdjjfaa.Aid

theorem rd_setT {s : List S52} {n : Nat} (h : n < s.length) (v : S52) : rd_T52 (s.set n v) (n : Int) = v := by
  have := rdT_at (l := s.set n v) (n := n) (by simpa using h)
  rw [List.getElem?_set_self h] at this
  exact (Option.some.inj this).symm
def markI (n : Nat) : S52 := ⟨((4 * n + 1 : Nat) : Int), ((4 * n + 2 : Nat) : Int), ((4 * n + 3 : Nat) : Int), ((4 * n + 4 : Nat) : Int)⟩
def marksI (n : Nat) : List S52 := (List.range n).map markI
theorem marksI_at {n j : Nat} (h : j < n) : (marksI n)[j]? = some (markI j) := by simp [marksI, h]
theorem marksI_len (n : Nat) : (marksI n).length = n := by simp [marksI]
theorem markInsS_all (l : List S52) (hl : l.length ≤ 1048576) : Ev (fun k => laws_markInsS.f k l 1) (((4 * l.length + 1 : Nat) : Int), marksI l.length) := by
  have h := loop_to (fun k n (s : List S52) => laws_markInsS.l0 k s ((4 * n + 1 : Nat) : Int) (n : Int)) l.length (fun n s => s.length = l.length ∧ ∀ j, j < n → s[j]? = (marksI l.length)[j]?) (((4 * l.length + 1 : Nat) : Int), marksI l.length)
    (fun n s hn hI => Or.inl ⟨s.set n (markI n), (by
      have := set_upto (l := marksI l.length) (x := markI n) (by rw [marksI_len]; exact hI.1) (by rw [marksI_len]; exact hn) hI.2 (marksI_at hn)
      rw [marksI_len] at this
      exact this), 0, fun k _ => by
        have w1 : wrap64 (((4 * n + 1 : Nat) : Int) + 1) = ((4 * n + 2 : Nat) : Int) := wrap_succ (n := 4 * n + 1) (N := 4 * l.length + 9) (by omega) (by omega)
        have w2 : wrap64 (((4 * n + 2 : Nat) : Int) + 1) = ((4 * n + 3 : Nat) : Int) := wrap_succ (n := 4 * n + 2) (N := 4 * l.length + 9) (by omega) (by omega)
        have w3 : wrap64 (((4 * n + 3 : Nat) : Int) + 1) = ((4 * n + 4 : Nat) : Int) := wrap_succ (n := 4 * n + 3) (N := 4 * l.length + 9) (by omega) (by omega)
        have w4 : wrap64 (((4 * n + 4 : Nat) : Int) + 1) = ((4 * (n + 1) + 1 : Nat) : Int) := wrap_succ (n := 4 * n + 4) (N := 4 * l.length + 9) (by omega) (by omega)
        have w5 : wrap64 ((n : Int) + 1) = ((n + 1 : Nat) : Int) := wrap_succ hn (by omega)
        have hs : s.length = l.length := hI.1
        have hns : n < s.length := by omega
        have r1 := fun v => rd_setT (s := s) hns v
        simp only [laws_markInsS.l0]
        rw [if_pos (by omega), if_pos (by omega)]
        simp only [Option.bind_some, w1, w2, w3, w4, w5, Int.toNat_natCast, List.set_set, r1]
        rfl⟩)
    (fun s hI => ⟨0, fun k _ => by
      have hs : s.length = l.length := hI.1
      simp only [laws_markInsS.l0]
      rw [if_neg (by omega), all_upto (l := marksI l.length) (by rw [marksI_len]; exact hI.1) (fun j hj => hI.2 j (by rw [marksI_len] at hj; exact hj))]⟩) 0 l (Nat.zero_le _) ⟨rfl, fun j hj => absurd hj (Nat.not_lt_zero _)⟩
  exact Ev.congr (fun k => rfl) h
theorem heldInsS_ev (m : Nat) (hl : m ≤ 1048576) : Ev (fun k => laws_heldInsS.f k (marksI m) 1) ((4 * m + 1 : Nat) : Int) := by
  have h := loop_to (fun k n (_ : Unit) => laws_heldInsS.l0 k (marksI m) ((4 * n + 1 : Nat) : Int) (n : Int)) m (fun _ _ => True) ((4 * m + 1 : Nat) : Int)
    (fun n s hn _ => Or.inl ⟨(), trivial, 0, fun k _ => by
      have w1 : wrap64 (((4 * n + 1 : Nat) : Int) + 1) = ((4 * n + 2 : Nat) : Int) := wrap_succ (n := 4 * n + 1) (N := 4 * m + 9) (by omega) (by omega)
      have w2 : wrap64 (((4 * n + 2 : Nat) : Int) + 1) = ((4 * n + 3 : Nat) : Int) := wrap_succ (n := 4 * n + 2) (N := 4 * m + 9) (by omega) (by omega)
      have w3 : wrap64 (((4 * n + 3 : Nat) : Int) + 1) = ((4 * n + 4 : Nat) : Int) := wrap_succ (n := 4 * n + 3) (N := 4 * m + 9) (by omega) (by omega)
      have w4 : wrap64 (((4 * n + 4 : Nat) : Int) + 1) = ((4 * (n + 1) + 1 : Nat) : Int) := wrap_succ (n := 4 * n + 4) (N := 4 * m + 9) (by omega) (by omega)
      have w5 : wrap64 ((n : Int) + 1) = ((n + 1 : Nat) : Int) := wrap_succ hn (by omega)
      have hs := marksI_len m
      have hr : rd_T52 (marksI m) (n : Int) = markI n := by
        have := rdT_at (l := marksI m) (n := n) (by omega)
        rw [marksI_at hn] at this
        exact (Option.some.inj this).symm
      simp only [laws_heldInsS.l0, hr, w1, w2, w3, w4, w5]
      rw [if_pos (by omega), if_pos (by omega)]
      exact (if_pos rfl).trans ((if_pos rfl).trans ((if_pos rfl).trans (if_pos rfl)))⟩)
    (fun s _ => ⟨0, fun k _ => by
      have hs := marksI_len m
      simp only [laws_heldInsS.l0]
      rw [if_neg (by omega)]⟩) 0 () (Nat.zero_le _) trivial
  exact Ev.congr (fun k => rfl) h
end Go.Proofs.Ytomehbmijdjjfaa.HN
