/- What the laws' loops over rows of strings tell: whether two rows are equal; marks, and that they are held. No condition but lengths that fit. -/
import Derived.Test.YtionemdnfhcfpaaDoorLoopAid
import Derived.Test.YtionemdnfhcfpaaDoorHQ2
import Derived.Test.YtionemdnfhcfpaaDoorHQ3
import Derived.Test.YtionemdnfhcfpaaDoorHQ4
set_option linter.unusedVariables false
set_option linter.unusedSimpArgs false
namespace Go.Proofs.YtionemdnfhcfpaaDoor.HQ
open Go Go.RowKit Go.Proofs.YtionemdnfhcfpaaDoorW.PrintWords Go.Proofs.YtionemdnfhcfpaaDoorW.PrintLast Go.Proofs.YtionemdnfhcfpaaDoor.Aid

theorem rdS_at {l : List ByteArray} {n : Nat} (h : n < l.length) : l[n]? = some (rdOf ByteArray.empty l (n : Int)) := by
  simp [rdOf, List.getD_eq_getElem?_getD, h]
theorem eqStringS_same (a : List ByteArray) (hl : a.length ≤ 1048576) : Ev (fun k => laws_eqStringS.f k a a) true := by
  have h := loop_to (fun k n (_ : Unit) => laws_eqStringS.l0 k a a (n : Int)) a.length (fun _ _ => True) true
    (fun n s hn _ => Or.inl ⟨(), trivial, 0, fun k _ => by
      simp only [laws_eqStringS.l0]
      rw [if_pos (by omega), if_pos (by omega), if_pos (by omega), if_pos trivial, wrap_succ hn (by omega)]⟩)
    (fun s _ => ⟨0, fun k _ => by
      simp only [laws_eqStringS.l0]
      rw [if_neg (by omega)]⟩) 0 () (Nat.zero_le _) trivial
  refine Ev.congr (fun k => ?_) h
  unfold laws_eqStringS.f
  rw [if_pos rfl]
  rfl
/-- The mark of a number: some text, the same each time. -/
theorem markText_ok : ∀ (d : Nat) (n : Int) (s : ByteArray), n.toNat ≤ d → d ≤ 4611686018427387904 → s.size + d ≤ 4611686018427387905 → ∃ t : ByteArray, Ev (fun k => laws_markText.l0 k n s) t := by
  intro d
  induction d using Nat.strongRecOn with
  | _ d ih =>
    intro n s hn hd hs
    by_cases h : n > 0
    · have hq : n.tdiv 10 = n / 10 := Int.tdiv_eq_ediv_of_nonneg (by omega)
      have hone : ∀ x : Int, (strOfNums [x]).size = 1 := fun x => rfl
      obtain ⟨t, K, hK⟩ := ih (d - 1) (by omega) (n / 10) (strOfNums [(wrap64 (48 + (Int.tmod n 10))) % 256] ++ s) (by omega) (by omega) (by rw [ByteArray.size_append, hone]; omega)
      refine ⟨t, K + 1, fun k hk => ?_⟩
      obtain ⟨k, rfl⟩ : ∃ j, k = j + 1 := ⟨k - 1, by omega⟩
      have e : laws_markText.l0 k (n / 10) (strOfNums [(wrap64 (48 + (Int.tmod n 10))) % 256] ++ s) = some t := hK k (by omega)
      show laws_markText.l0 (k + 1) n s = some t
      simp only [laws_markText.l0]
      rw [if_pos h, Option.bind_some, if_pos (by rw [hone]; omega), hq, wrap_id (by omega) (by omega), e]
    · refine ⟨(⟨#[109]⟩ : ByteArray) ++ s, 1, fun k hk => ?_⟩
      obtain ⟨k, rfl⟩ : ∃ j, k = j + 1 := ⟨k - 1, by omega⟩
      show laws_markText.l0 (k + 1) n s = some _
      simp only [laws_markText.l0]
      rw [if_neg h, if_pos (by omega)]
theorem markOne (n : Nat) (hn : n ≤ 4611686018427387904) : ∃ t : ByteArray, Ev (fun k => laws_markText.f k (n : Int)) t := by
  by_cases h : n = 0
  · subst h
    refine ⟨⟨#[109, 48]⟩, Ev.congr (fun k => ?_) (ev_some _)⟩
    unfold laws_markText.f
    rw [if_pos (by decide)]
  · obtain ⟨t, ht⟩ := markText_ok n (n : Int) ⟨#[]⟩ (by omega) hn (by show 0 + n ≤ _; omega)
    refine ⟨t, Ev.congr (fun k => ?_) ht⟩
    unfold laws_markText.f
    rw [if_neg (by omega)]
open Classical in
noncomputable def mk_ (n : Nat) : ByteArray := if h : n ≤ 4611686018427387904 then (markOne n h).choose else ⟨#[]⟩
theorem mk_ev {n : Nat} (h : n ≤ 4611686018427387904) : Ev (fun k => laws_markText.f k (n : Int)) (mk_ n) := by
  unfold mk_
  rw [dif_pos h]
  exact (markOne n h).choose_spec
noncomputable def marks (n : Nat) : List ByteArray := (List.range n).map fun j => mk_ (j + 1)
theorem marks_at {n j : Nat} (h : j < n) : (marks n)[j]? = some (mk_ (j + 1)) := by simp [marks, h]
theorem marks_len (n : Nat) : (marks n).length = n := by simp [marks]
theorem markStringS_ev (l : List ByteArray) (hl : l.length ≤ 1048576) : Ev (fun k => laws_markStringS.f k l 1) (((l.length + 1 : Nat) : Int), marks l.length) := by
  have h := loop_to (fun k n (s : List ByteArray) => laws_markStringS.l0 k s ((n + 1 : Nat) : Int) (n : Int)) l.length (fun n s => s.length = l.length ∧ ∀ j, j < n → s[j]? = (marks l.length)[j]?) (((l.length + 1 : Nat) : Int), marks l.length)
    (fun n s hn hI => Or.inl ⟨s.set n (mk_ (n + 1)), (by
      have := set_upto (l := marks l.length) (x := mk_ (n + 1)) (by rw [marks_len]; exact hI.1) (by rw [marks_len]; exact hn) hI.2 (marks_at hn)
      rw [marks_len] at this
      exact this), by
      obtain ⟨K, hK⟩ := mk_ev (n := n + 1) (by omega)
      refine ⟨K, fun k hk => ?_⟩
      have e : laws_markText.f k ((n + 1 : Nat) : Int) = some (mk_ (n + 1)) := hK k hk
      have hs := hI.1
      simp only [laws_markStringS.l0]
      rw [if_pos (by omega), e, Option.bind_some, if_pos (by omega), wrap_succ hn (by omega), Int.toNat_natCast, wrap_succ (n := n + 1) (N := l.length + 1) (by omega) (by omega)]⟩)
    (fun s hI => ⟨0, fun k _ => by
      simp only [laws_markStringS.l0]
      have hs := hI.1
      rw [if_neg (by omega), all_upto (l := marks l.length) (by rw [marks_len]; exact hI.1) (fun j hj => hI.2 j (by rw [marks_len] at hj; exact hj))]⟩) 0 l (Nat.zero_le _) ⟨rfl, fun j hj => absurd hj (Nat.not_lt_zero _)⟩
  exact Ev.congr (fun k => rfl) h
theorem heldStringS_ev (m : Nat) (hl : m ≤ 1048576) : Ev (fun k => laws_heldStringS.f k (marks m) 1) ((m + 1 : Nat) : Int) := by
  have h := loop_to (fun k n (_ : Unit) => laws_heldStringS.l0 k (marks m) ((n + 1 : Nat) : Int) (n : Int)) m (fun n _ => True) ((m + 1 : Nat) : Int)
    (fun n s hn _ => Or.inl ⟨(), trivial, by
      obtain ⟨K, hK⟩ := mk_ev (n := n + 1) (by omega)
      refine ⟨K, fun k hk => ?_⟩
      have e : laws_markText.f k ((n + 1 : Nat) : Int) = some (mk_ (n + 1)) := hK k hk
      have hs := marks_len m
      have hr : rdOf ByteArray.empty (marks m) (n : Int) = mk_ (n + 1) := by
        have := rdS_at (l := marks m) (n := n) (by omega)
        rw [marks_at hn] at this
        exact (Option.some.inj this).symm
      simp only [laws_heldStringS.l0]
      rw [if_pos (by omega), if_pos (by omega), e, Option.bind_some, hr, if_pos rfl, wrap_succ hn (by omega), wrap_succ (n := n + 1) (N := m + 1) (by omega) (by omega)]⟩)
    (fun s _ => ⟨0, fun k _ => by
      simp only [laws_heldStringS.l0]
      have hs := marks_len m
      rw [if_neg (by omega)]⟩) 0 () (Nat.zero_le _) trivial
  exact Ev.congr (fun k => rfl) h
end Go.Proofs.YtionemdnfhcfpaaDoor.HQ
