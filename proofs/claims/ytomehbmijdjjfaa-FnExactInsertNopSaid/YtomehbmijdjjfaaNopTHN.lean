/- What the insertion of an instruction that does nothing gives, as the program and as the reference tell it. No condition but lengths that fit. -/
import Derived.Test.YtomehbmijdjjfaaProgOkSHN
import Derived.Test.YtomehbmijdjjfaaHN3
import Derived.Test.YtomehbmijdjjfaaHN6
set_option linter.unusedVariables false
set_option linter.unusedSimpArgs false
namespace Go.Proofs.Ytomehbmijdjjfaa.HN
open Go Go.RowKit Go.Proofs.YtomehbmijdjjfaaW.PrintWords Go.Proofs.YtomehbmijdjjfaaW.PrintLast Go.Proofs.Ytomehbmijdjjfaa.Aid

/-- The new program, and whether there is one. -/
def nopRow (l : List S52) (a : Int) : List S52 := (l.map (impl_InsertNop.bump a)).take a.toNat ++ [⟨0, 0, 0, 0⟩] ++ (l.map (impl_InsertNop.bump a)).drop a.toNat
def nopYes (l : List S52) (a : Int) : Bool := progB l && (!decide ((l.length : Int) = 32) && inB a 0 (l.length : Int))
def nopB (l : List S52) (a : Int) : List S52 × Bool := if nopYes l a = true then (nopRow l a, true) else (l, false)
theorem implNop_val (l : List S52) (a : Int) (hl : l.length ≤ 1048576) : impl_InsertNop.f l a = some (nopB l a) := by
  unfold impl_InsertNop.f nopB nopYes
  rw [if_pos (by omega), progOk_val, Option.bind_some]
  cases progB l with
  | false => rfl
  | true =>
    rw [if_pos rfl, Bool.true_and]
    by_cases h : (l.length : Int) = 32
    · rw [if_pos h, decide_eq_true h]
      rfl
    · rw [if_neg h, decide_eq_false h, within_val, Option.bind_some, Bool.not_false, Bool.true_and]
      cases hb : inB a 0 (l.length : Int) with
      | false => rfl
      | true =>
        have h2 : 0 ≤ a ∧ a ≤ (l.length : Int) := by
          unfold inB at hb
          simpa using hb
        rw [if_pos rfl, if_pos h2, if_pos rfl]
        rfl
theorem nopRow_len (l : List S52) (a : Int) : (nopRow l a).length = l.length + 1 := by
  unfold nopRow
  simp
  omega
theorem bump_zero (a : Int) (h : 0 ≤ a) : impl_InsertNop.bump a (⟨0, 0, 0, 0⟩ : S52) = ⟨0, 0, 0, 0⟩ := by
  unfold impl_InsertNop.bump
  rw [if_neg (fun hh => by have h2 : a < 0 := hh.2; omega)]
theorem nopRow_map (l : List S52) (a : Int) (h : 0 ≤ a) : (l.take a.toNat ++ ([⟨0, 0, 0, 0⟩] : List S52) ++ l.drop a.toNat).map (impl_InsertNop.bump a) = nopRow l a := by
  unfold nopRow
  rw [List.map_append, List.map_append, List.map_take, List.map_drop, List.map_cons, List.map_nil, bump_zero a h]
theorem rdN_at {l : List S52} {n : Nat} (h : n < l.length) : l[n]? = some (rd_T52 l (n : Int)) := by
  simp [rd_T52, List.getD_eq_getElem?_getD, h]
/-- The reference's loop: each target behind the place is raised. -/
theorem specLoop_ev (m : List S52) (a : Int) (hl : m.length ≤ 1048577) : Ev (fun k => spec_InsertNop.l0 k a m 0) (m.map (impl_InsertNop.bump a), true) := by
  have h := loop_to (fun k n (s : List S52) => spec_InsertNop.l0 k a s (n : Int)) m.length (fun n s => s = impl_InsertNop.part a m n) (m.map (impl_InsertNop.bump a), true)
    (fun n s hn hI => Or.inl ⟨impl_InsertNop.part a m (n + 1), rfl, 0, fun k _ => by
      subst hI
      have hs := impl_InsertNop.part_len a m n (by omega)
      have hr : rd_T52 (impl_InsertNop.part a m n) (n : Int) = m.getD n z52 := by
        unfold rd_T52
        rw [Int.toNat_natCast]
        exact impl_InsertNop.part_at a m n hn
      obtain ⟨E, hE⟩ : ∃ E, E = m.getD n z52 := ⟨_, rfl⟩
      rw [← hE] at hr
      have hset : impl_InsertNop.bump a E = ⟨E.f0, E.f1, wrap64 (E.f2 + 1), E.f3⟩ → (impl_InsertNop.part a m n).set n ⟨E.f0, E.f1, wrap64 (E.f2 + 1), E.f3⟩ = impl_InsertNop.part a m (n + 1) := fun e => by
        rw [← e, hE]
        exact impl_InsertNop.part_set a m n hn
      have hsame : impl_InsertNop.bump a E = E → impl_InsertNop.part a m n = impl_InsertNop.part a m (n + 1) := fun e => impl_InsertNop.part_same a m n hn (by rw [← hE]; exact e)
      simp only [spec_InsertNop.l0]
      rw [if_pos (by omega), if_pos (by omega), hr, wrap_succ hn (by omega), Int.toNat_natCast]
      by_cases h0 : E.f0 = 10
      · rw [if_pos h0]
        by_cases h2 : E.f2 > a
        · rw [if_pos h2, hset (if_pos ⟨.inl h0, h2⟩)]
        · rw [if_neg h2, ← hsame (if_neg (fun h => h2 h.2))]
      · rw [if_neg h0]
        by_cases h1 : E.f0 = 11
        · rw [if_pos h1]
          by_cases h2 : E.f2 > a
          · rw [if_pos h2, hset (if_pos ⟨.inr h1, h2⟩)]
          · rw [if_neg h2, ← hsame (if_neg (fun h => h2 h.2))]
        · rw [if_neg h1, ← hsame (if_neg (fun h => h.1.elim h0 h1))]⟩)
    (fun s hI => ⟨0, fun k _ => by
      subst hI
      have hs := impl_InsertNop.part_len a m m.length (Nat.le_refl _)
      simp only [spec_InsertNop.l0]
      rw [if_neg (by omega), impl_InsertNop.part_all]⟩) 0 m (Nat.zero_le _) (by simp [impl_InsertNop.part])
  exact Ev.congr (fun k => rfl) h
theorem specNop_ev (l : List S52) (a : Int) (hl : l.length ≤ 1048576) : Ev (fun k => spec_InsertNop.f k l a) (nopB l a) := by
  obtain ⟨K0, h0⟩ := specProgOk_ev l hl
  have hj : Ev (fun k => spec_InsertNop.j0 k l a true) (l, false) := ⟨1, fun k hk => by
    obtain ⟨k, rfl⟩ : ∃ m, k = m + 1 := ⟨k - 1, by omega⟩
    show spec_InsertNop.j0 (k + 1) l a true = _
    simp only [spec_InsertNop.j0]
    rw [if_pos trivial, Option.bind_some, if_pos (by simp; omega), List.nil_append]⟩
  obtain ⟨K1, h1⟩ := hj
  by_cases hp : progB l = true
  · by_cases h32 : (l.length : Int) = 32
    · refine ⟨K0 + K1, fun k hk => ?_⟩
      have e0 : spec_ProgramOk.f k l = some (progB l) := h0 k (by omega)
      have e1 : spec_InsertNop.j0 k l a true = some (l, false) := h1 k (by omega)
      show spec_InsertNop.f k l a = _
      unfold spec_InsertNop.f nopB nopYes
      rw [e0, Option.bind_some, if_pos hp, if_pos h32, e1, hp, decide_eq_true h32]
      rfl
    · cases hb : inB a 0 (l.length : Int) with
      | false =>
        refine ⟨K0 + K1, fun k hk => ?_⟩
        have e0 : spec_ProgramOk.f k l = some (progB l) := h0 k (by omega)
        have e1 : spec_InsertNop.j0 k l a true = some (l, false) := h1 k (by omega)
        show spec_InsertNop.f k l a = _
        unfold spec_InsertNop.f nopB nopYes
        rw [e0, Option.bind_some, if_pos hp, if_neg h32, l01In_val, Option.bind_some, hb, hp, decide_eq_false h32]
        exact e1
      | true =>
        have h2 : 0 ≤ a ∧ a ≤ (l.length : Int) := by
          unfold inB at hb
          simpa using hb
        obtain ⟨K2, hq⟩ := specLoop_ev (l.take a.toNat ++ [⟨0, 0, 0, 0⟩] ++ l.drop a.toNat) a (by simp; omega)
        refine ⟨K0 + K2 + 1, fun k hk => ?_⟩
        obtain ⟨k, rfl⟩ : ∃ m, k = m + 1 := ⟨k - 1, by omega⟩
        have e0 : spec_ProgramOk.f (k + 1) l = some (progB l) := h0 (k + 1) (by omega)
        have e2 : spec_InsertNop.l0 k a (l.take a.toNat ++ [⟨0, 0, 0, 0⟩] ++ l.drop a.toNat) 0 = some _ := hq k (by omega)
        show spec_InsertNop.f (k + 1) l a = _
        unfold spec_InsertNop.f nopB nopYes
        rw [e0, Option.bind_some, if_pos hp, if_neg h32, l01In_val, Option.bind_some, hb, hp, decide_eq_false h32]
        simp only [spec_InsertNop.j0]
        rw [if_neg (by decide), Option.bind_some, if_pos h2.1, if_pos h2.2, Option.bind_some, if_pos (by simp; omega), Option.bind_some, if_pos (by simp; omega), Option.bind_some, Option.bind_some, if_pos (by simp; omega), List.nil_append, e2, nopRow_map l a h2.1]
        rfl
  · have hp' : progB l = false := by simpa using hp
    refine ⟨K0 + K1, fun k hk => ?_⟩
    have e0 : spec_ProgramOk.f k l = some (progB l) := h0 k (by omega)
    have e1 : spec_InsertNop.j0 k l a true = some (l, false) := h1 k (by omega)
    show spec_InsertNop.f k l a = _
    unfold spec_InsertNop.f nopB nopYes
    rw [e0, Option.bind_some, hp', if_neg (by decide), e1]
    rfl
theorem nopB_len (l : List S52) (a : Int) (hl : l.length ≤ 1048576) : (nopB l a).1.length ≤ 1048576 := by
  unfold nopB
  split
  · rename_i h
    rw [nopRow_len]
    unfold nopYes progB at h
    simp at h
    omega
  · show l.length ≤ _; omega
end Go.Proofs.Ytomehbmijdjjfaa.HN
