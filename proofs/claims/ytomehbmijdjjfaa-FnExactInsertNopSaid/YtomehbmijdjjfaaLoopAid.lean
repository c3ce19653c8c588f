/- How a printed loop is followed to its end: from state to state, with enough rounds. No condition. -/
import Derived.Test.YtomehbmijdjjfaaAid
set_option linter.unusedVariables false
namespace Go.Proofs.Ytomehbmijdjjfaa.Aid
open Go Go.RowKit Go.Proofs.YtomehbmijdjjfaaW.PrintWords Go.Proofs.YtomehbmijdjjfaaW.PrintLast

theorem loop_ev {σ ρ : Type} (g : Nat → Nat → σ → Option ρ) (N : Nat) (I : Nat → σ → Prop) (P : ρ → Prop)
    (step : ∀ n s, n < N → I n s → (∃ s', I (n + 1) s' ∧ ∃ K, ∀ k, K ≤ k → g (k + 1) n s = g k (n + 1) s') ∨ (∃ r, P r ∧ ∃ K, ∀ k, K ≤ k → g (k + 1) n s = some r))
    (fin : ∀ s, I N s → ∃ r, P r ∧ ∃ K, ∀ k, K ≤ k → g (k + 1) N s = some r) : ∀ n s, n ≤ N → I n s → ∃ r, P r ∧ Ev (fun k => g k n s) r := by
  have key : ∀ d n s, N - n = d → n ≤ N → I n s → ∃ r, P r ∧ Ev (fun k => g k n s) r := by
    intro d
    induction d with
    | zero =>
      intro n s hd hn hI
      obtain rfl : n = N := by omega
      obtain ⟨r, hP, K, hK⟩ := fin s hI
      refine ⟨r, hP, K + 1, fun k hk => ?_⟩
      obtain ⟨m, rfl⟩ : ∃ m, k = m + 1 := ⟨k - 1, by omega⟩
      exact hK m (by omega)
    | succ d ih =>
      intro n s hd hn hI
      rcases step n s (by omega) hI with ⟨s', hI', K, hK⟩ | ⟨r, hP, K, hK⟩
      · obtain ⟨r, hP, K', hK'⟩ := ih (n + 1) s' (by omega) (by omega) hI'
        refine ⟨r, hP, max K K' + 1, fun k hk => ?_⟩
        obtain ⟨m, rfl⟩ : ∃ m, k = m + 1 := ⟨k - 1, by omega⟩
        show g (m + 1) n s = some r
        rw [hK m (by omega)]
        exact hK' m (by omega)
      · refine ⟨r, hP, K + 1, fun k hk => ?_⟩
        obtain ⟨m, rfl⟩ : ∃ m, k = m + 1 := ⟨k - 1, by omega⟩
        exact hK m (by omega)
  exact fun n s hn hI => key (N - n) n s rfl hn hI

/-- The same where the end is known. -/
theorem loop_to {σ ρ : Type} (g : Nat → Nat → σ → Option ρ) (N : Nat) (I : Nat → σ → Prop) (r : ρ)
    (step : ∀ n s, n < N → I n s → (∃ s', I (n + 1) s' ∧ ∃ K, ∀ k, K ≤ k → g (k + 1) n s = g k (n + 1) s') ∨ (∃ K, ∀ k, K ≤ k → g (k + 1) n s = some r))
    (fin : ∀ s, I N s → ∃ K, ∀ k, K ≤ k → g (k + 1) N s = some r) (n : Nat) (s : σ) (hn : n ≤ N) (hI : I n s) : Ev (fun k => g k n s) r := by
  obtain ⟨r', rfl, h⟩ := loop_ev g N I (fun x => x = r) (fun n s h hI => (step n s h hI).imp id fun h => ⟨r, rfl, h⟩) (fun s hI => ⟨r, rfl, fin s hI⟩) n s hn hI
  exact h
theorem toList_bytes (l : List UInt8) : (⟨l.toArray⟩ : ByteArray).toList = l := by rw [ByteArray.toList_eq]
theorem toList_data (s : ByteArray) : s.toList = s.data.toList := ByteArray.toList_eq s
theorem wrap_succ {n N : Nat} (h : n < N) (hN : N ≤ 4611686018427387904) : wrap64 ((n : Int) + 1) = ((n + 1 : Nat) : Int) := by
  rw [wrap_id (by omega) (by omega)]; omega
theorem Ev.val {α : Type} {g : Nat → Option α} {r : α} (h : Ev g r) : ∃ K, ∀ k, K ≤ k → g k = some r := h
theorem ev_some {α : Type} (r : α) : Ev (fun _ => some r) r := ⟨0, fun _ _ => rfl⟩
/-- Rows as lists: what is written at a place. -/
theorem set_upto {α : Type} {a l : List α} {n : Nat} {x : α} (ha : a.length = l.length) (hn : n < l.length) (h : ∀ j, j < n → a[j]? = l[j]?) (hx : l[n]? = some x) : (a.set n x).length = l.length ∧ ∀ j, j < n + 1 → (a.set n x)[j]? = l[j]? := by
  refine ⟨by simpa using ha, fun j hj => ?_⟩
  rw [List.getElem?_set]
  by_cases e : n = j
  · subst e
    rw [if_pos rfl, if_pos (by omega), hx]
  · rw [if_neg e]
    exact h j (by omega)
theorem all_upto {α : Type} {a l : List α} (ha : a.length = l.length) (h : ∀ j, j < l.length → a[j]? = l[j]?) : a = l := by
  apply List.ext_getElem?
  intro j
  by_cases hj : j < l.length
  · exact h j hj
  · rw [List.getElem?_eq_none (by omega), List.getElem?_eq_none (by omega)]
theorem rd_at {l : List Int} {n : Nat} (h : n < l.length) : l[n]? = some (rd l (n : Int)) := by
  simp [rd, List.getD_eq_getElem?_getD, h]
end Go.Proofs.Ytomehbmijdjjfaa.Aid
