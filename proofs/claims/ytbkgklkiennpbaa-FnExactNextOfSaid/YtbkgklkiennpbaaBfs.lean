/- A walk over a graph of the nodes 0 to n with a queue and marks: what is marked at its end is what is reached without passing w. No condition. -/
import Derived.Test.YtbkgklkiennpbaaLoopAid
set_option linter.unusedVariables false
set_option linter.unusedSimpArgs false
namespace Go.Proofs.Ytbkgklkiennpbaa.Aid
open Go Go.RowKit Go.Proofs.YtbkgklkiennpbaaW.PrintWords Go.Proofs.YtbkgklkiennpbaaW.PrintLast

/-- What is reached from S without passing w. -/
inductive Rch (nx : Int → List Int) (w : Int) (S : List Int) : Int → Prop
  | start {x : Int} : x ∈ S → x ≠ w → Rch nx w S x
  | step {x y : Int} : Rch nx w S x → y ∈ nx x → y ≠ w → Rch nx w S y

theorem mk_set {m : List Bool} {x y : Int} (hx : 0 ≤ x) (hxl : x.toNat < m.length) (hy : 0 ≤ y) : rdOf false (m.set x.toNat true) y = true ↔ y = x ∨ rdOf false m y = true := by
  unfold rdOf
  rw [List.getD_eq_getElem?_getD, List.getD_eq_getElem?_getD, List.getElem?_set]
  by_cases e : x.toNat = y.toNat
  · have : y = x := by omega
    rw [if_pos e, if_pos hxl]
    simp [this]
  · rw [if_neg e]
    have : y ≠ x := by omega
    simp [this]
theorem count_set : ∀ {m : List Bool} {i : Nat}, i < m.length → m.getD i false = false → (m.set i true).count false + 1 = m.count false := by
  intro m
  induction m with
  | nil => intro i hi; cases hi
  | cons b m ih =>
    intro i hi hb
    cases i with
    | zero =>
      simp at hb
      subst hb
      simp
    | succ i =>
      have := ih (i := i) (by simpa using hi) (by simpa using hb)
      rw [List.set_cons_succ, List.count_cons, List.count_cons]
      omega

section
variable {ρ : Type} (g : Nat → List Bool → List Int → Option ρ) (n : Nat) (nx : Int → List Int) (w : Int) (S : List Int) (T : Int → Prop) (Pr : ρ → Prop)
structure BInv (m : List Bool) (q : List Int) : Prop where
  len : m.length = n + 1
  rng : ∀ x ∈ q, 0 ≤ x ∧ x ≤ (n : Int)
  sound : ∀ x, 0 ≤ x → rdOf false m x = true → Rch nx w S x ∧ T x
  todo : ∀ x ∈ q, x = w ∨ Rch nx w S x
  from_ : ∀ x ∈ S, x = w ∨ rdOf false m x = true ∨ x ∈ q
  shut : ∀ x, 0 ≤ x → rdOf false m x = true → ∀ y ∈ nx x, y = w ∨ rdOf false m y = true ∨ y ∈ q
  small : 3 * m.count false + q.length ≤ 3 * (n + 1) + S.length
theorem bfs_ev (hS : ∀ x ∈ S, 0 ≤ x ∧ x ≤ (n : Int)) (hnx : ∀ x : Int, 0 ≤ x → x ≤ (n : Int) → (∀ y ∈ nx x, 0 ≤ y ∧ y ≤ (n : Int)) ∧ (nx x).length ≤ 2)
    (skip : ∀ (m : List Bool) (x : Int) (q : List Int), m.length = n + 1 → 0 ≤ x → x ≤ (n : Int) → (x = w ∨ rdOf false m x = true) → ∃ K, ∀ k, K ≤ k → g (k + 1) m (x :: q) = g k m q)
    (visit : ∀ (m : List Bool) (x : Int) (q : List Int), m.length = n + 1 → 0 ≤ x → x ≤ (n : Int) → x ≠ w → rdOf false m x = false → q.length ≤ 3 * (n + 1) + S.length → Rch nx w S x →
      (T x ∧ ∃ K, ∀ k, K ≤ k → g (k + 1) m (x :: q) = g k (m.set x.toNat true) (q ++ nx x)) ∨ ∃ r, Pr r ∧ ∃ K, ∀ k, K ≤ k → g (k + 1) m (x :: q) = some r)
    (fin : ∀ (m : List Bool), m.length = n + 1 → (∀ x : Int, 0 ≤ x → (rdOf false m x = true ↔ Rch nx w S x)) → (∀ x : Int, 0 ≤ x → rdOf false m x = true → T x) → ∃ r, Pr r ∧ ∃ K, ∀ k, K ≤ k → g (k + 1) m [] = some r) :
    ∃ r, Pr r ∧ Ev (fun k => g k (List.replicate (n + 1) false) S) r := by
  have key : ∀ d m q, 3 * m.count false + q.length ≤ d → BInv n nx w S T m q → ∃ r, Pr r ∧ Ev (fun k => g k m q) r := by
    intro d
    induction d with
    | zero =>
      intro m q hd hI
      have hq : q = [] := List.eq_nil_of_length_eq_zero (by omega)
      subst hq
      have hR : ∀ x : Int, 0 ≤ x → (rdOf false m x = true ↔ Rch nx w S x) := by
        intro x hx
        refine ⟨fun h => (hI.sound x hx h).1, fun h => ?_⟩
        have hall : ∀ x, Rch nx w S x → 0 ≤ x ∧ rdOf false m x = true := by
          intro x h
          induction h with
          | start hs hw =>
            refine ⟨(hS _ hs).1, ?_⟩
            rcases hI.from_ _ hs with h | h | h
            · exact absurd h hw
            · exact h
            · cases h
          | step hx hy hw ih =>
            rename_i x y
            have hxn : x ≤ (n : Int) := by
              refine Classical.byContradiction fun hn => ?_
              have := ih.2
              unfold rdOf at this
              rw [List.getD_eq_getElem?_getD, List.getElem?_eq_none (by have := hI.len; omega)] at this
              cases this
            refine ⟨((hnx x ih.1 hxn).1 y hy).1, ?_⟩
            rcases hI.shut x ih.1 ih.2 y hy with h | h | h
            · exact absurd h hw
            · exact h
            · cases h
        exact (hall x h).2
      obtain ⟨r, hP, K, hK⟩ := fin m hI.len hR (fun x hx h => (hI.sound x hx h).2)
      refine ⟨r, hP, K + 1, fun k hk => ?_⟩
      obtain ⟨j, rfl⟩ : ∃ j, k = j + 1 := ⟨k - 1, by omega⟩
      exact hK j (by omega)
    | succ d ih =>
      intro m q hd hI
      cases q with
      | nil =>
        by_cases hd' : 3 * m.count false + ([] : List Int).length ≤ d
        · exact ih m [] hd' hI
        · have hR : ∀ x : Int, 0 ≤ x → (rdOf false m x = true ↔ Rch nx w S x) := by
            intro x hx
            refine ⟨fun h => (hI.sound x hx h).1, fun h => ?_⟩
            have hall : ∀ x, Rch nx w S x → 0 ≤ x ∧ rdOf false m x = true := by
              intro x h
              induction h with
              | start hs hw =>
                refine ⟨(hS _ hs).1, ?_⟩
                rcases hI.from_ _ hs with h | h | h
                · exact absurd h hw
                · exact h
                · cases h
              | step hx hy hw ih =>
                rename_i x y
                have hxn : x ≤ (n : Int) := by
                  refine Classical.byContradiction fun hn => ?_
                  have := ih.2
                  unfold rdOf at this
                  rw [List.getD_eq_getElem?_getD, List.getElem?_eq_none (by have := hI.len; omega)] at this
                  cases this
                refine ⟨((hnx x ih.1 hxn).1 y hy).1, ?_⟩
                rcases hI.shut x ih.1 ih.2 y hy with h | h | h
                · exact absurd h hw
                · exact h
                · cases h
            exact (hall x h).2
          obtain ⟨r, hP, K, hK⟩ := fin m hI.len hR (fun x hx h => (hI.sound x hx h).2)
          refine ⟨r, hP, K + 1, fun k hk => ?_⟩
          obtain ⟨j, rfl⟩ : ∃ j, k = j + 1 := ⟨k - 1, by omega⟩
          exact hK j (by omega)
      | cons x q =>
        have hx := hI.rng x List.mem_cons_self
        by_cases hsk : x = w ∨ rdOf false m x = true
        · obtain ⟨K, hK⟩ := skip m x q hI.len hx.1 hx.2 hsk
          have hI' : BInv n nx w S T m q := by
            refine ⟨hI.len, fun y hy => hI.rng y (List.mem_cons_of_mem _ hy), hI.sound, fun y hy => hI.todo y (List.mem_cons_of_mem _ hy), fun y hy => ?_, fun z hz hm y hy => ?_, by have := hI.small; simp at this; omega⟩
            · rcases hI.from_ y hy with h | h | h
              · exact .inl h
              · exact .inr (.inl h)
              · rcases List.mem_cons.1 h with h | h
                · subst h
                  rcases hsk with h | h
                  · exact .inl h
                  · exact .inr (.inl h)
                · exact .inr (.inr h)
            · rcases hI.shut z hz hm y hy with h | h | h
              · exact .inl h
              · exact .inr (.inl h)
              · rcases List.mem_cons.1 h with h | h
                · subst h
                  rcases hsk with h | h
                  · exact .inl h
                  · exact .inr (.inl h)
                · exact .inr (.inr h)
          obtain ⟨r, hP, K', hK'⟩ := ih m q (by simp at hd; omega) hI'
          refine ⟨r, hP, max K K' + 1, fun k hk => ?_⟩
          obtain ⟨j, rfl⟩ : ∃ j, k = j + 1 := ⟨k - 1, by omega⟩
          show g (j + 1) m (x :: q) = some r
          rw [hK j (by omega)]
          exact hK' j (by omega)
        · have hw : x ≠ w := fun h => hsk (.inl h)
          have hm : rdOf false m x = false := by
            cases h : rdOf false m x
            · rfl
            · exact absurd (.inr h) hsk
          have hR : Rch nx w S x := (hI.todo x List.mem_cons_self).resolve_left hw
          have hsm := hI.small
          rw [List.length_cons] at hsm hd
          rcases visit m x q hI.len hx.1 hx.2 hw hm (by omega) hR with ⟨hT, K, hK⟩ | ⟨r, hP, K, hK⟩
          · have hxl : x.toNat < m.length := by have := hI.len; omega
            have hc := count_set (m := m) (i := x.toNat) hxl (by unfold rdOf at hm; exact hm)
            have hn2 := (hnx x hx.1 hx.2).2
            have hI' : BInv n nx w S T (m.set x.toNat true) (q ++ nx x) := by
              refine ⟨by simpa using hI.len, fun y hy => ?_, fun y hy h => ?_, fun y hy => ?_, fun y hy => ?_, fun z hz hmz y hy => ?_, by rw [List.length_append]; omega⟩
              · rcases List.mem_append.1 hy with h | h
                · exact hI.rng y (List.mem_cons_of_mem _ h)
                · exact (hnx x hx.1 hx.2).1 y h
              · rcases (mk_set hx.1 hxl hy).1 h with h | h
                · subst h; exact ⟨hR, hT⟩
                · exact hI.sound y hy h
              · rcases List.mem_append.1 hy with h | h
                · exact hI.todo y (List.mem_cons_of_mem _ h)
                · by_cases e : y = w
                  · exact .inl e
                  · exact .inr (.step hR h e)
              · rcases hI.from_ y hy with h | h | h
                · exact .inl h
                · exact .inr (.inl ((mk_set hx.1 hxl (hS y hy).1).2 (.inr h)))
                · rcases List.mem_cons.1 h with h | h
                  · exact .inr (.inl ((mk_set hx.1 hxl (hS y hy).1).2 (.inl h)))
                  · exact .inr (.inr (List.mem_append_left _ h))
              · rcases (mk_set hx.1 hxl hz).1 hmz with h | h
                · subst h
                  exact .inr (.inr (List.mem_append_right _ hy))
                · have hzn : z ≤ (n : Int) := by
                    refine Classical.byContradiction fun hn => ?_
                    unfold rdOf at h
                    rw [List.getD_eq_getElem?_getD, List.getElem?_eq_none (by have := hI.len; omega)] at h
                    cases h
                  have hy0 := ((hnx z hz hzn).1 y hy).1
                  rcases hI.shut z hz h y hy with h | h | h
                  · exact .inl h
                  · exact .inr (.inl ((mk_set hx.1 hxl hy0).2 (.inr h)))
                  · rcases List.mem_cons.1 h with h | h
                    · exact .inr (.inl ((mk_set hx.1 hxl hy0).2 (.inl h)))
                    · exact .inr (.inr (List.mem_append_left _ h))
            obtain ⟨r, hP, K', hK'⟩ := ih _ _ (by rw [List.length_append]; omega) hI'
            refine ⟨r, hP, max K K' + 1, fun k hk => ?_⟩
            obtain ⟨j, rfl⟩ : ∃ j, k = j + 1 := ⟨k - 1, by omega⟩
            show g (j + 1) m (x :: q) = some r
            rw [hK j (by omega)]
            exact hK' j (by omega)
          · refine ⟨r, hP, K + 1, fun k hk => ?_⟩
            obtain ⟨j, rfl⟩ : ∃ j, k = j + 1 := ⟨k - 1, by omega⟩
            exact hK j (by omega)
  refine key _ _ _ (Nat.le_refl _) ⟨by simp, hS, fun x hx h => ?_, fun x hx => ?_, fun x hx => .inr (.inr hx), fun x hx h => ?_, by simp⟩
  · unfold rdOf at h
    rw [List.getD_eq_getElem?_getD, List.getElem?_replicate] at h
    split at h <;> cases h
  · by_cases e : x = w
    · exact .inl e
    · exact .inr (.start hx e)
  · unfold rdOf at h
    rw [List.getD_eq_getElem?_getD, List.getElem?_replicate] at h
    split at h <;> cases h
end
/-- Two rows of marks that tell the same are the same. -/
theorem marks_eq {a b : List Bool} {n : Nat} (ha : a.length = n + 1) (hb : b.length = n + 1) {P : Int → Prop} (h1 : ∀ x : Int, 0 ≤ x → (rdOf false a x = true ↔ P x)) (h2 : ∀ x : Int, 0 ≤ x → (rdOf false b x = true ↔ P x)) : a = b := by
  apply List.ext_getElem (by omega)
  intro i hi hj
  have e1 : rdOf false a (i : Int) = a[i] := by simp [rdOf, List.getD_eq_getElem?_getD, hi]
  have e2 : rdOf false b (i : Int) = b[i] := by simp [rdOf, List.getD_eq_getElem?_getD, hj]
  have h1' := h1 (i : Int) (by omega)
  have h2' := h2 (i : Int) (by omega)
  rw [e1] at h1'
  rw [e2] at h2'
  cases h : a[i] <;> cases h' : b[i] <;> simp_all
end Go.Proofs.Ytbkgklkiennpbaa.Aid
