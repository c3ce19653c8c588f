import Derived.OpenShut
import Derived.Laws.BitsLemmas
import Derived.Test.YtbkgklkiennpbaaWMore
import Derived.Lib.SlicesCompact
/- Plain lemmas on whole numbers and their bits that the laws' proofs use. No condition. -/
namespace Go.Proofs.Ytbkgklkiennpbaa.Aid
open Go Go.RowKit Go.Proofs.YtbkgklkiennpbaaW.PrintWords Go.Proofs.YtbkgklkiennpbaaW.PrintLast

theorem bd {n : Int} (h : (Lit.int .i64 n).wf = true) : -9223372036854775808 ≤ n ∧ n ≤ 9223372036854775807 := bounds_i64 h
theorem wrap_id {n : Int} (h : -9223372036854775808 ≤ n) (h' : n ≤ 9223372036854775807) : wrap64 n = n := by unfold wrap64; omega

/-- The remainder as the reference reckons it. -/
theorem mod_word (m : Int) : Int.tmod (wrap64 (Int.tmod m 65536 + 65536)) 65536 = m % 65536 := by
  have h4 : m.tmod 65536 = if 0 ≤ m then m % 65536 else -((-m) % 65536) := by
    split
    · exact Int.tmod_eq_emod_of_nonneg (by assumption)
    · have := Int.neg_tmod (-m) 65536
      rw [Int.neg_neg] at this
      rw [this, Int.tmod_eq_emod_of_nonneg (by omega)]
  have h5 : wrap64 (m.tmod 65536 + 65536) = m.tmod 65536 + 65536 := by
    rw [h4]; unfold wrap64; split <;> omega
  rw [h5, h4, Int.tmod_eq_emod_of_nonneg (by split <;> omega)]
  split <;> omega
theorem toNat_ofInt64 (x : Int) : ((BitVec.ofInt 64 x).toNat : Int) = x % 18446744073709551616 := by
  rw [BitVec.toNat_ofInt]
  have h : 0 ≤ x % ((2 ^ 64 : Nat) : Int) := Int.emod_nonneg _ (by decide)
  rw [Int.toNat_of_nonneg h]
  rfl

/-- The low bits of a number of whatever sign. -/
theorem and_low (i : Nat) (hi : i ≤ 62) (x : Int) : Go.bits .and .i64 x ((2 : Int) ^ i - 1) = x % (2 : Int) ^ i := by
  have hpos : 0 < 2 ^ i := Nat.two_pow_pos i
  have hle : 2 ^ i ≤ 2 ^ 62 := Nat.pow_le_pow_right (by decide) hi
  have hc : ((2 : Int) ^ i - 1) = ((2 ^ i - 1 : Nat) : Int) := by
    rw [Int.natCast_sub hpos]; simp
  have e2 : (BitVec.ofInt 64 ((2 : Int) ^ i - 1)).toNat = 2 ^ i - 1 := by
    rw [hc, BitVec.ofInt_natCast, BitVec.toNat_ofNat]
    exact Nat.mod_eq_of_lt (by omega)
  show IntKind.i64.wrap ((BitVec.ofInt 64 x &&& BitVec.ofInt 64 ((2 : Int) ^ i - 1)).toNat : Int) = _
  rw [BitVec.toNat_and, e2, Nat.and_two_pow_sub_one_eq_mod]
  have e1 := toNat_ofInt64 x
  have hm : ((2 : Int) ^ i) ∣ 18446744073709551616 := by
    refine ⟨2 ^ (64 - i), ?_⟩
    rw [← Int.pow_add, Nat.add_sub_cancel' (by omega : i ≤ 64)]
    decide
  have hcast : (((BitVec.ofInt 64 x).toNat % 2 ^ i : Nat) : Int) = x % (2 : Int) ^ i := by
    have hp2 : ((2 ^ i : Nat) : Int) = (2 : Int) ^ i := by simp
    rw [Int.natCast_emod, e1, hp2]
    exact Int.emod_emod_of_dvd x hm
  rw [hcast, IntKind.wrap_i64]
  have h0 : 0 ≤ x % (2 : Int) ^ i := Int.emod_nonneg _ (by have : (0 : Int) < 2 ^ i := Int.pow_pos (by decide); omega)
  have h1 : x % (2 : Int) ^ i < 2 ^ i := Int.emod_lt_of_pos _ (Int.pow_pos (by decide))
  have h2 : (2 : Int) ^ i ≤ 4611686018427387904 := by
    have : (2 : Int) ^ i = ((2 ^ i : Nat) : Int) := by simp
    rw [this]
    have := Int.ofNat_le.2 hle
    exact this
  omega
theorem and_65535 (x : Int) : Go.bits .and .i64 x 65535 = x % 65536 := by simpa using and_low 16 (by decide) x
theorem and_255 (x : Int) : Go.bits .and .i64 x 255 = x % 256 := by simpa using and_low 8 (by decide) x
theorem and_1 (x : Int) : Go.bits .and .i64 x 1 = x % 2 := by simpa using and_low 1 (by decide) x

theorem wraps_i64 (n : Int) (h₀ : 0 ≤ n) (h₁ : n < 2 ^ 62) : IntKind.i64.wrap n = n := by rw [IntKind.wrap_i64]; omega
/-- Two masks. -/
theorem and_nat (a b : Nat) (ha : a < 2 ^ 62) (hb : b < 2 ^ 62) : Go.bits .and .i64 (a : Int) (b : Int) = ((a &&& b : Nat) : Int) := (bits_nat .i64 62 (by decide) wraps_i64 a b ha hb).1
theorem or_nat (a b : Nat) (ha : a < 2 ^ 62) (hb : b < 2 ^ 62) : Go.bits .or .i64 (a : Int) (b : Int) = ((a ||| b : Nat) : Int) := (bits_nat .i64 62 (by decide) wraps_i64 a b ha hb).2
end Go.Proofs.Ytbkgklkiennpbaa.Aid
/- How a printed loop is followed to its end: from state to state, with enough rounds. No condition. -/
set_option linter.unusedVariables false
namespace Go.Proofs.Ytbkgklkiennpbaa.Aid
open Go Go.RowKit Go.Proofs.YtbkgklkiennpbaaW.PrintWords Go.Proofs.YtbkgklkiennpbaaW.PrintLast

theorem loop_ev {σ ρ : Type} (g : Nat → Nat → σ → Option ρ) (N : Nat) (I : Nat → σ → Prop) (P : ρ → Prop)
    (step : ∀ n s, n < N → I n s → (∃ s', I (n + 1) s' ∧ ∃ K, ∀ k, K ≤ k → g (k + 1) n s = g k (n + 1) s') ∨ (∃ r, P r ∧ ∃ K, ∀ k, K ≤ k → g (k + 1) n s = some r))
    (fin : ∀ s, I N s → ∃ r, P r ∧ ∃ K, ∀ k, K ≤ k → g (k + 1) N s = some r) : ∀ n s, n ≤ N → I n s → ∃ r, P r ∧ Ev (fun k => g k n s) r := by
  have key : ∀ d n s, N - n = d → n ≤ N → I n s → ∃ r, P r ∧ Ev (fun k => g k n s) r := by
    intro d
    induction d with
    | zero =>
      intro n s hd hn hI
      obtain rfl : n = N := by omega
      obtain ⟨r, hP, K, hK⟩ := fin s hI
      refine ⟨r, hP, K + 1, fun k hk => ?_⟩
      obtain ⟨m, rfl⟩ : ∃ m, k = m + 1 := ⟨k - 1, by omega⟩
      exact hK m (by omega)
    | succ d ih =>
      intro n s hd hn hI
      rcases step n s (by omega) hI with ⟨s', hI', K, hK⟩ | ⟨r, hP, K, hK⟩
      · obtain ⟨r, hP, K', hK'⟩ := ih (n + 1) s' (by omega) (by omega) hI'
        refine ⟨r, hP, max K K' + 1, fun k hk => ?_⟩
        obtain ⟨m, rfl⟩ : ∃ m, k = m + 1 := ⟨k - 1, by omega⟩
        show g (m + 1) n s = some r
        rw [hK m (by omega)]
        exact hK' m (by omega)
      · refine ⟨r, hP, K + 1, fun k hk => ?_⟩
        obtain ⟨m, rfl⟩ : ∃ m, k = m + 1 := ⟨k - 1, by omega⟩
        exact hK m (by omega)
  exact fun n s hn hI => key (N - n) n s rfl hn hI

/-- The same where the end is known. -/
theorem loop_to {σ ρ : Type} (g : Nat → Nat → σ → Option ρ) (N : Nat) (I : Nat → σ → Prop) (r : ρ)
    (step : ∀ n s, n < N → I n s → (∃ s', I (n + 1) s' ∧ ∃ K, ∀ k, K ≤ k → g (k + 1) n s = g k (n + 1) s') ∨ (∃ K, ∀ k, K ≤ k → g (k + 1) n s = some r))
    (fin : ∀ s, I N s → ∃ K, ∀ k, K ≤ k → g (k + 1) N s = some r) (n : Nat) (s : σ) (hn : n ≤ N) (hI : I n s) : Ev (fun k => g k n s) r := by
  obtain ⟨r', rfl, h⟩ := loop_ev g N I (fun x => x = r) (fun n s h hI => (step n s h hI).imp id fun h => ⟨r, rfl, h⟩) (fun s hI => ⟨r, rfl, fin s hI⟩) n s hn hI
  exact h
theorem toList_bytes (l : List UInt8) : (⟨l.toArray⟩ : ByteArray).toList = l := by rw [ByteArray.toList_eq]
theorem toList_data (s : ByteArray) : s.toList = s.data.toList := ByteArray.toList_eq s
theorem wrap_succ {n N : Nat} (h : n < N) (hN : N ≤ 4611686018427387904) : wrap64 ((n : Int) + 1) = ((n + 1 : Nat) : Int) := by
  rw [wrap_id (by omega) (by omega)]; omega
theorem Ev.val {α : Type} {g : Nat → Option α} {r : α} (h : Ev g r) : ∃ K, ∀ k, K ≤ k → g k = some r := h
theorem ev_some {α : Type} (r : α) : Ev (fun _ => some r) r := ⟨0, fun _ _ => rfl⟩
/-- Rows as lists: what is written at a place. -/
theorem set_upto {α : Type} {a l : List α} {n : Nat} {x : α} (ha : a.length = l.length) (hn : n < l.length) (h : ∀ j, j < n → a[j]? = l[j]?) (hx : l[n]? = some x) : (a.set n x).length = l.length ∧ ∀ j, j < n + 1 → (a.set n x)[j]? = l[j]? := by
  refine ⟨by simpa using ha, fun j hj => ?_⟩
  rw [List.getElem?_set]
  by_cases e : n = j
  · subst e
    rw [if_pos rfl, if_pos (by omega), hx]
  · rw [if_neg e]
    exact h j (by omega)
theorem all_upto {α : Type} {a l : List α} (ha : a.length = l.length) (h : ∀ j, j < l.length → a[j]? = l[j]?) : a = l := by
  apply List.ext_getElem?
  intro j
  by_cases hj : j < l.length
  · exact h j hj
  · rw [List.getElem?_eq_none (by omega), List.getElem?_eq_none (by omega)]
theorem rd_at {l : List Int} {n : Nat} (h : n < l.length) : l[n]? = some (rd l (n : Int)) := by
  simp [rd, List.getD_eq_getElem?_getD, h]
end Go.Proofs.Ytbkgklkiennpbaa.Aid
/- Ascending lists: sorting and dropping doubles gives one, and it is the only one with these members. No condition. -/
set_option linter.unusedVariables false
set_option linter.unusedSimpArgs false
namespace Go.Proofs.Ytbkgklkiennpbaa.Aid
open Go

def Asc (l : List Int) : Prop := l.Pairwise (· < ·)
theorem asc_eq : ∀ {a b : List Int}, Asc a → Asc b → (∀ x, x ∈ a ↔ x ∈ b) → a = b := by
  intro a
  induction a with
  | nil =>
    intro b _ _ h
    cases b with
    | nil => rfl
    | cons y b => exact absurd ((h y).2 (List.mem_cons_self)) (by simp)
  | cons x a ih =>
    intro b ha hb h
    cases b with
    | nil => exact absurd ((h x).1 (List.mem_cons_self)) (by simp)
    | cons y b =>
      obtain ⟨ha1, ha2⟩ := List.pairwise_cons.1 ha
      obtain ⟨hb1, hb2⟩ := List.pairwise_cons.1 hb
      have hxy : x = y := by
        have h1 := (h x).1 List.mem_cons_self
        have h2 := (h y).2 List.mem_cons_self
        rcases List.mem_cons.1 h1 with e | e
        · exact e
        · rcases List.mem_cons.1 h2 with e2 | e2
          · exact e2.symm
          · have := hb1 x e; have := ha1 y e2; omega
      subst hxy
      congr 1
      refine ih ha2 hb2 fun z => ⟨fun hz => ?_, fun hz => ?_⟩
      · rcases List.mem_cons.1 ((h z).1 (List.mem_cons_of_mem _ hz)) with e | e
        · subst e; exact absurd (ha1 z hz) (by omega)
        · exact e
      · rcases List.mem_cons.1 ((h z).2 (List.mem_cons_of_mem _ hz)) with e | e
        · subst e; exact absurd (hb1 z hz) (by omega)
        · exact e

theorem upTo_spec (d : Array Int) (hs : ∀ i j, i ≤ j → j < d.size → d[i]! ≤ d[j]!) : ∀ m, m ≤ d.size → Asc (Lib.compactUpTo d m) ∧ (∀ x, x ∈ Lib.compactUpTo d m ↔ ∃ j, j < m ∧ d[j]! = x) := by
  intro m
  induction m with
  | zero => intro _; exact ⟨List.Pairwise.nil, fun x => by simp [Lib.compactUpTo]⟩
  | succ m ih =>
    intro hm
    obtain ⟨h1, h2⟩ := ih (by omega)
    rw [Lib.compactUpTo_succ]
    by_cases hk : Lib.keeps d m = true
    · rw [if_pos hk]
      have hlt : ∀ x ∈ Lib.compactUpTo d m, x < d[m]! := by
        intro x hx
        obtain ⟨j, hj, rfl⟩ := (h2 x).1 hx
        have hne : m = 0 ∨ d[m]! ≠ d[m - 1]! := by simpa [Lib.keeps] using hk
        rcases hne with h | h
        · omega
        · have a1 := hs j (m - 1) (by omega) (by omega)
          have a2 := hs (m - 1) m (by omega) (by omega)
          omega
      refine ⟨List.pairwise_append.2 ⟨h1, by simp, fun a ha b hb => ?_⟩, fun x => ?_⟩
      · rw [List.mem_singleton.1 hb]; exact hlt a ha
      · rw [List.mem_append, h2, List.mem_singleton]
        constructor
        · rintro (⟨j, hj, e⟩ | e)
          · exact ⟨j, by omega, e⟩
          · exact ⟨m, by omega, e.symm⟩
        · rintro ⟨j, hj, e⟩
          by_cases e2 : j = m
          · subst e2; exact Or.inr e.symm
          · exact Or.inl ⟨j, by omega, e⟩
    · rw [if_neg hk, List.append_nil]
      have hkf : ¬ (m = 0 ∨ d[m]! ≠ d[m - 1]!) := by simpa [Lib.keeps] using hk
      have h0 : m ≠ 0 := fun h => hkf (.inl h)
      have he : d[m]! = d[m - 1]! := Classical.byContradiction fun h => hkf (.inr h)
      refine ⟨h1, fun x => ?_⟩
      rw [h2]
      constructor
      · rintro ⟨j, hj, e⟩; exact ⟨j, by omega, e⟩
      · rintro ⟨j, hj, e⟩
        by_cases e2 : j = m
        · subst e2; exact ⟨j - 1, by omega, by rw [← he]; exact e⟩
        · exact ⟨j, by omega, e⟩
theorem compact_sorted {l : List Int} (hs : l.Pairwise (· ≤ ·)) : Asc (Lib.compact l) ∧ ∀ x, x ∈ Lib.compact l ↔ x ∈ l := by
  have hle : ∀ i j, i ≤ j → j < l.toArray.size → l.toArray[i]! ≤ l.toArray[j]! := by
    intro i j hij hj
    simp at hj
    have hi : i < l.length := by omega
    by_cases e : i = j
    · subst e; exact Int.le_refl _
    · have := List.pairwise_iff_getElem.1 hs i j hi hj (by omega)
      simpa [hi, hj] using this
  obtain ⟨h1, h2⟩ := upTo_spec l.toArray hle l.length (by simp)
  refine ⟨h1, fun x => ?_⟩
  show x ∈ Lib.compactUpTo l.toArray l.length ↔ _
  rw [h2]
  constructor
  · rintro ⟨j, hj, rfl⟩
    simp [hj]
  · intro hx
    obtain ⟨j, hj, rfl⟩ := List.mem_iff_getElem.1 hx
    exact ⟨j, hj, by simp [hj]⟩
/-- Sorted, each once. -/
def srt (l : List Int) : List Int := Lib.compact (l.mergeSort fun x y => decide (x ≤ y))
theorem srt_spec (l : List Int) : Asc (srt l) ∧ ∀ x, x ∈ srt l ↔ x ∈ l := by
  have hp : (l.mergeSort fun x y => decide (x ≤ y)).Pairwise (· ≤ ·) := by
    have := List.pairwise_mergeSort (le := fun x y : Int => decide (x ≤ y)) (by intro a b c; simp; omega) (by intro a b; simp; omega) l
    exact this.imp (by intro a b h; simpa using h)
  obtain ⟨h1, h2⟩ := compact_sorted hp
  exact ⟨h1, fun x => by unfold srt; rw [h2]; exact (List.mergeSort_perm _ _).mem_iff⟩
theorem srt_eq {l r : List Int} (hr : Asc r) (h : ∀ x, x ∈ r ↔ x ∈ l) : srt l = r := asc_eq (srt_spec l).1 hr fun x => by rw [(srt_spec l).2, h]
theorem asc_len_le {a : List Int} : ∀ {l : List Int}, Asc a → (∀ x, x ∈ a → x ∈ l) → a.length ≤ l.length := by
  induction a with
  | nil => intro l _ _; simp
  | cons x a ih =>
    intro l ha h
    obtain ⟨h1, h2⟩ := List.pairwise_cons.1 ha
    have hx := h x List.mem_cons_self
    have hl := ih (l := l.erase x) h2 (fun y hy => by
      have hne : y ≠ x := by have := h1 y hy; omega
      exact (List.mem_erase_of_ne hne).2 (h y (List.mem_cons_of_mem _ hy)))
    rw [List.length_erase_of_mem hx] at hl
    have : 0 < l.length := List.length_pos_of_mem hx
    rw [List.length_cons]
    omega
theorem srt_len (l : List Int) : (srt l).length ≤ l.length := asc_len_le (srt_spec l).1 fun x hx => ((srt_spec l).2 x).1 hx
end Go.Proofs.Ytbkgklkiennpbaa.Aid
/- A walk over a graph of the nodes 0 to n with a queue and marks: what is marked at its end is what is reached without passing w. No condition. -/
set_option linter.unusedVariables false
set_option linter.unusedSimpArgs false
namespace Go.Proofs.Ytbkgklkiennpbaa.Aid
open Go Go.RowKit Go.Proofs.YtbkgklkiennpbaaW.PrintWords Go.Proofs.YtbkgklkiennpbaaW.PrintLast

/-- What is reached from S without passing w. -/
inductive Rch (nx : Int → List Int) (w : Int) (S : List Int) : Int → Prop
  | start {x : Int} : x ∈ S → x ≠ w → Rch nx w S x
  | step {x y : Int} : Rch nx w S x → y ∈ nx x → y ≠ w → Rch nx w S y

theorem mk_set {m : List Bool} {x y : Int} (hx : 0 ≤ x) (hxl : x.toNat < m.length) (hy : 0 ≤ y) : rdOf false (m.set x.toNat true) y = true ↔ y = x ∨ rdOf false m y = true := by
  unfold rdOf
  rw [List.getD_eq_getElem?_getD, List.getD_eq_getElem?_getD, List.getElem?_set]
  by_cases e : x.toNat = y.toNat
  · have : y = x := by omega
    rw [if_pos e, if_pos hxl]
    simp [this]
  · rw [if_neg e]
    have : y ≠ x := by omega
    simp [this]
theorem count_set : ∀ {m : List Bool} {i : Nat}, i < m.length → m.getD i false = false → (m.set i true).count false + 1 = m.count false := by
  intro m
  induction m with
  | nil => intro i hi; cases hi
  | cons b m ih =>
    intro i hi hb
    cases i with
    | zero =>
      simp at hb
      subst hb
      simp
    | succ i =>
      have := ih (i := i) (by simpa using hi) (by simpa using hb)
      rw [List.set_cons_succ, List.count_cons, List.count_cons]
      omega

section
variable {ρ : Type} (g : Nat → List Bool → List Int → Option ρ) (n : Nat) (nx : Int → List Int) (w : Int) (S : List Int) (T : Int → Prop) (Pr : ρ → Prop)
structure BInv (m : List Bool) (q : List Int) : Prop where
  len : m.length = n + 1
  rng : ∀ x ∈ q, 0 ≤ x ∧ x ≤ (n : Int)
  sound : ∀ x, 0 ≤ x → rdOf false m x = true → Rch nx w S x ∧ T x
  todo : ∀ x ∈ q, x = w ∨ Rch nx w S x
  from_ : ∀ x ∈ S, x = w ∨ rdOf false m x = true ∨ x ∈ q
  shut : ∀ x, 0 ≤ x → rdOf false m x = true → ∀ y ∈ nx x, y = w ∨ rdOf false m y = true ∨ y ∈ q
  small : 3 * m.count false + q.length ≤ 3 * (n + 1) + S.length
theorem bfs_ev (hS : ∀ x ∈ S, 0 ≤ x ∧ x ≤ (n : Int)) (hnx : ∀ x : Int, 0 ≤ x → x ≤ (n : Int) → (∀ y ∈ nx x, 0 ≤ y ∧ y ≤ (n : Int)) ∧ (nx x).length ≤ 2)
    (skip : ∀ (m : List Bool) (x : Int) (q : List Int), m.length = n + 1 → 0 ≤ x → x ≤ (n : Int) → (x = w ∨ rdOf false m x = true) → ∃ K, ∀ k, K ≤ k → g (k + 1) m (x :: q) = g k m q)
    (visit : ∀ (m : List Bool) (x : Int) (q : List Int), m.length = n + 1 → 0 ≤ x → x ≤ (n : Int) → x ≠ w → rdOf false m x = false → q.length ≤ 3 * (n + 1) + S.length → Rch nx w S x →
      (T x ∧ ∃ K, ∀ k, K ≤ k → g (k + 1) m (x :: q) = g k (m.set x.toNat true) (q ++ nx x)) ∨ ∃ r, Pr r ∧ ∃ K, ∀ k, K ≤ k → g (k + 1) m (x :: q) = some r)
    (fin : ∀ (m : List Bool), m.length = n + 1 → (∀ x : Int, 0 ≤ x → (rdOf false m x = true ↔ Rch nx w S x)) → (∀ x : Int, 0 ≤ x → rdOf false m x = true → T x) → ∃ r, Pr r ∧ ∃ K, ∀ k, K ≤ k → g (k + 1) m [] = some r) :
    ∃ r, Pr r ∧ Ev (fun k => g k (List.replicate (n + 1) false) S) r := by
  have key : ∀ d m q, 3 * m.count false + q.length ≤ d → BInv n nx w S T m q → ∃ r, Pr r ∧ Ev (fun k => g k m q) r := by
    intro d
    induction d with
    | zero =>
      intro m q hd hI
      have hq : q = [] := List.eq_nil_of_length_eq_zero (by omega)
      subst hq
      have hR : ∀ x : Int, 0 ≤ x → (rdOf false m x = true ↔ Rch nx w S x) := by
        intro x hx
        refine ⟨fun h => (hI.sound x hx h).1, fun h => ?_⟩
        have hall : ∀ x, Rch nx w S x → 0 ≤ x ∧ rdOf false m x = true := by
          intro x h
          induction h with
          | start hs hw =>
            refine ⟨(hS _ hs).1, ?_⟩
            rcases hI.from_ _ hs with h | h | h
            · exact absurd h hw
            · exact h
            · cases h
          | step hx hy hw ih =>
            rename_i x y
            have hxn : x ≤ (n : Int) := by
              refine Classical.byContradiction fun hn => ?_
              have := ih.2
              unfold rdOf at this
              rw [List.getD_eq_getElem?_getD, List.getElem?_eq_none (by have := hI.len; omega)] at this
              cases this
            refine ⟨((hnx x ih.1 hxn).1 y hy).1, ?_⟩
            rcases hI.shut x ih.1 ih.2 y hy with h | h | h
            · exact absurd h hw
            · exact h
            · cases h
        exact (hall x h).2
      obtain ⟨r, hP, K, hK⟩ := fin m hI.len hR (fun x hx h => (hI.sound x hx h).2)
      refine ⟨r, hP, K + 1, fun k hk => ?_⟩
      obtain ⟨j, rfl⟩ : ∃ j, k = j + 1 := ⟨k - 1, by omega⟩
      exact hK j (by omega)
    | succ d ih =>
      intro m q hd hI
      cases q with
      | nil =>
        by_cases hd' : 3 * m.count false + ([] : List Int).length ≤ d
        · exact ih m [] hd' hI
        · have hR : ∀ x : Int, 0 ≤ x → (rdOf false m x = true ↔ Rch nx w S x) := by
            intro x hx
            refine ⟨fun h => (hI.sound x hx h).1, fun h => ?_⟩
            have hall : ∀ x, Rch nx w S x → 0 ≤ x ∧ rdOf false m x = true := by
              intro x h
              induction h with
              | start hs hw =>
                refine ⟨(hS _ hs).1, ?_⟩
                rcases hI.from_ _ hs with h | h | h
                · exact absurd h hw
                · exact h
                · cases h
              | step hx hy hw ih =>
                rename_i x y
                have hxn : x ≤ (n : Int) := by
                  refine Classical.byContradiction fun hn => ?_
                  have := ih.2
                  unfold rdOf at this
                  rw [List.getD_eq_getElem?_getD, List.getElem?_eq_none (by have := hI.len; omega)] at this
                  cases this
                refine ⟨((hnx x ih.1 hxn).1 y hy).1, ?_⟩
                rcases hI.shut x ih.1 ih.2 y hy with h | h | h
                · exact absurd h hw
                · exact h
                · cases h
            exact (hall x h).2
          obtain ⟨r, hP, K, hK⟩ := fin m hI.len hR (fun x hx h => (hI.sound x hx h).2)
          refine ⟨r, hP, K + 1, fun k hk => ?_⟩
          obtain ⟨j, rfl⟩ : ∃ j, k = j + 1 := ⟨k - 1, by omega⟩
          exact hK j (by omega)
      | cons x q =>
        have hx := hI.rng x List.mem_cons_self
        by_cases hsk : x = w ∨ rdOf false m x = true
        · obtain ⟨K, hK⟩ := skip m x q hI.len hx.1 hx.2 hsk
          have hI' : BInv n nx w S T m q := by
            refine ⟨hI.len, fun y hy => hI.rng y (List.mem_cons_of_mem _ hy), hI.sound, fun y hy => hI.todo y (List.mem_cons_of_mem _ hy), fun y hy => ?_, fun z hz hm y hy => ?_, by have := hI.small; simp at this; omega⟩
            · rcases hI.from_ y hy with h | h | h
              · exact .inl h
              · exact .inr (.inl h)
              · rcases List.mem_cons.1 h with h | h
                · subst h
                  rcases hsk with h | h
                  · exact .inl h
                  · exact .inr (.inl h)
                · exact .inr (.inr h)
            · rcases hI.shut z hz hm y hy with h | h | h
              · exact .inl h
              · exact .inr (.inl h)
              · rcases List.mem_cons.1 h with h | h
                · subst h
                  rcases hsk with h | h
                  · exact .inl h
                  · exact .inr (.inl h)
                · exact .inr (.inr h)
          obtain ⟨r, hP, K', hK'⟩ := ih m q (by simp at hd; omega) hI'
          refine ⟨r, hP, max K K' + 1, fun k hk => ?_⟩
          obtain ⟨j, rfl⟩ : ∃ j, k = j + 1 := ⟨k - 1, by omega⟩
          show g (j + 1) m (x :: q) = some r
          rw [hK j (by omega)]
          exact hK' j (by omega)
        · have hw : x ≠ w := fun h => hsk (.inl h)
          have hm : rdOf false m x = false := by
            cases h : rdOf false m x
            · rfl
            · exact absurd (.inr h) hsk
          have hR : Rch nx w S x := (hI.todo x List.mem_cons_self).resolve_left hw
          have hsm := hI.small
          rw [List.length_cons] at hsm hd
          rcases visit m x q hI.len hx.1 hx.2 hw hm (by omega) hR with ⟨hT, K, hK⟩ | ⟨r, hP, K, hK⟩
          · have hxl : x.toNat < m.length := by have := hI.len; omega
            have hc := count_set (m := m) (i := x.toNat) hxl (by unfold rdOf at hm; exact hm)
            have hn2 := (hnx x hx.1 hx.2).2
            have hI' : BInv n nx w S T (m.set x.toNat true) (q ++ nx x) := by
              refine ⟨by simpa using hI.len, fun y hy => ?_, fun y hy h => ?_, fun y hy => ?_, fun y hy => ?_, fun z hz hmz y hy => ?_, by rw [List.length_append]; omega⟩
              · rcases List.mem_append.1 hy with h | h
                · exact hI.rng y (List.mem_cons_of_mem _ h)
                · exact (hnx x hx.1 hx.2).1 y h
              · rcases (mk_set hx.1 hxl hy).1 h with h | h
                · subst h; exact ⟨hR, hT⟩
                · exact hI.sound y hy h
              · rcases List.mem_append.1 hy with h | h
                · exact hI.todo y (List.mem_cons_of_mem _ h)
                · by_cases e : y = w
                  · exact .inl e
                  · exact .inr (.step hR h e)
              · rcases hI.from_ y hy with h | h | h
                · exact .inl h
                · exact .inr (.inl ((mk_set hx.1 hxl (hS y hy).1).2 (.inr h)))
                · rcases List.mem_cons.1 h with h | h
                  · exact .inr (.inl ((mk_set hx.1 hxl (hS y hy).1).2 (.inl h)))
                  · exact .inr (.inr (List.mem_append_left _ h))
              · rcases (mk_set hx.1 hxl hz).1 hmz with h | h
                · subst h
                  exact .inr (.inr (List.mem_append_right _ hy))
                · have hzn : z ≤ (n : Int) := by
                    refine Classical.byContradiction fun hn => ?_
                    unfold rdOf at h
                    rw [List.getD_eq_getElem?_getD, List.getElem?_eq_none (by have := hI.len; omega)] at h
                    cases h
                  have hy0 := ((hnx z hz hzn).1 y hy).1
                  rcases hI.shut z hz h y hy with h | h | h
                  · exact .inl h
                  · exact .inr (.inl ((mk_set hx.1 hxl hy0).2 (.inr h)))
                  · rcases List.mem_cons.1 h with h | h
                    · exact .inr (.inl ((mk_set hx.1 hxl hy0).2 (.inl h)))
                    · exact .inr (.inr (List.mem_append_left _ h))
            obtain ⟨r, hP, K', hK'⟩ := ih _ _ (by rw [List.length_append]; omega) hI'
            refine ⟨r, hP, max K K' + 1, fun k hk => ?_⟩
            obtain ⟨j, rfl⟩ : ∃ j, k = j + 1 := ⟨k - 1, by omega⟩
            show g (j + 1) m (x :: q) = some r
            rw [hK j (by omega)]
            exact hK' j (by omega)
          · refine ⟨r, hP, K + 1, fun k hk => ?_⟩
            obtain ⟨j, rfl⟩ : ∃ j, k = j + 1 := ⟨k - 1, by omega⟩
            exact hK j (by omega)
  refine key _ _ _ (Nat.le_refl _) ⟨by simp, hS, fun x hx h => ?_, fun x hx => ?_, fun x hx => .inr (.inr hx), fun x hx h => ?_, by simp⟩
  · unfold rdOf at h
    rw [List.getD_eq_getElem?_getD, List.getElem?_replicate] at h
    split at h <;> cases h
  · by_cases e : x = w
    · exact .inl e
    · exact .inr (.start hx e)
  · unfold rdOf at h
    rw [List.getD_eq_getElem?_getD, List.getElem?_replicate] at h
    split at h <;> cases h
end
/-- Two rows of marks that tell the same are the same. -/
theorem marks_eq {a b : List Bool} {n : Nat} (ha : a.length = n + 1) (hb : b.length = n + 1) {P : Int → Prop} (h1 : ∀ x : Int, 0 ≤ x → (rdOf false a x = true ↔ P x)) (h2 : ∀ x : Int, 0 ≤ x → (rdOf false b x = true ↔ P x)) : a = b := by
  apply List.ext_getElem (by omega)
  intro i hi hj
  have e1 : rdOf false a (i : Int) = a[i] := by simp [rdOf, List.getD_eq_getElem?_getD, hi]
  have e2 : rdOf false b (i : Int) = b[i] := by simp [rdOf, List.getD_eq_getElem?_getD, hj]
  have h1' := h1 (i : Int) (by omega)
  have h2' := h2 (i : Int) (by omega)
  rw [e1] at h1'
  rw [e2] at h2'
  cases h : a[i] <;> cases h' : b[i] <;> simp_all
end Go.Proofs.Ytbkgklkiennpbaa.Aid
/- What is reached, as a row of marks, and the marked places as a row. No condition. -/
set_option linter.unusedVariables false
set_option linter.unusedSimpArgs false
namespace Go.Proofs.Ytbkgklkiennpbaa.Aid
open Go Go.RowKit Go.Proofs.YtbkgklkiennpbaaW.PrintWords Go.Proofs.YtbkgklkiennpbaaW.PrintLast

theorem rch_rng {nx : Int → List Int} {w : Int} {S : List Int} {n : Nat} (hS : ∀ x ∈ S, 0 ≤ x ∧ x ≤ (n : Int)) (hnx : ∀ x : Int, 0 ≤ x → x ≤ (n : Int) → (∀ y ∈ nx x, 0 ≤ y ∧ y ≤ (n : Int)) ∧ (nx x).length ≤ 2) {x : Int} (h : Rch nx w S x) : 0 ≤ x ∧ x ≤ (n : Int) := by
  induction h with
  | start hs hw => exact hS _ hs
  | step hx hy hw ih => exact (hnx _ ih.1 ih.2).1 _ hy
open Classical in
noncomputable def rset (nx : Int → List Int) (w : Int) (S : List Int) (n : Nat) : List Bool := (List.range (n + 1)).map fun i : Nat => decide (Rch nx w S (i : Int))
theorem rset_len (nx : Int → List Int) (w : Int) (S : List Int) (n : Nat) : (rset nx w S n).length = n + 1 := by simp [rset]
theorem rset_at {nx : Int → List Int} {w : Int} {S : List Int} {n : Nat} {x : Int} (h0 : 0 ≤ x) (h1 : x ≤ (n : Int)) : rdOf false (rset nx w S n) x = true ↔ Rch nx w S x := by
  unfold rdOf rset
  have hx : x.toNat < n + 1 := by omega
  have e : ((x.toNat : Nat) : Int) = x := by omega
  rw [List.getD_eq_getElem?_getD, List.getElem?_map, List.getElem?_range hx]
  simp [e]
theorem rset_of {nx : Int → List Int} {w : Int} {S : List Int} {n : Nat} (hS : ∀ x ∈ S, 0 ≤ x ∧ x ≤ (n : Int)) (hnx : ∀ x : Int, 0 ≤ x → x ≤ (n : Int) → (∀ y ∈ nx x, 0 ≤ y ∧ y ≤ (n : Int)) ∧ (nx x).length ≤ 2) {m : List Bool} (hm : m.length = n + 1)
    (h : ∀ x : Int, 0 ≤ x → (rdOf false m x = true ↔ Rch nx w S x)) : m = rset nx w S n := by
  refine marks_eq hm (rset_len _ _ _ _) h fun x hx => ?_
  by_cases h1 : x ≤ (n : Int)
  · exact rset_at hx h1
  · constructor
    · intro h2
      unfold rdOf at h2
      rw [List.getD_eq_getElem?_getD, List.getElem?_eq_none (by rw [rset_len]; omega)] at h2
      cases h2
    · intro h2
      exact absurd (rch_rng hS hnx h2).2 h1
/-- The places that are marked, up to n. -/
def idxTo (m : List Bool) (n : Nat) : List Int := ((List.range n).filter fun i : Nat => rdOf false m (i : Int)).map fun j : Nat => (j : Int)
theorem idxTo_succ (m : List Bool) (n : Nat) : idxTo m (n + 1) = idxTo m n ++ (if rdOf false m (n : Int) = true then [(n : Int)] else []) := by
  unfold idxTo
  rw [List.range_succ, List.filter_append, List.map_append]
  congr 1
  by_cases h : rdOf false m (n : Int) = true
  · rw [if_pos h]; simp [h]
  · rw [if_neg h]; simp [h]
theorem idxTo_len (m : List Bool) (n : Nat) : (idxTo m n).length ≤ n := by
  unfold idxTo
  rw [List.length_map]
  exact Nat.le_trans (List.length_filter_le _ _) (by simp)
theorem idxTo_mem {m : List Bool} {n : Nat} {x : Int} : x ∈ idxTo m n ↔ 0 ≤ x ∧ x < (n : Int) ∧ rdOf false m x = true := by
  unfold idxTo
  rw [List.mem_map]
  constructor
  · rintro ⟨j, hj, rfl⟩
    obtain ⟨h1, h2⟩ := List.mem_filter.1 hj
    have := List.mem_range.1 h1
    exact ⟨by omega, by omega, h2⟩
  · rintro ⟨h0, h1, h2⟩
    have e : ((x.toNat : Nat) : Int) = x := by omega
    exact ⟨x.toNat, List.mem_filter.2 ⟨List.mem_range.2 (by omega), by rw [e]; exact h2⟩, e⟩
end Go.Proofs.Ytbkgklkiennpbaa.Aid
