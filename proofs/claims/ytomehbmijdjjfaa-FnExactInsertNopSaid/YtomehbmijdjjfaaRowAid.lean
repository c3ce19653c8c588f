/- How arguments are opened for the rows of this seat: structs of four ints, slices of such, of strings, of whole numbers. No condition. -/
import Derived.ProofKit
import Derived.OpenShut
import Derived.Deep.Slices
import Derived.Lib.SmallJoins
import Derived.SizedLaws
import Derived.Test.YtomehbmijdjjfaaWMore
set_option linter.unusedVariables false
namespace Go.Proofs.Ytomehbmijdjjfaa.RowAid
open Go Go.ChangeShapes Go.WideShapes Go.ChangeAt Go.RowKit Go.Joins Go.Deep Go.Proofs.YtomehbmijdjjfaaW.PrintWords

section
variable {H : Type} {enc : TypeId × Value → H} {P : Program} {w : World} {base : Nat} {spare : Nat → Bool} {held : Bool}

/-- A slice as a list of what its elements are. -/
theorem open_kd {α : Type} (d : Kd α) (Q : α → Prop) {t e : TypeId} (ht : P.underlying t = some (.slice e)) (hs : P.cellsOf e = d.sz)
    (hd : ∀ (n : Nat) (cs : List Value) (y : DataW H × List MemPlace), cs.length = d.sz → DataW.trod enc P w base spare held n e cs = some y → ∃ p : α, d.K w p cs ∧ Q p)
    {a : Option Addr} {len cap : Nat} {dat : DataW H} {pl : List MemPlace} (h : DataW.Trod enc P w base spare held t (.slice a len cap) dat pl) :
    ∃ l : List α, len = l.length ∧ l.length ≤ cap ∧ d.C w a l.length l ∧ ∀ p ∈ l, Q p := by
  obtain ⟨fuel, hf⟩ := h
  rcases open_slice ht hf with ⟨hcs, _⟩ | ⟨ad, len', cap', m, n, D, Pl, hcs, _, hl, hm, hmm, _, hx⟩
  · simp [Value.cells] at hcs
    obtain ⟨rfl, rfl, rfl⟩ := hcs
    exact ⟨[], rfl, Nat.zero_le _, ⟨rfl, by simp, fun h => absurd h (Nat.lt_irrefl 0)⟩, by simp⟩
  · simp [Value.cells] at hcs
    obtain ⟨rfl, rfl, rfl⟩ := hcs
    have hlm : len ≤ m := by rw [hmm]; split <;> omega
    have each : ∀ i : Fin len, ∃ q : α × List Value, w.cells? base (ad.add (i.val * P.cellsOf e)) (P.cellsOf e) = some q.2 ∧ d.K w q.1 q.2 ∧ Q q.1 := by
      intro i
      obtain ⟨cs', h1, h2⟩ := hx i.val (by have := i.isLt; omega)
      obtain ⟨_, hlen, _⟩ := World.cells?_some h1
      obtain ⟨p, hp, hq⟩ := hd n cs' _ (by rw [hlen, hs]) h2
      exact ⟨(p, cs'), h1, hp, hq⟩
    let f : Fin len → α × List Value := fun i => Classical.choose (each i)
    have hf' : ∀ i, w.cells? base (ad.add (i.val * P.cellsOf e)) (P.cellsOf e) = some (f i).2 ∧ d.K w (f i).1 (f i).2 ∧ Q (f i).1 := fun i => Classical.choose_spec (each i)
    refine ⟨List.ofFn fun i => (f i).1, by simp, by simpa using hl, ⟨rfl, by simp; unfold maxLen at hm; omega, fun _ => ⟨ad, rfl, fun j p hj => ?_⟩⟩, fun p hp => ?_⟩
    · obtain ⟨hj1, hj2⟩ := List.getElem?_eq_some_iff.1 hj
      simp at hj1 hj2
      obtain ⟨h1, h2, h3⟩ := hf' ⟨j, hj1⟩
      obtain ⟨_, hlen, hcell⟩ := World.cells?_some h1
      refine ⟨(f ⟨j, hj1⟩).2, by rw [hlen, hs], by rw [← hj2]; exact h2, fun i u hu => ?_⟩
      have hi : i < P.cellsOf e := by
        have := (List.getElem?_eq_some_iff.1 hu).1
        omega
      have h4 := hcell i hi
      rw [Go.Addr.add_add] at h4
      rw [← hs]
      exact h4.trans hu
    · obtain ⟨i, hi⟩ := List.mem_ofFn.1 hp
      rw [← hi]
      exact (hf' i).2.2

theorem lit_int {k : IntKind} {t : TypeId} (ht : P.underlying t = some (.int k)) {a : Int} (ha : (Lit.int k a).wf = true) : ∃ n, DataW.trod enc P w base spare held n t [.int k a] = some (.lit (.int k a), []) := ⟨1, by simp [DataW.trod, ht, ha]⟩
/-- The bytes of a slice that came in. -/
theorem sized_any {ts : List TypeId} {ds : List (DataW H)} (h : (DataW.weightsEach P ts ds).all (· ≤ reachBytes) = true) {j : Nat} {t e : TypeId} (hts : ts[j]? = some t) (hu : P.underlying t = some (.slice e))
    {a : Option Addr} {len cap : Nat} {dat : DataW H} {pl : List MemPlace} (hds : ds[j]? = some dat) (h0 : DataW.Trod enc P w base spare held t (.slice a len cap) dat pl) : len * P.bytesOf e ≤ 140737488351232 := by
  obtain ⟨fuel, hf⟩ := h0
  rcases open_slice hu hf with ⟨hcs, _⟩ | ⟨ad, len', cap', m, n, D, Pl, hcs, _, hl, hm, hmm, hx, _⟩
  · simp [Value.cells] at hcs
    obtain ⟨rfl, rfl, rfl⟩ := hcs
    omega
  · simp [Value.cells] at hcs
    obtain ⟨rfl, rfl, rfl⟩ := hcs
    simp only [Prod.mk.injEq] at hx
    have := sized_slice h hts (hds.trans (congrArg some hx.1)) hu
    simp at this
    have h2 : len * P.bytesOf e ≤ (len + (m - len)) * P.bytesOf e := Nat.mul_le_mul_right _ (by omega)
    unfold reachBytes at this
    omega
end
end Go.Proofs.Ytomehbmijdjjfaa.RowAid
