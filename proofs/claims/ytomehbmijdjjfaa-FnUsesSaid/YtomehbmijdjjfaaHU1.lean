-- by hprint.py (wip/tools) over the kit's print.py: this session's text; Lean checks it
import Derived.Test.YtomehbmijdjjfaaHU0
namespace Go.Proofs.Ytomehbmijdjjfaa.HU
open Go.RowKit Go.Proofs.YtomehbmijdjjfaaW.PrintWords Go.Proofs.YtomehbmijdjjfaaW.PrintLast Go.Proofs.YtomehbmijdjjfaaW.PrintMore
attribute [local go_sem] max2_int min2_int max_two min_two max_three min_three max_four min_four   -- for this text's walks alone
set_option linter.unusedVariables false
set_option linter.unusedSimpArgs false

/-! ### laws_big: function 10 -/
def laws_big.f (l0 : List Int) : Option (Bool) := some (decide ((l0.length : Int) > 1048576))
set_option maxHeartbeats 8000000 in
set_option maxRecDepth 100000 in
theorem laws_big.calls (A0 : Option Addr) (c0 : Nat) (l0 : List Int) (r : Bool) (w : World) (hr0 : Kd.C (Kd.int .u8) w A0 l0.length l0) (hc0 : l0.length ≤ c0) (h : laws_big.f l0 = some r) :
    Calls Try.prog 10 #[.slice A0 l0.length c0] w fun e w' => e = .returned (.bool r) ∧ Drawn0 w w' := by
  have HR0 := Aside0.mk hr0
  have HC0 := Aside0.mk hc0
  clear hr0 hc0
  have H : (some (decide ((l0.length : Int) > 1048576))) = some r := h
  clear h
  obtain rfl := Option.some.inj H
  go_enter Try.func10, Try.ntmps10
  go_wp2
  go_ret
  exact ⟨by first | rfl | (simp; done) | (simp [*]; done), by repeat (first | exact Drawn0.refl _ | apply Drawn0.step)⟩

/-! ### slices_Sort_int_int: function 71 -/
def slices_Sort_int_int.f (l0 : List Int) : Option (List Int) := if l0.length < 4611686018427387904 then some (l0.mergeSort fun x y => decide (x ≤ y)) else none
theorem slices_Sort_int_int.calls (P0_ : Nat → Prop) (u9000_ : Value) (l0 : List Int) (r : List Int) (w0 w : World) (hB : Below w0.heap.size w0 w) (ho0 : Kd.R (Kd.int .i64) 3 w w0.heap.size P0_ u9000_ l0) (h : slices_Sort_int_int.f l0 = some r) :
    Calls Try.prog 71 #[u9000_] w fun e w' => e = .returned (.tuple #[]) ∧ Kd.R (Kd.int .i64) 3 w' w0.heap.size (fun k_ => (P0_ k_ ∨ w.heap.size ≤ k_)) u9000_ r ∧ Below w0.heap.size w0 w' ∧ Kept w w' (fun k_ => P0_ k_) := by
  unfold slices_Sort_int_int.f at h
  by_cases hlt : l0.length < 4611686018427387904
  · rw [if_pos hlt] at h
    obtain rfl := Option.some.inj h
    have hown := Kd.own_of_R (enc := Value.int .i64) (h1 := fun _ => rfl) ho0
    rcases hown.2 with ⟨rfl, h0⟩ | ⟨g, cap, cur, rfl, hbase, hb, h1, h2, h3, h4⟩
    · have hl0 : l0 = [] := List.eq_nil_of_length_eq_zero h0
      subst hl0
      refine (Try.slices_Sort_int_none _ _ w).mono ?_
      rintro e w' ⟨rfl, rfl⟩
      exact ⟨rfl, by rw [show ([] : List Int).mergeSort (fun x y => decide (x ≤ y)) = [] from by simp]; exact Kd.R_mono ho0 (fun _ hk => .inl hk), hB, Kept.refl _ _⟩
    · have hH : Go.Sort.Holds (Value.int .i64) w g 0 l0.toArray := holds_of_blockI hb (by simpa [encs] using h4)
      refine (Try.slices_Sort_int g 0 cap l0 w hH (Array.getElem?_eq_some_iff.1 hb).1 hlt).mono ?_
      rintro e w' ⟨rfl, n, os, rfl⟩
      have hg := grownBy_sortedI (w := w) (g := g) (n := n) (os := os) (l0.mergeSort fun x y => decide (x ≤ y)).toArray
      have ho := ownsRow_sortedI (w := w) (n := n) (os := os) (ss := l0) (ts := l0.mergeSort fun x y => decide (x ≤ y)) (by simp) hbase hb h1 h2 (by simpa using h3)
      refine ⟨rfl, Kd.R_of_own (enc := Value.int .i64) (h1 := fun _ => rfl) (by simpa [encs] using ho) (fun k hk => .inl (ho0.1 k hk)), pw_below_grown hB (some g) hB.size hg (fun k hk => by cases hk; exact hbase), ?_⟩
      exact Kept.of_grown hg (Kept.refl _ _) (fun k hk => .inl (ho0.1 k (by cases hk; rfl)))
  · rw [if_neg hlt] at h
    cases h

/-! ### slices_Compact_int_int: function 72 -/
def slices_Compact_int_int.f (l0 : List Int) : Option (List Int) := some (Lib.compact l0)
theorem slices_Compact_int_int.calls (P0_ : Nat → Prop) (u9000_ : Value) (l0 : List Int) (r : List Int) (w0 w : World) (hB : Below w0.heap.size w0 w) (ho0 : Kd.R (Kd.int .i64) 3 w w0.heap.size P0_ u9000_ l0) (h : slices_Compact_int_int.f l0 = some r) :
    Calls Try.prog 72 #[u9000_] w fun e w' => ∃ v0_ : Value, e = .returned (v0_) ∧ Kd.R (Kd.int .i64) 3 w' w0.heap.size (fun k_ => (P0_ k_ ∨ w.heap.size ≤ k_)) v0_ r ∧ Below w0.heap.size w0 w' ∧ Kept w w' (fun k_ => P0_ k_) := by
  obtain rfl := Option.some.inj h
  have hown := Kd.own_of_R (enc := Value.int .i64) (h1 := fun _ => rfl) ho0
  rcases hown.2 with ⟨rfl, h0⟩ | ⟨g, cap, cur, rfl, hbase, hb, h1, h2, h3, h4⟩
  · have hl0 : l0 = [] := List.eq_nil_of_length_eq_zero h0
    subst hl0
    refine (Try.slices_Compact_int_empty none 0 w).mono ?_
    rintro e w' ⟨rfl, rfl⟩
    exact ⟨_, rfl, Kd.R_mono ho0 (fun _ hk => .inl hk), hB, Kept.refl _ _⟩
  · have hH : Go.Sort.Holds (Value.int .i64) w g 0 l0.toArray := holds_of_blockI hb (by simpa [encs] using h4)
    have hcl : (Lib.compact l0).length ≤ l0.length := Lib.compact_length_le l0
    refine (Try.slices_Compact_int g 0 cap l0 w hH (by unfold maxLen at h2; omega) h1).mono ?_
    rintro e w' ⟨rfl, n, rfl⟩
    have hgr : ∀ W : World, Go.Sort.grow W #[] = W := fun W => by simp [Go.Sort.grow]
    have hg := grownBy_sortedI (w := w) (g := g) (n := n) (os := #[]) (Lib.compact l0 ++ List.replicate (l0.length - (Lib.compact l0).length) 0).toArray
    have ho := ownsRow_sortedI (w := w) (n := n) (os := #[]) (ss := l0) (ts := Lib.compact l0 ++ List.replicate (l0.length - (Lib.compact l0).length) 0) (by simp; omega) hbase hb h1 h2 (by simpa using h3)
    rw [hgr] at hg ho
    have hlen : (Lib.compact l0 ++ List.replicate (l0.length - (Lib.compact l0).length) 0).length = l0.length := by simp; omega
    have hR : Kd.R (Kd.int .i64) 3 _ w0.heap.size (fun k_ => (P0_ k_ ∨ w.heap.size ≤ k_)) (.slice (some ⟨g, 0, none⟩) l0.length cap) (Lib.compact l0 ++ List.replicate (l0.length - (Lib.compact l0).length) 0) :=
      Kd.R_of_own (enc := Value.int .i64) (h1 := fun _ => rfl) (by rw [hlen]; simpa [encs] using ho) (fun k hk => .inl (ho0.1 k hk))
    have hT := Kd.R_take hR (m := (Lib.compact l0).length) (by simp)
    rw [List.take_left'] at hT
    · exact ⟨_, rfl, hT, pw_below_grown hB (some g) hB.size hg (fun k hk => by cases hk; exact hbase), Kept.of_grown hg (Kept.refl _ _) (fun k hk => .inl (ho0.1 k (by cases hk; rfl)))⟩
    · rfl

end Go.Proofs.Ytomehbmijdjjfaa.HU
