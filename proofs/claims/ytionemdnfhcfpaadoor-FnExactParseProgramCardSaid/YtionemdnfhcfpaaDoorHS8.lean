-- by hprint.py (wip/tools) over the kit's print.py: this session's text; Lean checks it
import Derived.Test.YtionemdnfhcfpaaDoorHS0
import Derived.Test.YtionemdnfhcfpaaDoorHS7
namespace Go.Proofs.YtionemdnfhcfpaaDoor.HS
open Go.RowKit Go.Proofs.YtionemdnfhcfpaaDoorW.PrintWords Go.Proofs.YtionemdnfhcfpaaDoorW.PrintLast Go.Proofs.YtionemdnfhcfpaaDoorW.PrintMore
attribute [local go_sem] max2_int min2_int max_two min_two max_three min_three max_four min_four   -- for this text's walks alone
set_option linter.unusedVariables false
set_option linter.unusedSimpArgs false

/-! ### impl_InsOk: function 51 -/
def impl_InsOk.f (a0_0 : Int) (a0_1 : Int) (a0_2 : Int) (a0_3 : Int) (a1 : Int) : Option (Bool) := (impl_formOf.f a0_0).bind fun t175 => (if t175.toList = ([] : List UInt8) then (some false) else ((impl_within.f a1 0 32).bind fun t176 => (if t176 = true then (if 0 < (t175.size : Int) then ((impl_isField.f (bt t175 0) a0_1 a1).bind fun t177 => (if t177 = true then (if 1 < (t175.size : Int) then ((impl_isField.f (bt t175 1) a0_2 a1).bind fun t178 => (if t178 = true then (if 2 < (t175.size : Int) then ((impl_isField.f (bt t175 2) a0_3 a1).bind fun t179 => (some t179)) else (none)) else (some false))) else (none)) else (some false))) else (none)) else (some false))))
set_option maxHeartbeats 8000000 in
set_option maxRecDepth 100000 in
theorem impl_InsOk.calls (a0_0 : Int) (a0_1 : Int) (a0_2 : Int) (a0_3 : Int) (a1 : Int) (r : Bool) (w : World) (h : impl_InsOk.f a0_0 a0_1 a0_2 a0_3 a1 = some r) :
    Calls Tryd.prog 51 #[.agg #[.int .i64 a0_0, .int .i64 a0_1, .int .i64 a0_2, .int .i64 a0_3], .int .i64 a1] w fun e w' => e = .returned (.bool r) ∧ Below w.heap.size w w' := by
  unfold impl_InsOk.f at h
  replace h := Option.bind_eq_some_iff.mp h
  obtain ⟨f, hf, h⟩ := h
  have HF := Aside0.mk (fun W => impl_formOf.calls a0_0 f W hf)
  clear hf
  have fin : ∀ w1 : World, Below (w.alloc (.cells #[.int .i64 a0_0, .int .i64 a0_1, .int .i64 a0_2, .int .i64 a0_3] 31 (0, 0))).heap.size (w.alloc (.cells #[.int .i64 a0_0, .int .i64 a0_1, .int .i64 a0_2, .int .i64 a0_3] 31 (0, 0))) w1 → w1.heap[w.heap.size]? = some (.cells #[.int .i64 a0_0, .int .i64 a0_1, .int .i64 a0_2, .int .i64 a0_3] 31 (0, 0)) ∧ Aside0 (Below w.heap.size w w1) := fun w1 hb =>
    ⟨blk_below (blk_new _ _) hb, ⟨below_then (below_alloc (Below.refl _ _) _) (by simp) hb⟩⟩
  have hx0 : ∀ h : 0 < f.size, ((f[0]'h).toNat : Int) = bt f 0 := bt_at f 0
  have hx1 : ∀ h : 1 < f.size, ((f[1]'h).toNat : Int) = bt f 1 := bt_at f 1
  have hx2 : ∀ h : 2 < f.size, ((f[2]'h).toNat : Int) = bt f 2 := bt_at f 2
  by_cases h0 : f.toList = ([] : List UInt8)
  · rw [if_pos h0] at h
    obtain rfl := Option.some.inj h
    have e1 : (f.toList == ([] : List UInt8)) = true := beq_iff_eq.mpr h0
    have e2 : (f.toList != ([] : List UInt8)) = false := bne_eq_false_iff_eq.mpr h0
    clear h h0 hx0 hx1 hx2
    go_enter Tryd.func51, Tryd.ntmps51
    go_upto_region 2 with (go_at_call 53; refine (HF.out _).mono ?_; rintro e w1 ⟨rfl, hb1⟩; obtain ⟨BK, HB⟩ := fin _ hb1; clear hb1 fin)
    go_quiet (fail)
    go_wp2
    go_ret
    exact ⟨rfl, by repeat (first | exact HB.out | apply below_alloc | apply pw_below_drewN | apply below_drew1)⟩
  · rw [if_neg h0] at h
    have e1 : (f.toList == ([] : List UInt8)) = false := beq_eq_false_iff_ne.mpr h0
    have e2 : (f.toList != ([] : List UInt8)) = true := bne_iff_ne.mpr h0
    clear h0
    replace h := Option.bind_eq_some_iff.mp h
    obtain ⟨b0, q0, h⟩ := h
    have HW := Aside0.mk (fun W => (impl_within.calls a1 0 32 b0 W q0).mono fun e w2 ⟨he, hd⟩ => And.intro he hd.out)
    clear q0
    cases b0 with
    | false =>
      obtain rfl := Option.some.inj h
      clear h hx0 hx1 hx2
      go_enter Tryd.func51, Tryd.ntmps51
      go_upto_region 2 with (go_at_call 53; refine (HF.out _).mono ?_; rintro e w1 ⟨rfl, hb1⟩; obtain ⟨BK, HB⟩ := fin _ hb1; clear hb1 fin)
      go_quiet ((first | (go_at_call 63; exact Calls.quiet_of (HW.out _))))
      go_wp2
      go_ret
      exact ⟨rfl, by repeat (first | exact HB.out | apply below_alloc | apply pw_below_drewN | apply below_drew1)⟩
    | true =>
      rw [if_pos rfl] at h
      by_cases s0 : 0 < (f.size : Int)
      · rw [if_pos s0] at h
        have t0 : 0 < f.size := by omega
        replace h := Option.bind_eq_some_iff.mp h
        obtain ⟨b1, q1, h⟩ := h
        have HI0 := Aside0.mk (fun W => (impl_isField.calls (bt f 0) a0_1 a1 b1 W q1).mono fun e w2 ⟨he, hd⟩ => And.intro he hd.out)
        clear q1
        cases b1 with
        | false =>
          obtain rfl := Option.some.inj h
          clear h
          go_enter Tryd.func51, Tryd.ntmps51
          go_upto_region 2 with (go_at_call 53; refine (HF.out _).mono ?_; rintro e w1 ⟨rfl, hb1⟩; obtain ⟨BK, HB⟩ := fin _ hb1; clear hb1 fin)
          have hc1 : w1.cell? ⟨w.heap.size, 1, none⟩ = some (.int .i64 a0_1) := (blk_cell BK 1).trans rfl
          go_quiet ((first | (go_at_call 63; exact Calls.quiet_of (HW.out _)) | (go_at_call_of 77 (Value.int .u8 (bt f 0)); exact Calls.quiet_of (HI0.out _))))
          go_wp2
          go_ret
          exact ⟨rfl, by repeat (first | exact HB.out | apply below_alloc | apply pw_below_drewN | apply below_drew1)⟩
        | true =>
          rw [if_pos rfl] at h
          by_cases s1 : 1 < (f.size : Int)
          · rw [if_pos s1] at h
            have t1 : 1 < f.size := by omega
            replace h := Option.bind_eq_some_iff.mp h
            obtain ⟨b2, q2, h⟩ := h
            have HI1 := Aside0.mk (fun W => (impl_isField.calls (bt f 1) a0_2 a1 b2 W q2).mono fun e w2 ⟨he, hd⟩ => And.intro he hd.out)
            clear q2
            cases b2 with
            | false =>
              obtain rfl := Option.some.inj h
              clear h
              go_enter Tryd.func51, Tryd.ntmps51
              go_upto_region 2 with (go_at_call 53; refine (HF.out _).mono ?_; rintro e w1 ⟨rfl, hb1⟩; obtain ⟨BK, HB⟩ := fin _ hb1; clear hb1 fin)
              have hc1 : w1.cell? ⟨w.heap.size, 1, none⟩ = some (.int .i64 a0_1) := (blk_cell BK 1).trans rfl
              have hc2 : w1.cell? ⟨w.heap.size, 2, none⟩ = some (.int .i64 a0_2) := (blk_cell BK 2).trans rfl
              go_quiet ((first | (go_at_call 63; exact Calls.quiet_of (HW.out _)) | (go_at_call_of 77 (Value.int .u8 (bt f 0)); exact Calls.quiet_of (HI0.out _)) | (go_at_call_of 77 (Value.int .u8 (bt f 1)); exact Calls.quiet_of (HI1.out _))))
              go_wp2
              go_ret
              exact ⟨rfl, by repeat (first | exact HB.out | apply below_alloc | apply pw_below_drewN | apply below_drew1)⟩
            | true =>
              rw [if_pos rfl] at h
              by_cases s2 : 2 < (f.size : Int)
              · rw [if_pos s2] at h
                have t2 : 2 < f.size := by omega
                replace h := Option.bind_eq_some_iff.mp h
                obtain ⟨b3, q3, h⟩ := h
                have HI2 := Aside0.mk (fun W => (impl_isField.calls (bt f 2) a0_3 a1 b3 W q3).mono fun e w2 ⟨he, hd⟩ => And.intro he hd.out)
                clear q3
                obtain rfl := Option.some.inj h
                clear h
                go_enter Tryd.func51, Tryd.ntmps51
                go_upto_region 2 with (go_at_call 53; refine (HF.out _).mono ?_; rintro e w1 ⟨rfl, hb1⟩; obtain ⟨BK, HB⟩ := fin _ hb1; clear hb1 fin)
                have hc1 : w1.cell? ⟨w.heap.size, 1, none⟩ = some (.int .i64 a0_1) := (blk_cell BK 1).trans rfl
                have hc2 : w1.cell? ⟨w.heap.size, 2, none⟩ = some (.int .i64 a0_2) := (blk_cell BK 2).trans rfl
                have hc3 : w1.cell? ⟨w.heap.size, 3, none⟩ = some (.int .i64 a0_3) := (blk_cell BK 3).trans rfl
                go_quiet ((first | (go_at_call 63; exact Calls.quiet_of (HW.out _)) | (go_at_call_of 77 (Value.int .u8 (bt f 0)); exact Calls.quiet_of (HI0.out _)) | (go_at_call_of 77 (Value.int .u8 (bt f 1)); exact Calls.quiet_of (HI1.out _)) | (go_at_call_of 77 (Value.int .u8 (bt f 2)); exact Calls.quiet_of (HI2.out _))))
                go_wp2
                go_ret
                exact ⟨rfl, by repeat (first | exact HB.out | apply below_alloc | apply pw_below_drewN | apply below_drew1)⟩
              · rw [if_neg s2] at h; cases h
          · rw [if_neg s1] at h; cases h
      · rw [if_neg s0] at h; cases h

/-! ### impl_opNames: function 66 -/
def impl_opNames.f  : Option (List ByteArray) := some (([(⟨#[110, 111, 112]⟩ : ByteArray), (⟨#[115, 101, 116]⟩ : ByteArray), (⟨#[109, 111, 118, 101]⟩ : ByteArray), (⟨#[97, 100, 100]⟩ : ByteArray), (⟨#[115, 117, 98]⟩ : ByteArray), (⟨#[109, 117, 108]⟩ : ByteArray), (⟨#[120, 111, 114]⟩ : ByteArray), (⟨#[108, 101, 115, 115]⟩ : ByteArray), (⟨#[115, 101, 108, 102]⟩ : ByteArray), (⟨#[112, 105, 99, 107]⟩ : ByteArray), (⟨#[122, 101, 114, 111]⟩ : ByteArray), (⟨#[106, 117, 109, 112]⟩ : ByteArray), (⟨#[104, 97, 108, 116]⟩ : ByteArray), (⟨#[108, 111, 97, 100]⟩ : ByteArray), (⟨#[115, 116, 111, 114, 101]⟩ : ByteArray), (⟨#[98, 117, 109, 112]⟩ : ByteArray), (⟨#[98, 97, 114, 114, 105, 101, 114]⟩ : ByteArray)] : List ByteArray))
set_option maxHeartbeats 8000000 in
set_option maxRecDepth 100000 in
theorem impl_opNames.calls  (r : List ByteArray) (w : World) (h : impl_opNames.f  = some r) :
    Calls Tryd.prog 66 #[] w fun e w' => ∃ v0_ : Value, e = .returned (v0_) ∧ Kd.R Kd.string 9 w' w.heap.size (fun _ => True) v0_ r ∧ Below w.heap.size w w' := by
  have HB := Aside0.mk (Below.refl w.heap.size w)
  have H : (some (([(⟨#[110, 111, 112]⟩ : ByteArray), (⟨#[115, 101, 116]⟩ : ByteArray), (⟨#[109, 111, 118, 101]⟩ : ByteArray), (⟨#[97, 100, 100]⟩ : ByteArray), (⟨#[115, 117, 98]⟩ : ByteArray), (⟨#[109, 117, 108]⟩ : ByteArray), (⟨#[120, 111, 114]⟩ : ByteArray), (⟨#[108, 101, 115, 115]⟩ : ByteArray), (⟨#[115, 101, 108, 102]⟩ : ByteArray), (⟨#[112, 105, 99, 107]⟩ : ByteArray), (⟨#[122, 101, 114, 111]⟩ : ByteArray), (⟨#[106, 117, 109, 112]⟩ : ByteArray), (⟨#[104, 97, 108, 116]⟩ : ByteArray), (⟨#[108, 111, 97, 100]⟩ : ByteArray), (⟨#[115, 116, 111, 114, 101]⟩ : ByteArray), (⟨#[98, 117, 109, 112]⟩ : ByteArray), (⟨#[98, 97, 114, 114, 105, 101, 114]⟩ : ByteArray)] : List ByteArray))) = some r := h
  clear h
  obtain ⟨y216, hy216⟩ : ∃ y_ : List ByteArray, y_ = (([(⟨#[110, 111, 112]⟩ : ByteArray), (⟨#[115, 101, 116]⟩ : ByteArray), (⟨#[109, 111, 118, 101]⟩ : ByteArray), (⟨#[97, 100, 100]⟩ : ByteArray), (⟨#[115, 117, 98]⟩ : ByteArray), (⟨#[109, 117, 108]⟩ : ByteArray), (⟨#[120, 111, 114]⟩ : ByteArray), (⟨#[108, 101, 115, 115]⟩ : ByteArray), (⟨#[115, 101, 108, 102]⟩ : ByteArray), (⟨#[112, 105, 99, 107]⟩ : ByteArray), (⟨#[122, 101, 114, 111]⟩ : ByteArray), (⟨#[106, 117, 109, 112]⟩ : ByteArray), (⟨#[104, 97, 108, 116]⟩ : ByteArray), (⟨#[108, 111, 97, 100]⟩ : ByteArray), (⟨#[115, 116, 111, 114, 101]⟩ : ByteArray), (⟨#[98, 117, 109, 112]⟩ : ByteArray), (⟨#[98, 97, 114, 114, 105, 101, 114]⟩ : ByteArray)] : List ByteArray)) := ⟨_, rfl⟩
  replace H : (some y216) = some r := by first | (rw [hy216]; with_reducible exact H) | (have H2_ := (Option.bind_some _ _).symm.trans H; rw [hy216]; with_reducible exact H2_) | (have H2_ := (Option.bind_some _ _).symm.trans H; with_reducible exact H2_) | with_reducible exact H | (rw [hy216]; exact H) | exact H
  have Ny216 := Aside0.mk hy216
  clear hy216
  obtain rfl := Option.some.inj H
  go_enter Tryd.func66, Tryd.ntmps66
  go_wp2_with (first | ((with_reducible refine gate_dst (N := 1) rfl ?_); refine Kd.R_lit Kd.string _ 9 ?hg (N := 1) ?hd (xs := ([(⟨#[110, 111, 112]⟩ : ByteArray), (⟨#[115, 101, 116]⟩ : ByteArray), (⟨#[109, 111, 118, 101]⟩ : ByteArray), (⟨#[97, 100, 100]⟩ : ByteArray), (⟨#[115, 117, 98]⟩ : ByteArray), (⟨#[109, 117, 108]⟩ : ByteArray), (⟨#[120, 111, 114]⟩ : ByteArray), (⟨#[108, 101, 115, 115]⟩ : ByteArray), (⟨#[115, 101, 108, 102]⟩ : ByteArray), (⟨#[112, 105, 99, 107]⟩ : ByteArray), (⟨#[122, 101, 114, 111]⟩ : ByteArray), (⟨#[106, 117, 109, 112]⟩ : ByteArray), (⟨#[104, 97, 108, 116]⟩ : ByteArray), (⟨#[108, 111, 97, 100]⟩ : ByteArray), (⟨#[115, 116, 111, 114, 101]⟩ : ByteArray), (⟨#[98, 117, 109, 112]⟩ : ByteArray), (⟨#[98, 97, 114, 114, 105, 101, 114]⟩ : ByteArray)] : List ByteArray)) (inner := [.string (⟨#[110, 111, 112]⟩ : ByteArray), .string (⟨#[115, 101, 116]⟩ : ByteArray), .string (⟨#[109, 111, 118, 101]⟩ : ByteArray), .string (⟨#[97, 100, 100]⟩ : ByteArray), .string (⟨#[115, 117, 98]⟩ : ByteArray), .string (⟨#[109, 117, 108]⟩ : ByteArray), .string (⟨#[120, 111, 114]⟩ : ByteArray), .string (⟨#[108, 101, 115, 115]⟩ : ByteArray), .string (⟨#[115, 101, 108, 102]⟩ : ByteArray), .string (⟨#[112, 105, 99, 107]⟩ : ByteArray), .string (⟨#[122, 101, 114, 111]⟩ : ByteArray), .string (⟨#[106, 117, 109, 112]⟩ : ByteArray), .string (⟨#[104, 97, 108, 116]⟩ : ByteArray), .string (⟨#[108, 111, 97, 100]⟩ : ByteArray), .string (⟨#[115, 116, 111, 114, 101]⟩ : ByteArray), .string (⟨#[98, 117, 109, 112]⟩ : ByteArray), .string (⟨#[98, 97, 114, 114, 105, 101, 114]⟩ : ByteArray)]) (ok := fun _ => True) (okp := fun _ => True) ?hr ?hp (fun _ hk => hk) trivial (Below.refl _ _) (Nat.le_refl _) (by simp) ?_; (case hd => rfl); (case hg => rfl); (case hr => first | (go_simp; done) | (go_simp; rfl)); (case hp => exact (Reps.one (show Kd.M Kd.string _ _ _ (⟨#[110, 111, 112]⟩ : ByteArray) [.string (⟨#[110, 111, 112]⟩ : ByteArray)] from rfl) (Reps.one (show Kd.M Kd.string _ _ _ (⟨#[115, 101, 116]⟩ : ByteArray) [.string (⟨#[115, 101, 116]⟩ : ByteArray)] from rfl) (Reps.one (show Kd.M Kd.string _ _ _ (⟨#[109, 111, 118, 101]⟩ : ByteArray) [.string (⟨#[109, 111, 118, 101]⟩ : ByteArray)] from rfl) (Reps.one (show Kd.M Kd.string _ _ _ (⟨#[97, 100, 100]⟩ : ByteArray) [.string (⟨#[97, 100, 100]⟩ : ByteArray)] from rfl) (Reps.one (show Kd.M Kd.string _ _ _ (⟨#[115, 117, 98]⟩ : ByteArray) [.string (⟨#[115, 117, 98]⟩ : ByteArray)] from rfl) (Reps.one (show Kd.M Kd.string _ _ _ (⟨#[109, 117, 108]⟩ : ByteArray) [.string (⟨#[109, 117, 108]⟩ : ByteArray)] from rfl) (Reps.one (show Kd.M Kd.string _ _ _ (⟨#[120, 111, 114]⟩ : ByteArray) [.string (⟨#[120, 111, 114]⟩ : ByteArray)] from rfl) (Reps.one (show Kd.M Kd.string _ _ _ (⟨#[108, 101, 115, 115]⟩ : ByteArray) [.string (⟨#[108, 101, 115, 115]⟩ : ByteArray)] from rfl) (Reps.one (show Kd.M Kd.string _ _ _ (⟨#[115, 101, 108, 102]⟩ : ByteArray) [.string (⟨#[115, 101, 108, 102]⟩ : ByteArray)] from rfl) (Reps.one (show Kd.M Kd.string _ _ _ (⟨#[112, 105, 99, 107]⟩ : ByteArray) [.string (⟨#[112, 105, 99, 107]⟩ : ByteArray)] from rfl) (Reps.one (show Kd.M Kd.string _ _ _ (⟨#[122, 101, 114, 111]⟩ : ByteArray) [.string (⟨#[122, 101, 114, 111]⟩ : ByteArray)] from rfl) (Reps.one (show Kd.M Kd.string _ _ _ (⟨#[106, 117, 109, 112]⟩ : ByteArray) [.string (⟨#[106, 117, 109, 112]⟩ : ByteArray)] from rfl) (Reps.one (show Kd.M Kd.string _ _ _ (⟨#[104, 97, 108, 116]⟩ : ByteArray) [.string (⟨#[104, 97, 108, 116]⟩ : ByteArray)] from rfl) (Reps.one (show Kd.M Kd.string _ _ _ (⟨#[108, 111, 97, 100]⟩ : ByteArray) [.string (⟨#[108, 111, 97, 100]⟩ : ByteArray)] from rfl) (Reps.one (show Kd.M Kd.string _ _ _ (⟨#[115, 116, 111, 114, 101]⟩ : ByteArray) [.string (⟨#[115, 116, 111, 114, 101]⟩ : ByteArray)] from rfl) (Reps.one (show Kd.M Kd.string _ _ _ (⟨#[98, 117, 109, 112]⟩ : ByteArray) [.string (⟨#[98, 117, 109, 112]⟩ : ByteArray)] from rfl) (Reps.one (show Kd.M Kd.string _ _ _ (⟨#[98, 97, 114, 114, 105, 101, 114]⟩ : ByteArray) [.string (⟨#[98, 97, 114, 114, 105, 101, 114]⟩ : ByteArray)] from rfl) (Reps.none _ _))))))))))))))))))); intro v217 w1 ho2 hb hg_ hnew_; clear hg_ hnew_; (first | rw [← Ny216.out] at ho2 | (simp only [Int.reduceToNat] at ho2; rw [← Ny216.out] at ho2)); have n0_ := Aside0.mk (Kd.R_lower ho2 (below_size (by repeat (first | (with_reducible first | exact HB.out | apply below_alloc | apply pw_below_drewN | apply below_drew1) | exact HB.out)))); have n1_ := Aside0.mk (below_step (by repeat (first | (with_reducible first | exact HB.out | apply below_alloc | apply pw_below_drewN | apply below_drew1) | exact HB.out)) hb); clear HB; have HO218 := n0_; have HB := n1_; clear n0_ n1_; clear hb ho2))
  go_ret
  exact ⟨_, by first | rfl | (simp [errW_none, errW_some] <;> rfl) | (simp [*, errW_none, errW_some] <;> rfl) | (simp [errW_none, errW_some]; exact MakeAid.isEmpty_ne _), by (with_reducible repeat (first | apply Kd.R_alloc | apply Kd.R_drewN | apply Kd.R_drew)); exact HO218.out, by repeat (first | (with_reducible first | exact HB.out | apply below_alloc | apply pw_below_drewN | apply below_drew1) | exact HB.out)⟩

/-! ### impl_OpName: function 52 -/
def impl_OpName.f (a0 : Int) : Option (ByteArray) := (impl_within.f a0 0 16).bind fun t219 => (if t219 = true then ((impl_opNames.f).bind fun t220 => (if 0 ≤ a0 then (if a0 < (t220.length : Int) then (some (rdOf ByteArray.empty t220 a0)) else (none)) else (none))) else (some (⟨#[]⟩ : ByteArray)))
set_option maxHeartbeats 8000000 in
set_option maxRecDepth 100000 in
theorem impl_OpName.calls (a0 : Int) (r : ByteArray) (w : World) (h : impl_OpName.f a0 = some r) :
    Calls Tryd.prog 52 #[.int .i64 a0] w fun e w' => e = .returned (.string r) ∧ Below w.heap.size w w' := by
  have HB := Aside0.mk (Below.refl w.heap.size w)
  have H : ((impl_within.f a0 0 16).bind fun t219 => (if t219 = true then ((impl_opNames.f).bind fun t220 => (if 0 ≤ a0 then (if a0 < (t220.length : Int) then (some (rdOf ByteArray.empty t220 a0)) else (none)) else (none))) else (some (⟨#[]⟩ : ByteArray)))) = some r := h
  clear h
  replace H := Option.bind_eq_some_iff.mp H
  obtain ⟨t219, A20, H⟩ := H
  replace H : (if t219 = true then ((impl_opNames.f).bind fun t220 => (if 0 ≤ a0 then (if a0 < (t220.length : Int) then (some (rdOf ByteArray.empty t220 a0)) else (none)) else (none))) else (some (⟨#[]⟩ : ByteArray))) = some r := H
  have A2 := Aside0.mk A20
  clear A20
  by_cases c3 : t219 = true
  · subst c3
    have H1 : ((impl_opNames.f).bind fun t220 => (if 0 ≤ a0 then (if a0 < (t220.length : Int) then (some (rdOf ByteArray.empty t220 a0)) else (none)) else (none))) = some r := by rw [if_pos rfl] at H; exact H
    clear H
    have H := H1
    clear H1
    replace H := Option.bind_eq_some_iff.mp H
    obtain ⟨t220, A40, H⟩ := H
    replace H : (if 0 ≤ a0 then (if a0 < (t220.length : Int) then (some (rdOf ByteArray.empty t220 a0)) else (none)) else (none)) = some r := H
    have A4 := Aside0.mk A40
    clear A40
    by_cases c5 : 0 ≤ a0
    · rw [if_pos c5] at H
      have c5b0 : decide (0 ≤ a0) = true := decide_eq_true c5
      clear c5
      by_cases c6 : a0 < (t220.length : Int)
      · rw [if_pos c6] at H
        have c6b0 : decide (a0 < (t220.length : Int)) = true := decide_eq_true c6
        clear c6
        obtain rfl := Option.some.inj H
        go_enter Tryd.func52, Tryd.ntmps52
        go_wp2_with (first | ((with_reducible refine gate_callee (f := 63) rfl ?_); refine goesL_ (some 4) rfl rfl Tryd.func63 (by kernel_rfl) rfl #[.int .i64 a0, .int .i64 0, .int .i64 16] rfl (by (try simp only [List.map_toArray, List.map_cons, List.map_nil]); first | done | rfl | (simp only [List.length_drop, List.length_take]; rfl)) ?_; (with_reducible refine (impl_within.calls a0 0 16 true _ A2.out).mono ?_); rintro e w' ⟨rfl, ⟨nd, rfl⟩⟩; refine ⟨_, rfl, ?_⟩) | ((with_reducible refine gate_callee (f := 66) rfl ?_); refine goesL_ (some 6) rfl rfl Tryd.func66 (by kernel_rfl) rfl #[] rfl (by (try simp only [List.map_toArray, List.map_cons, List.map_nil]); first | done | rfl | (simp only [List.length_drop, List.length_take]; rfl)) ?_; (with_reducible refine (impl_opNames.calls  t220 _ A4.out).mono ?_); rintro e w7 ⟨v221, rfl, ho0, hb⟩; refine ⟨_, rfl, ?_⟩; have n0_ := Aside0.mk (Kd.R_lower ho0 (below_size (by repeat (first | (with_reducible first | exact HB.out | apply below_alloc | apply pw_below_drewN | apply below_drew1) | exact HB.out)))); have n1_ := Aside0.mk (below_step (by repeat (first | (with_reducible first | exact HB.out | apply below_alloc | apply pw_below_drewN | apply below_drew1) | exact HB.out)) hb); clear HB; have HO222 := n0_; have HB := n1_; clear n0_ n1_; (try clear hb); (try clear hb2); (try clear hk); (try clear hi); (try clear ho0); obtain ⟨Ao8, co8, eo8⟩ := Kd.R_slice HO222.out; subst eo8; have p223 : 0 ≤ (a0 : Int) := of_decide_eq_true (by first | (with_reducible assumption) | assumption); have q223 : a0 < (t220.length : Int) := of_decide_eq_true (by first | (with_reducible assumption) | assumption); obtain ⟨ad223, e223, hx223_0⟩ := Kd.at_string (Kd.R_reads' HO222.out).2.2 a0 p223 q223; cases e223; replace p223 := eq_true p223; replace q223 := eq_true q223))
        go_ret
        exact ⟨by first | rfl | (simp [errW_none, errW_some] <;> rfl) | (simp [*, errW_none, errW_some] <;> rfl) | (simp [errW_none, errW_some]; exact MakeAid.isEmpty_ne _), by repeat (first | (with_reducible first | exact HB.out | apply below_alloc | apply pw_below_drewN | apply below_drew1) | exact HB.out)⟩
      · rw [if_neg c6] at H
        exact absurd H (by simp)
    · rw [if_neg c5] at H
      exact absurd H (by simp)
  · replace c3 := Bool.eq_false_iff.mpr c3
    subst c3
    have H1 : (some (⟨#[]⟩ : ByteArray)) = some r := by rw [if_neg (show ¬ (false = true) by decide)] at H; exact H
    clear H
    have H := H1
    clear H1
    obtain rfl := Option.some.inj H
    go_enter Tryd.func52, Tryd.ntmps52
    go_wp2_with (first | ((with_reducible refine gate_callee (f := 63) rfl ?_); refine goesL_ (some 4) rfl rfl Tryd.func63 (by kernel_rfl) rfl #[.int .i64 a0, .int .i64 0, .int .i64 16] rfl (by (try simp only [List.map_toArray, List.map_cons, List.map_nil]); first | done | rfl | (simp only [List.length_drop, List.length_take]; rfl)) ?_; (with_reducible refine (impl_within.calls a0 0 16 false _ A2.out).mono ?_); rintro e w' ⟨rfl, ⟨nd, rfl⟩⟩; refine ⟨_, rfl, ?_⟩))
    go_ret
    exact ⟨by first | rfl | (simp [errW_none, errW_some] <;> rfl) | (simp [*, errW_none, errW_some] <;> rfl) | (simp [errW_none, errW_some]; exact MakeAid.isEmpty_ne _), by repeat (first | (with_reducible first | exact HB.out | apply below_alloc | apply pw_below_drewN | apply below_drew1) | exact HB.out)⟩

/-! ### impl_FormatIns: function 19 -/
def impl_FormatIns.l0 : Nat → ByteArray → List Int → Int → Int → Int → Int → Int → Int → Option (ByteArray)
  | 0, _, _, _, _, _, _, _, _ => none
  | k + 1, x3, x18, x19, x20, x225000, x225001, x225002, x225003 => if x20 < x19 then (if 0 ≤ x20 then (if x20 < (x18.length : Int) then ((impl_formOf.f x225000).bind fun t231 => (if x20 < (t231.size : Int) then (if (bt t231 x20) = 45 then (impl_FormatIns.l0 k x3 x18 x19 (wrap64 (x20 + 1)) x225000 x225001 x225002 x225003) else ((impl_FormatInt.f (rd x18 x20)).bind fun t232 => (if 1 + t232.size ≤ 9223372036854775807 then (if x3.size + ((⟨#[32]⟩ : ByteArray) ++ t232).size ≤ 9223372036854775807 then (impl_FormatIns.l0 k (x3 ++ ((⟨#[32]⟩ : ByteArray) ++ t232)) x18 x19 (wrap64 (x20 + 1)) x225000 x225001 x225002 x225003) else (none)) else (none)))) else (none))) else (none)) else (none)) else (some x3)
def impl_FormatIns.f (k : Nat) (a0_0 : Int) (a0_1 : Int) (a0_2 : Int) (a0_3 : Int) : Option (ByteArray) := (impl_InsOk.f a0_0 a0_1 a0_2 a0_3 32).bind fun t225 => (if t225 = true then ((impl_OpName.f a0_0).bind fun t226 => ((some (([a0_1, a0_2, a0_3] : List Int) : List Int)).bind fun y227 => (impl_FormatIns.l0 k t226 y227 (y227.length : Int) 0 a0_0 a0_1 a0_2 a0_3))) else (some (⟨#[]⟩ : ByteArray)))
theorem impl_FormatIns.mono_l : ∀ k, (∀ y0 y1 y2 y3 y4 y5 y6 y7, LeO (impl_FormatIns.l0 k y0 y1 y2 y3 y4 y5 y6 y7) (impl_FormatIns.l0 (k + 1) y0 y1 y2 y3 y4 y5 y6 y7))
  | 0 => fun _ _ _ _ _ _ _ _ r h => by simp [impl_FormatIns.l0] at h
  | k + 1 => by
    have ih0 := impl_FormatIns.mono_l k
    · intro y0 y1 y2 y3 y4 y5 y6 y7
      unfold impl_FormatIns.l0
      repeat' first
      | (with_reducible exact ih0 _ _ _ _ _ _ _ _)
      | (with_reducible exact LeO.refl _)
      | (with_reducible exact LeO.none _)
      | (with_reducible refine LeO.ite ?_ ?_)
      | (with_reducible refine LeO.bind ?_ (fun _ => ?_))
      | exact ih0 _ _ _ _ _ _ _ _
      | exact LeO.none _
      | refine LeO.ite ?_ ?_
      | refine LeO.bind ?_ (fun _ => ?_)
theorem impl_FormatIns.mono : ∀ a0 a1 a2 a3 k, LeO (impl_FormatIns.f k a0 a1 a2 a3) (impl_FormatIns.f (k + 1) a0 a1 a2 a3) := by
  intro a0 a1 a2 a3 k
  have ih0 := impl_FormatIns.mono_l k
  unfold impl_FormatIns.f
  repeat' first
      | (with_reducible exact ih0 _ _ _ _ _ _ _ _)
      | (with_reducible exact LeO.refl _)
      | (with_reducible exact LeO.none _)
      | (with_reducible refine LeO.ite ?_ ?_)
      | (with_reducible refine LeO.bind ?_ (fun _ => ?_))
      | exact ih0 _ _ _ _ _ _ _ _
      | exact LeO.none _
      | refine LeO.ite ?_ ?_
      | refine LeO.bind ?_ (fun _ => ?_)
set_option maxHeartbeats 8000000 in
set_option maxRecDepth 100000 in
theorem impl_FormatIns.calls (k : Nat) (a0_0 : Int) (a0_1 : Int) (a0_2 : Int) (a0_3 : Int) (r : ByteArray) (w : World) (h : impl_FormatIns.f k a0_0 a0_1 a0_2 a0_3 = some r) (HTTP : Tabs.TP w) :
    Calls Tryd.prog 19 #[.agg #[.int .i64 a0_0, .int .i64 a0_1, .int .i64 a0_2, .int .i64 a0_3]] w fun e w' => e = .returned (.string r) ∧ Below w.heap.size w w' := by
  replace HTTP := Aside0.mk HTTP
  have hu31 := Tryd.underlying31
  have HB := Aside0.mk (Below.refl w.heap.size w)
  have H : ((impl_InsOk.f a0_0 a0_1 a0_2 a0_3 32).bind fun t225 => (if t225 = true then ((impl_OpName.f a0_0).bind fun t226 => ((some (([a0_1, a0_2, a0_3] : List Int) : List Int)).bind fun y227 => (impl_FormatIns.l0 k t226 y227 (y227.length : Int) 0 a0_0 a0_1 a0_2 a0_3))) else (some (⟨#[]⟩ : ByteArray)))) = some r := h
  clear h
  replace H := Option.bind_eq_some_iff.mp H
  obtain ⟨t225, A20, H⟩ := H
  replace H : (if t225 = true then ((impl_OpName.f a0_0).bind fun t226 => ((some (([a0_1, a0_2, a0_3] : List Int) : List Int)).bind fun y227 => (impl_FormatIns.l0 k t226 y227 (y227.length : Int) 0 a0_0 a0_1 a0_2 a0_3))) else (some (⟨#[]⟩ : ByteArray))) = some r := H
  have A2 := Aside0.mk A20
  clear A20
  by_cases c3 : t225 = true
  · subst c3
    have H1 : ((impl_OpName.f a0_0).bind fun t226 => ((some (([a0_1, a0_2, a0_3] : List Int) : List Int)).bind fun y227 => (impl_FormatIns.l0 k t226 y227 (y227.length : Int) 0 a0_0 a0_1 a0_2 a0_3))) = some r := by rw [if_pos rfl] at H; exact H
    clear H
    have H := H1
    clear H1
    replace H := Option.bind_eq_some_iff.mp H
    obtain ⟨t226, A40, H⟩ := H
    replace H : ((some (([a0_1, a0_2, a0_3] : List Int) : List Int)).bind fun y227 => (impl_FormatIns.l0 k t226 y227 (y227.length : Int) 0 a0_0 a0_1 a0_2 a0_3)) = some r := H
    have A4 := Aside0.mk A40
    clear A40
    obtain ⟨y227, hy227⟩ : ∃ y_ : List Int, y_ = (([a0_1, a0_2, a0_3] : List Int)) := ⟨_, rfl⟩
    replace H : (impl_FormatIns.l0 k t226 y227 (y227.length : Int) 0 a0_0 a0_1 a0_2 a0_3) = some r := by first | (rw [hy227]; with_reducible exact H) | (have H2_ := (Option.bind_some _ _).symm.trans H; rw [hy227]; with_reducible exact H2_) | (have H2_ := (Option.bind_some _ _).symm.trans H; with_reducible exact H2_) | with_reducible exact H | (rw [hy227]; exact H) | exact H
    have Ny227 := Aside0.mk hy227
    clear hy227
    have H' := Aside0.mk H
    clear H
    go_enter Tryd.func19, Tryd.ntmps19
    go_wp2_with (first | ((with_reducible refine gate_dst (N := 1) rfl ?_); refine box_event ?hg (N := 1) ?hd (cs := #[.int .i64 a0_0, .int .i64 a0_1, .int .i64 a0_2, .int .i64 a0_3]) (t := 31) ?hr ?_; (case hd => rfl); (case hg => rfl); (case hr => first | (go_simp; done) | (go_simp; rfl)); intro gb224 hg w5 hbox hb; have n0_ := Aside0.mk (below_step (by repeat (first | (with_reducible first | exact HB.out | apply below_alloc | apply pw_below_drewN | apply below_drew1) | exact HB.out)) hb); have n1_ := Aside0.mk (hbox); have n2_ := Aside0.mk ((by rw [hg]; exact (below_size (by repeat (first | (with_reducible first | exact HB.out | apply below_alloc | apply pw_below_drewN | apply below_drew1) | exact HB.out))) : w.heap.size ≤ gb224)); have n3_ := Aside0.mk ((by rw [hg]; exact (below_size (by repeat (first | (with_reducible first | exact HB.out | apply below_alloc | apply pw_below_drewN | apply below_drew1) | exact HB.out))) : w.heap.size ≤ gb224)); clear HB; have HB := n0_; have BK224 := n1_; have GW224 := n2_; have GE224 := n3_; clear n0_ n1_ n2_ n3_; clear hb hbox hg; have hcz6_0 : w5.cell? ⟨gb224, 0, none⟩ = some (.int .i64 a0_0) := (blk_cell BK224.out 0).trans rfl; have hcz6_1 : w5.cell? ⟨gb224, 1, none⟩ = some (.int .i64 a0_1) := (blk_cell BK224.out 1).trans rfl; have hcz6_2 : w5.cell? ⟨gb224, 2, none⟩ = some (.int .i64 a0_2) := (blk_cell BK224.out 2).trans rfl; have hcz6_3 : w5.cell? ⟨gb224, 3, none⟩ = some (.int .i64 a0_3) := (blk_cell BK224.out 3).trans rfl; have hfz6_0 := blk_frozen BK224.out 0; have hfz6_1 := blk_frozen BK224.out 1; have hfz6_2 := blk_frozen BK224.out 2; have hfz6_3 := blk_frozen BK224.out 3) | ((with_reducible refine gate_callee (f := 51) rfl ?_); refine goesL_ (some 7) rfl rfl Tryd.func51 (by kernel_rfl) rfl #[.agg #[.int .i64 a0_0, .int .i64 a0_1, .int .i64 a0_2, .int .i64 a0_3], .int .i64 32] rfl (by (try simp only [List.map_toArray, List.map_cons, List.map_nil]); first | done | rfl | (simp only [List.length_drop, List.length_take]; rfl)) ?_; (with_reducible refine (impl_InsOk.calls a0_0 a0_1 a0_2 a0_3 32 true _ A2.out).mono ?_); rintro e w7 ⟨rfl, hb⟩; refine ⟨_, rfl, ?_⟩; have n0_ := Aside0.mk (blk_below (g := gb224) (o := .cells #[.int .i64 a0_0, .int .i64 a0_1, .int .i64 a0_2, .int .i64 a0_3] 31 (0, 0)) (by (with_reducible repeat (first | refine blk_drewN ?_ _ | refine blk_drew ?_ | refine blk_alloc ?_ _)); exact BK224.out) hb); have n1_ := Aside0.mk (below_step (by repeat (first | (with_reducible first | exact HB.out | apply below_alloc | apply pw_below_drewN | apply below_drew1 | refine below_set ?_ GE224.out) | exact HB.out)) hb); clear BK224; clear HB; have BK224 := n0_; have HB := n1_; clear n0_ n1_; (try clear hb); (try clear hb2); (try clear hk); (try clear hi); have hcz8_0 : w7.cell? ⟨gb224, 0, none⟩ = some (.int .i64 a0_0) := (blk_cell BK224.out 0).trans rfl; have hcz8_1 : w7.cell? ⟨gb224, 1, none⟩ = some (.int .i64 a0_1) := (blk_cell BK224.out 1).trans rfl; have hcz8_2 : w7.cell? ⟨gb224, 2, none⟩ = some (.int .i64 a0_2) := (blk_cell BK224.out 2).trans rfl; have hcz8_3 : w7.cell? ⟨gb224, 3, none⟩ = some (.int .i64 a0_3) := (blk_cell BK224.out 3).trans rfl; have hfz8_0 := blk_frozen BK224.out 0; have hfz8_1 := blk_frozen BK224.out 1; have hfz8_2 := blk_frozen BK224.out 2; have hfz8_3 := blk_frozen BK224.out 3) | ((with_reducible refine gate_callee (f := 52) rfl ?_); refine goesL_ (some 11) rfl rfl Tryd.func52 (by kernel_rfl) rfl #[.int .i64 a0_0] rfl (by (try simp only [List.map_toArray, List.map_cons, List.map_nil]); first | done | rfl | (simp only [List.length_drop, List.length_take]; rfl)) ?_; (with_reducible refine (impl_OpName.calls a0_0 t226 _ A4.out).mono ?_); rintro e w9 ⟨rfl, hb⟩; refine ⟨_, rfl, ?_⟩; have n0_ := Aside0.mk (blk_below (g := gb224) (o := .cells #[.int .i64 a0_0, .int .i64 a0_1, .int .i64 a0_2, .int .i64 a0_3] 31 (0, 0)) (by (with_reducible repeat (first | refine blk_drewN ?_ _ | refine blk_drew ?_ | refine blk_alloc ?_ _)); exact BK224.out) hb); have n1_ := Aside0.mk (below_step (by repeat (first | (with_reducible first | exact HB.out | apply below_alloc | apply pw_below_drewN | apply below_drew1 | refine below_set ?_ GE224.out) | exact HB.out)) hb); clear BK224; clear HB; have BK224 := n0_; have HB := n1_; clear n0_ n1_; (try clear hb); (try clear hb2); (try clear hk); (try clear hi); have hcz10_0 : w9.cell? ⟨gb224, 0, none⟩ = some (.int .i64 a0_0) := (blk_cell BK224.out 0).trans rfl; have hcz10_1 : w9.cell? ⟨gb224, 1, none⟩ = some (.int .i64 a0_1) := (blk_cell BK224.out 1).trans rfl; have hcz10_2 : w9.cell? ⟨gb224, 2, none⟩ = some (.int .i64 a0_2) := (blk_cell BK224.out 2).trans rfl; have hcz10_3 : w9.cell? ⟨gb224, 3, none⟩ = some (.int .i64 a0_3) := (blk_cell BK224.out 3).trans rfl; have hfz10_0 := blk_frozen BK224.out 0; have hfz10_1 := blk_frozen BK224.out 1; have hfz10_2 := blk_frozen BK224.out 2; have hfz10_3 := blk_frozen BK224.out 3) | ((with_reducible refine gate_dst (N := 18) rfl ?_); refine Kd.R_lit (Kd.int .i64) _ 3 ?hg (N := 18) ?hd (xs := ([a0_1, a0_2, a0_3] : List Int)) (inner := [.int .i64 a0_1, .int .i64 a0_2, .int .i64 a0_3]) (ok := fun _ => True) (okp := fun _ => True) ?hr ?hp (fun _ hk => hk) trivial (Below.refl _ _) (Nat.le_refl _) (by simp) ?_; (case hd => rfl); (case hg => rfl); (case hr => first | (go_simp; done) | (go_simp; rfl)); (case hp => exact (Reps.one (show Kd.M (Kd.int .i64) _ _ _ a0_1 [.int .i64 a0_1] from rfl) (Reps.one (show Kd.M (Kd.int .i64) _ _ _ a0_2 [.int .i64 a0_2] from rfl) (Reps.one (show Kd.M (Kd.int .i64) _ _ _ a0_3 [.int .i64 a0_3] from rfl) (Reps.none _ _))))); intro v228 w11 ho12 hb hg_ hnew_; clear hg_ hnew_; (first | rw [← Ny227.out] at ho12 | (simp only [Int.reduceToNat] at ho12; rw [← Ny227.out] at ho12)); have n0_ := Aside0.mk (Kd.R_lower ho12 (below_size (by repeat (first | (with_reducible first | exact HB.out | apply below_alloc | apply pw_below_drewN | apply below_drew1 | refine below_set ?_ GE224.out) | exact HB.out)))); have n1_ := Aside0.mk (blk_below (g := gb224) (o := .cells #[.int .i64 a0_0, .int .i64 a0_1, .int .i64 a0_2, .int .i64 a0_3] 31 (0, 0)) (by (with_reducible repeat (first | refine blk_drewN ?_ _ | refine blk_drew ?_ | refine blk_alloc ?_ _)); exact BK224.out) hb); have n2_ := Aside0.mk (below_step (by repeat (first | (with_reducible first | exact HB.out | apply below_alloc | apply pw_below_drewN | apply below_drew1 | refine below_set ?_ GE224.out) | exact HB.out)) hb); clear BK224; clear HB; have HO229 := n0_; have BK224 := n1_; have HB := n2_; clear n0_ n1_ n2_; clear hb ho12; obtain ⟨Ao13, co13, eo13⟩ := Kd.R_slice HO229.out; subst eo13))
    go_loopg [3, 20] k (fun kq v3 v20 w' => ∃ (x3_1 : ByteArray) (x20_1 : Int), v3 = .string x3_1 ∧ v20 = .int .i64 x20_1 ∧ Aside0 (impl_FormatIns.l0 kq x3_1 y227 (y227.length : Int) x20_1 a0_0 a0_1 a0_2 a0_3 = some r) ∧ Aside0 (kq ≤ k) ∧ Aside0 (Kd.R (Kd.int .i64) 3 w' w.heap.size (fun _ => True) (.slice Ao13 y227.length co13) y227) ∧ Aside0 (w'.heap[gb224]? = some (.cells #[.int .i64 a0_0, .int .i64 a0_1, .int .i64 a0_2, .int .i64 a0_3] 31 (0, 0))) ∧ Aside0 (Below w.heap.size w w'))
    case atStart => exact ⟨(t226), (0), (by first | rfl | (simp; done) | (simp [*]; done)), (by first | rfl | (simp; done) | (simp [*]; done)), H', ⟨Nat.le_refl _⟩, ⟨by (with_reducible repeat (first | apply Kd.R_alloc | apply Kd.R_drewN | apply Kd.R_drew)); exact HO229.out⟩, ⟨by (with_reducible repeat (first | refine blk_drewN ?_ _ | refine blk_drew ?_ | refine blk_alloc ?_ _)); exact BK224.out⟩, ⟨by repeat (first | (with_reducible first | exact HB.out | apply below_alloc | apply pw_below_drewN | apply below_drew1 | refine below_set ?_ GE224.out) | exact HB.out)⟩⟩
    case round =>
      clear H'
      try clear c1
      try clear p2
      try clear c3
      try clear c5
      try clear hcz10_0
      try clear hcz10_1
      try clear hcz10_2
      try clear hcz10_3
      try clear hcz6_0
      try clear hcz6_1
      try clear hcz6_2
      try clear hcz6_3
      try clear hcz8_0
      try clear hcz8_1
      try clear hcz8_2
      try clear hcz8_3
      try clear hfz10_0
      try clear hfz10_1
      try clear hfz10_2
      try clear hfz10_3
      try clear hfz6_0
      try clear hfz6_1
      try clear hfz6_2
      try clear hfz6_3
      try clear hfz8_0
      try clear hfz8_1
      try clear hfz8_2
      try clear hfz8_3
      obtain ⟨x3_1, x20_1, rfl, rfl, HA, HK1, HO_18, BK224, HB⟩ := hrel
      cases gk with
      | zero => exact absurd HA.out (by simp [impl_FormatIns.l0])
      | succ k1 =>
        have H := HA.out
        clear HA
        simp only [impl_FormatIns.l0] at H
        by_cases c14 : x20_1 < (y227.length : Int)
        · rw [if_pos c14] at H
          have c14b0 : decide (x20_1 < (y227.length : Int)) = true := decide_eq_true c14
          clear c14
          by_cases c15 : 0 ≤ x20_1
          · rw [if_pos c15] at H
            have c15b0 : decide (0 ≤ x20_1) = true := decide_eq_true c15
            clear c15
            by_cases c16 : x20_1 < (y227.length : Int)
            · rw [if_pos c16] at H
              have c16b0 : decide (x20_1 < (y227.length : Int)) = true := decide_eq_true c16
              clear c16
              replace H := Option.bind_eq_some_iff.mp H
              obtain ⟨t231, A170, H⟩ := H
              replace H : (if x20_1 < (t231.size : Int) then (if (bt t231 x20_1) = 45 then (impl_FormatIns.l0 k1 x3_1 y227 (y227.length : Int) (wrap64 (x20_1 + 1)) a0_0 a0_1 a0_2 a0_3) else ((impl_FormatInt.f (rd y227 x20_1)).bind fun t232 => (if 1 + t232.size ≤ 9223372036854775807 then (if x3_1.size + ((⟨#[32]⟩ : ByteArray) ++ t232).size ≤ 9223372036854775807 then (impl_FormatIns.l0 k1 (x3_1 ++ ((⟨#[32]⟩ : ByteArray) ++ t232)) y227 (y227.length : Int) (wrap64 (x20_1 + 1)) a0_0 a0_1 a0_2 a0_3) else (none)) else (none)))) else (none)) = some r := H
              have A17 := Aside0.mk A170
              clear A170
              by_cases c18 : x20_1 < (t231.size : Int)
              · rw [if_pos c18] at H
                have c18b0 : decide (x20_1 < (t231.size : Int)) = true := decide_eq_true c18
                clear c18
                by_cases c20 : (bt t231 x20_1) = 45
                · rw [if_pos c20] at H
                  have c20b0 : ((bt t231 x20_1) == 45) = true := beq_iff_eq.mpr c20
                  have c20b1 : ((bt t231 x20_1) != 45) = false := bne_eq_false_iff_eq.mpr c20
                  clear c20
                  have H' := Aside0.mk H
                  clear H
                  have p230 : 0 ≤ (x20_1 : Int) := of_decide_eq_true (by first | (with_reducible assumption) | assumption)
                  have q230 : x20_1 < (y227.length : Int) := of_decide_eq_true (by first | (with_reducible assumption) | assumption)
                  obtain ⟨ad230, e230, hx230_0⟩ := Kd.at_int (Kd.R_reads' HO_18.out).2.2 x20_1 p230 q230
                  cases e230
                  replace p230 := eq_true p230
                  replace q230 := eq_true q230
                  have hcz21_0 : wr.cell? ⟨gb224, 0, none⟩ = some (.int .i64 a0_0) := (blk_cell BK224.out 0).trans rfl
                  have hcz21_1 : wr.cell? ⟨gb224, 1, none⟩ = some (.int .i64 a0_1) := (blk_cell BK224.out 1).trans rfl
                  have hcz21_2 : wr.cell? ⟨gb224, 2, none⟩ = some (.int .i64 a0_2) := (blk_cell BK224.out 2).trans rfl
                  have hcz21_3 : wr.cell? ⟨gb224, 3, none⟩ = some (.int .i64 a0_3) := (blk_cell BK224.out 3).trans rfl
                  have hfz21_0 := blk_frozen BK224.out 0
                  have hfz21_1 := blk_frozen BK224.out 1
                  have hfz21_2 := blk_frozen BK224.out 2
                  have hfz21_3 := blk_frozen BK224.out 3
                  go_wp2_with (first | ((with_reducible refine gate_callee (f := 53) rfl ?_); refine goesL_ (some 27) rfl rfl Tryd.func53 (by kernel_rfl) rfl #[.int .i64 a0_0] rfl (by (try simp only [List.map_toArray, List.map_cons, List.map_nil]); first | done | rfl | (simp only [List.length_drop, List.length_take]; rfl)) ?_; (with_reducible refine (impl_formOf.calls a0_0 t231 _ A17.out).mono ?_); rintro e w22 ⟨rfl, hb⟩; refine ⟨_, rfl, ?_⟩; have n0_ := Aside0.mk (Kd.R_below (by (with_reducible repeat (first | apply Kd.R_alloc | apply Kd.R_drewN | apply Kd.R_drew)); exact HO_18.out) hb); have n1_ := Aside0.mk (blk_below (g := gb224) (o := .cells #[.int .i64 a0_0, .int .i64 a0_1, .int .i64 a0_2, .int .i64 a0_3] 31 (0, 0)) (by (with_reducible repeat (first | refine blk_drewN ?_ _ | refine blk_drew ?_ | refine blk_alloc ?_ _)); exact BK224.out) hb); have n2_ := Aside0.mk (below_step (by repeat (first | (with_reducible first | exact HB.out | apply below_alloc | apply pw_below_drewN | apply below_drew1 | refine below_set ?_ GE224.out) | exact HB.out)) hb); clear HO_18; clear BK224; clear HB; have HO_18 := n0_; have BK224 := n1_; have HB := n2_; clear n0_ n1_ n2_; (try clear hb); (try clear hb2); (try clear hk); (try clear hi); have p19 : 0 ≤ (x20_1 : Int) := of_decide_eq_true (by first | (with_reducible assumption) | assumption); have q19 : x20_1 < (t231.size : Int) := of_decide_eq_true (by first | (with_reducible assumption) | assumption); have hx19 := bt_at t231 x20_1; replace p19 := eq_true p19; replace q19 := eq_true q19))
                  go_roundg k1
                  case measure => have := HK1.out; omega
                  case rel => exact ⟨(x3_1), (wrap64 (x20_1 + 1)), (by first | rfl | (simp; done) | (simp [*]; done)), (by first | rfl | (simp; done) | (simp [*]; done)), H', ⟨by have := HK1.out; omega⟩, ⟨by (with_reducible repeat (first | apply Kd.R_alloc | apply Kd.R_drewN | apply Kd.R_drew)); exact HO_18.out⟩, ⟨by (with_reducible repeat (first | refine blk_drewN ?_ _ | refine blk_drew ?_ | refine blk_alloc ?_ _)); exact BK224.out⟩, ⟨by repeat (first | (with_reducible first | exact HB.out | apply below_alloc | apply pw_below_drewN | apply below_drew1 | refine below_set ?_ GE224.out) | exact HB.out)⟩⟩
                · rw [if_neg c20] at H
                  have c20b0 : ((bt t231 x20_1) == 45) = false := beq_eq_false_iff_ne.mpr c20
                  have c20b1 : ((bt t231 x20_1) != 45) = true := bne_iff_ne.mpr c20
                  replace H := Option.bind_eq_some_iff.mp H
                  obtain ⟨t232, A230, H⟩ := H
                  replace H : (if 1 + t232.size ≤ 9223372036854775807 then (if x3_1.size + ((⟨#[32]⟩ : ByteArray) ++ t232).size ≤ 9223372036854775807 then (impl_FormatIns.l0 k1 (x3_1 ++ ((⟨#[32]⟩ : ByteArray) ++ t232)) y227 (y227.length : Int) (wrap64 (x20_1 + 1)) a0_0 a0_1 a0_2 a0_3) else (none)) else (none)) = some r := H
                  have A23 := Aside0.mk A230
                  clear A230
                  by_cases c24 : 1 + t232.size ≤ 9223372036854775807
                  · rw [if_pos c24] at H
                    have c24b0 := eq_true c24
                    have c24b1 : decide (1 + t232.size ≤ 9223372036854775807) = true := decide_eq_true c24
                    try have c24b2 : (9223372036854775807 < 1 + t232.size) = False := eq_false (Nat.not_lt.2 c24)
                    by_cases c25 : x3_1.size + ((⟨#[32]⟩ : ByteArray) ++ t232).size ≤ 9223372036854775807
                    · rw [if_pos c25] at H
                      have c25b0 := eq_true c25
                      have c25b1 : decide (x3_1.size + ((⟨#[32]⟩ : ByteArray) ++ t232).size ≤ 9223372036854775807) = true := decide_eq_true c25
                      try have c25b2 : (9223372036854775807 < x3_1.size + ((⟨#[32]⟩ : ByteArray) ++ t232).size) = False := eq_false (Nat.not_lt.2 c25)
                      have c25b5 : x3_1.size + (1 + t232.size) ≤ 9223372036854775807 := by have hs_ := c25; simp only [ByteArray.size_append] at hs_; exact hs_
                      have c25b6 := eq_true c25b5
                      have c25b7 : decide (x3_1.size + (1 + t232.size) ≤ 9223372036854775807) = true := decide_eq_true c25b5
                      have c25b8 : (9223372036854775807 < x3_1.size + (1 + t232.size)) = False := eq_false (Nat.not_lt.2 c25b5)
                      have H' := Aside0.mk H
                      clear H
                      have p230 : 0 ≤ (x20_1 : Int) := of_decide_eq_true (by first | (with_reducible assumption) | assumption)
                      have q230 : x20_1 < (y227.length : Int) := of_decide_eq_true (by first | (with_reducible assumption) | assumption)
                      obtain ⟨ad230, e230, hx230_0⟩ := Kd.at_int (Kd.R_reads' HO_18.out).2.2 x20_1 p230 q230
                      cases e230
                      replace p230 := eq_true p230
                      replace q230 := eq_true q230
                      have hcz26_0 : wr.cell? ⟨gb224, 0, none⟩ = some (.int .i64 a0_0) := (blk_cell BK224.out 0).trans rfl
                      have hcz26_1 : wr.cell? ⟨gb224, 1, none⟩ = some (.int .i64 a0_1) := (blk_cell BK224.out 1).trans rfl
                      have hcz26_2 : wr.cell? ⟨gb224, 2, none⟩ = some (.int .i64 a0_2) := (blk_cell BK224.out 2).trans rfl
                      have hcz26_3 : wr.cell? ⟨gb224, 3, none⟩ = some (.int .i64 a0_3) := (blk_cell BK224.out 3).trans rfl
                      have hfz26_0 := blk_frozen BK224.out 0
                      have hfz26_1 := blk_frozen BK224.out 1
                      have hfz26_2 := blk_frozen BK224.out 2
                      have hfz26_3 := blk_frozen BK224.out 3
                      go_wp2_with (first | ((with_reducible refine gate_callee (f := 53) rfl ?_); refine goesL_ (some 27) rfl rfl Tryd.func53 (by kernel_rfl) rfl #[.int .i64 a0_0] rfl (by (try simp only [List.map_toArray, List.map_cons, List.map_nil]); first | done | rfl | (simp only [List.length_drop, List.length_take]; rfl)) ?_; (with_reducible refine (impl_formOf.calls a0_0 t231 _ A17.out).mono ?_); rintro e w27 ⟨rfl, hb⟩; refine ⟨_, rfl, ?_⟩; have n0_ := Aside0.mk (Kd.R_below (by (with_reducible repeat (first | apply Kd.R_alloc | apply Kd.R_drewN | apply Kd.R_drew)); exact HO_18.out) hb); have n1_ := Aside0.mk (blk_below (g := gb224) (o := .cells #[.int .i64 a0_0, .int .i64 a0_1, .int .i64 a0_2, .int .i64 a0_3] 31 (0, 0)) (by (with_reducible repeat (first | refine blk_drewN ?_ _ | refine blk_drew ?_ | refine blk_alloc ?_ _)); exact BK224.out) hb); have n2_ := Aside0.mk (below_step (by repeat (first | (with_reducible first | exact HB.out | apply below_alloc | apply pw_below_drewN | apply below_drew1 | refine below_set ?_ GE224.out) | exact HB.out)) hb); clear HO_18; clear BK224; clear HB; have HO_18 := n0_; have BK224 := n1_; have HB := n2_; clear n0_ n1_ n2_; (try clear hb); (try clear hb2); (try clear hk); (try clear hi); have p19 : 0 ≤ (x20_1 : Int) := of_decide_eq_true (by first | (with_reducible assumption) | assumption); have q19 : x20_1 < (t231.size : Int) := of_decide_eq_true (by first | (with_reducible assumption) | assumption); have hx19 := bt_at t231 x20_1; replace p19 := eq_true p19; replace q19 := eq_true q19) | ((with_reducible refine gate_callee (f := 28) rfl ?_); refine goesL_ (some 33) rfl rfl Tryd.func28 (by kernel_rfl) rfl #[.int .i64 (rd y227 x20_1)] rfl (by (try simp only [List.map_toArray, List.map_cons, List.map_nil]); first | done | rfl | (simp only [List.length_drop, List.length_take]; rfl)) ?_; (with_reducible refine (impl_FormatInt.calls (rd y227 x20_1) t232 _ A23.out ?sideTP).mono ?_); (case sideTP => exact Tabs.TP.stays HTTP.out (by repeat (first | (with_reducible first | exact HB.out | apply below_alloc | apply pw_below_drewN | apply below_drew1 | refine below_set ?_ GE224.out) | exact HB.out))); rintro e w28 ⟨rfl, hb⟩; refine ⟨_, rfl, ?_⟩; have n0_ := Aside0.mk (Kd.R_below (by (with_reducible repeat (first | apply Kd.R_alloc | apply Kd.R_drewN | apply Kd.R_drew)); exact HO_18.out) hb); have n1_ := Aside0.mk (blk_below (g := gb224) (o := .cells #[.int .i64 a0_0, .int .i64 a0_1, .int .i64 a0_2, .int .i64 a0_3] 31 (0, 0)) (by (with_reducible repeat (first | refine blk_drewN ?_ _ | refine blk_drew ?_ | refine blk_alloc ?_ _)); exact BK224.out) hb); have n2_ := Aside0.mk (below_step (by repeat (first | (with_reducible first | exact HB.out | apply below_alloc | apply pw_below_drewN | apply below_drew1 | refine below_set ?_ GE224.out) | exact HB.out)) hb); clear HO_18; clear BK224; clear HB; have HO_18 := n0_; have BK224 := n1_; have HB := n2_; clear n0_ n1_ n2_; (try clear hb); (try clear hb2); (try clear hk); (try clear hi)))
                      go_roundg k1
                      case measure => have := HK1.out; omega
                      case rel => exact ⟨(x3_1 ++ ((⟨#[32]⟩ : ByteArray) ++ t232)), (wrap64 (x20_1 + 1)), (by first | rfl | (simp; done) | (simp [*]; done)), (by first | rfl | (simp; done) | (simp [*]; done)), H', ⟨by have := HK1.out; omega⟩, ⟨by (with_reducible repeat (first | apply Kd.R_alloc | apply Kd.R_drewN | apply Kd.R_drew)); exact HO_18.out⟩, ⟨by (with_reducible repeat (first | refine blk_drewN ?_ _ | refine blk_drew ?_ | refine blk_alloc ?_ _)); exact BK224.out⟩, ⟨by repeat (first | (with_reducible first | exact HB.out | apply below_alloc | apply pw_below_drewN | apply below_drew1 | refine below_set ?_ GE224.out) | exact HB.out)⟩⟩
                    · rw [if_neg c25] at H
                      exact absurd H (by simp)
                  · rw [if_neg c24] at H
                    exact absurd H (by simp)
              · rw [if_neg c18] at H
                exact absurd H (by simp)
            · rw [if_neg c16] at H
              exact absurd H (by simp)
          · rw [if_neg c15] at H
            exact absurd H (by simp)
        · rw [if_neg c14] at H
          have c14b0 : decide (x20_1 < (y227.length : Int)) = false := decide_eq_false c14
          clear c14
          obtain rfl := Option.some.inj H
          go_wp2
          go_ret
          exact ⟨by first | rfl | (simp [errW_none, errW_some] <;> rfl) | (simp [*, errW_none, errW_some] <;> rfl) | (simp [errW_none, errW_some]; exact MakeAid.isEmpty_ne _), by repeat (first | (with_reducible first | exact HB.out | apply below_alloc | apply pw_below_drewN | apply below_drew1 | refine below_set ?_ GE224.out) | exact HB.out)⟩
  · replace c3 := Bool.eq_false_iff.mpr c3
    subst c3
    have H1 : (some (⟨#[]⟩ : ByteArray)) = some r := by rw [if_neg (show ¬ (false = true) by decide)] at H; exact H
    clear H
    have H := H1
    clear H1
    obtain rfl := Option.some.inj H
    go_enter Tryd.func19, Tryd.ntmps19
    go_wp2_with (first | ((with_reducible refine gate_dst (N := 1) rfl ?_); refine box_event ?hg (N := 1) ?hd (cs := #[.int .i64 a0_0, .int .i64 a0_1, .int .i64 a0_2, .int .i64 a0_3]) (t := 31) ?hr ?_; (case hd => rfl); (case hg => rfl); (case hr => first | (go_simp; done) | (go_simp; rfl)); intro gb224 hg w29 hbox hb; have n0_ := Aside0.mk (below_step (by repeat (first | (with_reducible first | exact HB.out | apply below_alloc | apply pw_below_drewN | apply below_drew1) | exact HB.out)) hb); have n1_ := Aside0.mk (hbox); have n2_ := Aside0.mk ((by rw [hg]; exact (below_size (by repeat (first | (with_reducible first | exact HB.out | apply below_alloc | apply pw_below_drewN | apply below_drew1) | exact HB.out))) : w.heap.size ≤ gb224)); have n3_ := Aside0.mk ((by rw [hg]; exact (below_size (by repeat (first | (with_reducible first | exact HB.out | apply below_alloc | apply pw_below_drewN | apply below_drew1) | exact HB.out))) : w.heap.size ≤ gb224)); clear HB; have HB := n0_; have BK224 := n1_; have GW224 := n2_; have GE224 := n3_; clear n0_ n1_ n2_ n3_; clear hb hbox hg; have hcz30_0 : w29.cell? ⟨gb224, 0, none⟩ = some (.int .i64 a0_0) := (blk_cell BK224.out 0).trans rfl; have hcz30_1 : w29.cell? ⟨gb224, 1, none⟩ = some (.int .i64 a0_1) := (blk_cell BK224.out 1).trans rfl; have hcz30_2 : w29.cell? ⟨gb224, 2, none⟩ = some (.int .i64 a0_2) := (blk_cell BK224.out 2).trans rfl; have hcz30_3 : w29.cell? ⟨gb224, 3, none⟩ = some (.int .i64 a0_3) := (blk_cell BK224.out 3).trans rfl; have hfz30_0 := blk_frozen BK224.out 0; have hfz30_1 := blk_frozen BK224.out 1; have hfz30_2 := blk_frozen BK224.out 2; have hfz30_3 := blk_frozen BK224.out 3) | ((with_reducible refine gate_callee (f := 51) rfl ?_); refine goesL_ (some 7) rfl rfl Tryd.func51 (by kernel_rfl) rfl #[.agg #[.int .i64 a0_0, .int .i64 a0_1, .int .i64 a0_2, .int .i64 a0_3], .int .i64 32] rfl (by (try simp only [List.map_toArray, List.map_cons, List.map_nil]); first | done | rfl | (simp only [List.length_drop, List.length_take]; rfl)) ?_; (with_reducible refine (impl_InsOk.calls a0_0 a0_1 a0_2 a0_3 32 false _ A2.out).mono ?_); rintro e w31 ⟨rfl, hb⟩; refine ⟨_, rfl, ?_⟩; have n0_ := Aside0.mk (blk_below (g := gb224) (o := .cells #[.int .i64 a0_0, .int .i64 a0_1, .int .i64 a0_2, .int .i64 a0_3] 31 (0, 0)) (by (with_reducible repeat (first | refine blk_drewN ?_ _ | refine blk_drew ?_ | refine blk_alloc ?_ _)); exact BK224.out) hb); have n1_ := Aside0.mk (below_step (by repeat (first | (with_reducible first | exact HB.out | apply below_alloc | apply pw_below_drewN | apply below_drew1 | refine below_set ?_ GE224.out) | exact HB.out)) hb); clear BK224; clear HB; have BK224 := n0_; have HB := n1_; clear n0_ n1_; (try clear hb); (try clear hb2); (try clear hk); (try clear hi)))
    go_ret
    exact ⟨by first | rfl | (simp [errW_none, errW_some] <;> rfl) | (simp [*, errW_none, errW_some] <;> rfl) | (simp [errW_none, errW_some]; exact MakeAid.isEmpty_ne _), by repeat (first | (with_reducible first | exact HB.out | apply below_alloc | apply pw_below_drewN | apply below_drew1 | refine below_set ?_ GE224.out) | exact HB.out)⟩

/-! ### impl_ParseUint: function 31 -/
def impl_ParseUint.v (l : List UInt8) : Int × Bool := match Lib.atoiAll l with
  | .ok v => if 0 ≤ v ∧ v ≤ 1000000000 then (if Lib.itoa v = l then (v, true) else (0, false)) else (0, false)
  | _ => (0, false)
def impl_ParseUint.f (a0 : ByteArray) : Option (Int × Bool) := if a0.size ≤ 281474976710656 then some (impl_ParseUint.v a0.data.toList) else none
set_option maxHeartbeats 8000000 in
set_option maxRecDepth 100000 in
theorem impl_ParseUint.calls (a0 : ByteArray) (r1 : Int) (r2 : Bool) (w : World) (h : impl_ParseUint.f a0 = some (r1, r2)) (HTE : Tabs.TE w) (HTP : Tabs.TP w) :
    Calls Tryd.prog 31 #[.string a0] w fun e w' => e = .returned (.tuple #[.int .i64 r1, .bool r2]) ∧ Below w.heap.size w w' := by
  unfold impl_ParseUint.f at h
  by_cases hsz : a0.size ≤ 281474976710656
  · rw [if_pos hsz] at h
    have hv := Option.some.inj h
    clear h
    unfold impl_ParseUint.v at hv
    have bad : ∀ (x : Int) (T N : Nat), (Calls Tryd.prog 62 #[.string a0] w fun e w' => ∃ N, e = .returned (.tuple #[.int .i64 x, .iface T (.pointer (some ⟨N, 0, none⟩))]) ∧ Below w.heap.size w w') →
        Calls Tryd.prog 31 #[.string a0] w fun e w' => e = .returned (.tuple #[.int .i64 0, .bool false]) ∧ Below w.heap.size w w' := by
      intro x T N hc
      clear hv HTE HTP hsz
      go_enter Tryd.func31, Tryd.ntmps31
      go_wp2_with (go_at_call 62; refine hc.mono ?_; rintro e w' ⟨N, rfl, hb'⟩)
      go_ret2
      exact ⟨rfl, hb'⟩
    obtain ⟨⟨t1, p1, hS⟩, ⟨t2, p2, hR⟩⟩ := HTE
    cases ha : Lib.atoiAll a0.data.toList with
    | range =>
      rw [ha] at hv
      obtain ⟨rfl, rfl⟩ : (0 : Int) = r1 ∧ false = r2 := by simpa using hv
      exact bad _ _ 0 ((Tryd.strconv_Atoi_range_var a0 hsz ha t2 p2 w hR).mono fun e w' ⟨N, he, _, _, hb⟩ => ⟨N, he, hb⟩)
    | ok v =>
      rw [ha] at hv
      simp only at hv
      have hc : Calls Tryd.prog 62 #[.string a0] w fun e w' => e = .returned (.tuple #[.int .i64 v, .nilIface]) ∧ Below w.heap.size w w' :=
        (Tryd.strconv_Atoi_ok a0 (by omega) v ha w).mono fun e w' ⟨he, hw⟩ => ⟨he, by
          rcases hw with rfl | ⟨t, rfl⟩
          · exact Below.refl _ _
          · exact Lib.bytesWorld_below _ _ _⟩
      have hin : ∀ W, Below w.heap.size w W → Calls Tryd.prog 63 #[.int .i64 v, .int .i64 0, .int .i64 1000000000] W fun e w' => e = .returned (.bool (decide (0 ≤ v ∧ v ≤ 1000000000))) ∧ Below w.heap.size w w' := fun W hb =>
        (impl_within.calls v 0 1000000000 (decide (0 ≤ v ∧ v ≤ 1000000000)) W (by unfold impl_within.f; by_cases h0 : 0 ≤ v <;> simp [h0])).mono fun e w' ⟨he, hd⟩ => ⟨he, below_then hb hb.size hd.below⟩
      by_cases h1 : 0 ≤ v ∧ v ≤ 1000000000
      · rw [if_pos h1] at hv
        rw [decide_eq_true h1] at hin
        have hfm : ∀ W, Below w.heap.size w W → Calls Tryd.prog 28 #[.int .i64 v] W fun e w' => ∃ s : ByteArray, s.data.toList = Lib.itoa v ∧ e = .returned (.string s) ∧ Below w.heap.size w w' := fun W hb =>
          (impl_FormatInt.calls v ⟨(Lib.itoa v).toArray⟩ W (by unfold impl_FormatInt.f strconv_Itoa.f; rw [if_pos ⟨by omega, by omega⟩]; rfl) (HTP.stays hb)).mono fun e w' ⟨he, hd⟩ => ⟨_, rfl, he, below_then hb hb.size hd⟩
        by_cases h2 : Lib.itoa v = a0.data.toList
        · rw [if_pos h2] at hv
          obtain ⟨rfl, rfl⟩ : v = r1 ∧ true = r2 := by simpa using hv
          have hq : ∀ s : ByteArray, s.data.toList = Lib.itoa v → s = a0 := fun s hs => by
            have : s.data.toList = a0.data.toList := hs.trans h2
            cases s; cases a0; congr; simpa using this
          clear hv bad hS hR HTP ha h1 h2 hsz
          go_enter Tryd.func31, Tryd.ntmps31
          go_wp2_with (first | (go_at_call 62; refine hc.mono ?_; rintro e w1 ⟨rfl, hb1⟩) | (go_at_call 63; refine (hin _ (by assumption)).mono ?_; rintro e w2 ⟨rfl, hb2⟩) | (go_at_call 28; refine (hfm _ (by assumption)).mono ?_; rintro e w3 ⟨s, hs, rfl, hb3⟩; obtain rfl := hq s hs; clear hs))
          go_ret2
          exact ⟨rfl, hb3⟩
        · rw [if_neg h2] at hv
          obtain ⟨rfl, rfl⟩ : (0 : Int) = r1 ∧ false = r2 := by simpa using hv
          have hq : ∀ s : ByteArray, s.data.toList = Lib.itoa v → (s.toList == a0.toList) = false := fun s hs => by
            rw [ByteArray.toList_eq, ByteArray.toList_eq, hs]
            simpa using h2
          clear hv bad hS hR HTP ha h1 h2 hsz
          go_enter Tryd.func31, Tryd.ntmps31
          go_wp2_with (first | (go_at_call 62; refine hc.mono ?_; rintro e w1 ⟨rfl, hb1⟩) | (go_at_call 63; refine (hin _ (by assumption)).mono ?_; rintro e w2 ⟨rfl, hb2⟩) | (go_at_call 28; refine (hfm _ (by assumption)).mono ?_; rintro e w3 ⟨s, hs, rfl, hb3⟩; have hne := hq s hs; have hne2 : (!(s.toList == a0.toList)) = true := (by rw [hne]; rfl); clear hs))
          go_ret2
          exact ⟨rfl, hb3⟩
      · rw [if_neg h1] at hv
        obtain ⟨rfl, rfl⟩ : (0 : Int) = r1 ∧ false = r2 := by simpa using hv
        rw [decide_eq_false h1] at hin
        clear hv bad hS hR HTP ha h1 hsz
        go_enter Tryd.func31, Tryd.ntmps31
        go_wp2_with (first | (go_at_call 62; refine hc.mono ?_; rintro e w1 ⟨rfl, hb1⟩) | (go_at_call 63; refine (hin _ (by assumption)).mono ?_; rintro e w2 ⟨rfl, hb2⟩))
        go_ret2
        exact ⟨rfl, hb2⟩
    | _ =>
      rw [ha] at hv
      obtain ⟨rfl, rfl⟩ : (0 : Int) = r1 ∧ false = r2 := by simpa using hv
      exact bad 0 _ 0 ((Tryd.strconv_Atoi_syntax_var a0 hsz ha t1 p1 w hS).mono fun e w' ⟨N, he, _, _, hb⟩ => ⟨N, he, hb⟩)
  · rw [if_neg hsz] at h
    cases h

/-! ### impl_ParseIns: function 34 -/
def impl_ParseIns.put (t : Int × Int × Int) (i : Nat) (x : Int) : Int × Int × Int := if i = 0 then (x, t.2.1, t.2.2) else if i = 1 then (t.1, x, t.2.2) else (t.1, t.2.1, x)
def impl_ParseIns.go (ws : List ByteArray) : List UInt8 → Nat → Nat → Int × Int × Int → Option (Int × Int × Int)
  | [], _, _, t => some t
  | c :: cs, i, j, t => if c.toNat ≠ 45 ∧ j < ws.length then (impl_ParseUint.f (ws.getD j ByteArray.empty)).bind fun r => impl_ParseIns.go ws cs (i + 1) (j + 1) (impl_ParseIns.put t i r.1) else impl_ParseIns.go ws cs (i + 1) j t
def impl_ParseIns.f (k : Nat) (a0 : ByteArray) : Option (Int × Int × Int × Int × Bool) := (impl_SplitFields.f a0).bind fun s =>
  if s.2 = true then (if s.1.length = 0 then some (0, 0, 0, 0, false) else (impl_opNames.f).bind fun nm => (impl_formOf.f (Lib.idxOfS nm (s.1.getD 0 ByteArray.empty))).bind fun fm =>
    if fm.size ≤ 3 ∧ nm.length ≤ 140737488355328 ∧ s.1.length ≤ 140737488355328 ∧ (Lib.join (s.1.map (·.data.toList)) [32]).length ≤ 140737488355328 then (impl_ParseIns.go s.1 fm.data.toList 0 1 (0, 0, 0)).bind fun t =>
      (impl_FormatIns.f k (Lib.idxOfS nm (s.1.getD 0 ByteArray.empty)) t.1 t.2.1 t.2.2).bind fun x =>
        if x.toList = [] then some (0, 0, 0, 0, false) else if x.toList = Lib.join (s.1.map (·.data.toList)) [32] then some (Lib.idxOfS nm (s.1.getD 0 ByteArray.empty), t.1, t.2.1, t.2.2, true) else some (0, 0, 0, 0, false)
    else none)
  else some (0, 0, 0, 0, false)
theorem impl_ParseIns.mono : ∀ a0 k, LeO (impl_ParseIns.f k a0) (impl_ParseIns.f (k + 1) a0) := by
  intro a0 k
  unfold impl_ParseIns.f
  refine LeO.bind (LeO.refl _) fun s => ?_
  refine LeO.ite (LeO.ite (LeO.refl _) ?_) (LeO.refl _)
  refine LeO.bind (LeO.refl _) fun nm => LeO.bind (LeO.refl _) fun fm => LeO.ite ?_ (LeO.refl _)
  exact LeO.bind (LeO.refl _) fun t => LeO.bind (impl_FormatIns.mono _ _ _ _ _) fun x => LeO.refl _
theorem impl_ParseIns.row {W : World} {base : Nat} {ok : Nat → Prop} {v : Value} {xs : List ByteArray} (hR : Kd.R Kd.string 9 W base ok v xs) (hne : 0 < xs.length) :
    ∃ g c, v = .slice (some ⟨g, 0, none⟩) xs.length c ∧ base ≤ g ∧ g < W.heap.size ∧ xs.length ≤ c ∧ ∀ j, j < xs.length → W.cell? ⟨g, j, none⟩ = some (.string (xs.getD j ByteArray.empty)) := by
  have hown := Kd.own_of_R (enc := Value.string) (h1 := fun _ => rfl) hR
  rcases hown.2 with ⟨rfl, h0⟩ | ⟨g, cap, cur, rfl, hbase, hb, h1, h2, h3, h4⟩
  · omega
  · refine ⟨g, cap, rfl, hbase, blk_lt hb, h1, fun j hj => ?_⟩
    have := (Kd.R_cell (enc := Value.string) (h1 := fun _ => rfl) ByteArray.empty hR (j : Int) (by omega) (by omega)).1
    rw [Int.toNat_natCast] at this
    exact this
set_option maxHeartbeats 8000000 in
set_option maxRecDepth 100000 in
theorem impl_ParseIns.none_ (a0 : ByteArray) (ws : List ByteArray) (ok : Bool) (w : World) (hs : impl_SplitFields.f a0 = some (ws, ok)) (hno : ok = false ∨ ws.length = 0) (HTA : Tabs.TA w) :
    Calls Tryd.prog 34 #[.string a0] w fun e w' => e = .returned (.tuple #[.agg #[.int .i64 0, .int .i64 0, .int .i64 0, .int .i64 0], .bool false]) ∧ Below w.heap.size w w' := by
  have hsp : ∀ W, Below w.heap.size w W → Calls Tryd.prog 13 #[.string a0] W fun e w' => ∃ A c, e = .returned (.tuple #[.slice A ws.length c, .bool ok]) ∧ Below W.heap.size W w' := fun W hb =>
    (impl_SplitFields.calls a0 ws ok W hs (HTA.stays hb)).mono fun e w' ⟨v, he, hR, hb2⟩ => by
      obtain ⟨A, c, hv⟩ := Kd.R_slice hR
      exact ⟨A, c, by rw [he, hv], hb2⟩
  have HB := Aside0.mk (Below.refl w.heap.size w)
  have hu31 := Tryd.underlying31
  have fin : ∀ w1 : World, Below (w.alloc (.cells #[.int .i64 0, .int .i64 0, .int .i64 0, .int .i64 0] 31 (0, 0))).heap.size (w.alloc (.cells #[.int .i64 0, .int .i64 0, .int .i64 0, .int .i64 0] 31 (0, 0))) w1 → Aside0 (w1.heap[w.heap.size]? = some (.cells #[.int .i64 0, .int .i64 0, .int .i64 0, .int .i64 0] 31 (0, 0))) ∧ Aside0 (Below w.heap.size w w1) := fun w1 hb =>
    ⟨⟨blk_below (blk_new _ _) hb⟩, ⟨below_then (below_alloc (Below.refl _ _) _) (by simp) hb⟩⟩
  generalize ws.length = n at hsp hno
  clear hs HTA
  have go_on : ∀ (A : Option Addr) (c : Nat) (w1 : World), Aside0 (w1.heap[w.heap.size]? = some (.cells #[.int .i64 0, .int .i64 0, .int .i64 0, .int .i64 0] 31 (0, 0))) → True := fun _ _ _ _ => trivial
  clear go_on
  cases ok with
  | false =>
    clear hno
    go_enter Tryd.func34, Tryd.ntmps34
    go_upto_region 3 with (go_at_call 13; refine (hsp _ (below_alloc HB.out _)).mono ?_; rintro e w1 ⟨A, c, rfl, hb1⟩; obtain ⟨BK, HB1⟩ := fin _ hb1; clear hb1 HB)
    have hcz0 : w1.cell? ⟨w.heap.size, 0, none⟩ = some (.int .i64 0) := (blk_cell BK.out 0).trans rfl
    have hcz1 : w1.cell? ⟨w.heap.size, 1, none⟩ = some (.int .i64 0) := (blk_cell BK.out 1).trans rfl
    have hcz2 : w1.cell? ⟨w.heap.size, 2, none⟩ = some (.int .i64 0) := (blk_cell BK.out 2).trans rfl
    have hcz3 : w1.cell? ⟨w.heap.size, 3, none⟩ = some (.int .i64 0) := (blk_cell BK.out 3).trans rfl
    have hfz0 := blk_frozen BK.out 0
    have hfz1 := blk_frozen BK.out 1
    have hfz2 := blk_frozen BK.out 2
    have hfz3 := blk_frozen BK.out 3
    go_wp2
    refine bodyPost_ret (results_ct rfl _ _ w.heap.size 31 #[.int .i64 0, .int .i64 0, .int .i64 0, .int .i64 0] (0, 0) _ rfl (by (with_reducible repeat (first | refine blk_drewN ?_ _ | refine blk_drew ?_ | refine blk_alloc ?_ _)); refine blk_put (cs := #[.int .i64 0, .int .i64 0, .int .i64 0, .int .i64 0]) ?_ 3 _ rfl; (with_reducible repeat (first | refine blk_drewN ?_ _ | refine blk_drew ?_ | refine blk_alloc ?_ _)); refine blk_put (cs := #[.int .i64 0, .int .i64 0, .int .i64 0, .int .i64 0]) ?_ 2 _ rfl; (with_reducible repeat (first | refine blk_drewN ?_ _ | refine blk_drew ?_ | refine blk_alloc ?_ _)); refine blk_put (cs := #[.int .i64 0, .int .i64 0, .int .i64 0, .int .i64 0]) ?_ 1 _ rfl; (with_reducible repeat (first | refine blk_drewN ?_ _ | refine blk_drew ?_ | refine blk_alloc ?_ _)); refine blk_put (cs := #[.int .i64 0, .int .i64 0, .int .i64 0, .int .i64 0]) ?_ 0 _ rfl; (with_reducible repeat (first | refine blk_drewN ?_ _ | refine blk_drew ?_ | refine blk_alloc ?_ _)); exact BK.out) Tryd.underlying31 rfl (by kernel_rfl)) rfl ?_
    exact ⟨rfl, by repeat (first | (with_reducible first | exact HB1.out | apply below_alloc | apply pw_below_drewN | apply below_drew1 | refine below_set ?_ (Nat.le_refl _)) | exact HB1.out)⟩
  | true =>
    obtain rfl : n = 0 := by simpa using hno
    clear hno
    go_enter Tryd.func34, Tryd.ntmps34
    go_upto_region 3 with (go_at_call 13; refine (hsp _ (below_alloc HB.out _)).mono ?_; rintro e w1 ⟨A, c, rfl, hb1⟩; obtain ⟨BK, HB1⟩ := fin _ hb1; clear hb1 HB)
    have hcz0 : w1.cell? ⟨w.heap.size, 0, none⟩ = some (.int .i64 0) := (blk_cell BK.out 0).trans rfl
    have hcz1 : w1.cell? ⟨w.heap.size, 1, none⟩ = some (.int .i64 0) := (blk_cell BK.out 1).trans rfl
    have hcz2 : w1.cell? ⟨w.heap.size, 2, none⟩ = some (.int .i64 0) := (blk_cell BK.out 2).trans rfl
    have hcz3 : w1.cell? ⟨w.heap.size, 3, none⟩ = some (.int .i64 0) := (blk_cell BK.out 3).trans rfl
    have hfz0 := blk_frozen BK.out 0
    have hfz1 := blk_frozen BK.out 1
    have hfz2 := blk_frozen BK.out 2
    have hfz3 := blk_frozen BK.out 3
    go_wp2
    refine bodyPost_ret (results_ct rfl _ _ w.heap.size 31 #[.int .i64 0, .int .i64 0, .int .i64 0, .int .i64 0] (0, 0) _ rfl (by (with_reducible repeat (first | refine blk_drewN ?_ _ | refine blk_drew ?_ | refine blk_alloc ?_ _)); refine blk_put (cs := #[.int .i64 0, .int .i64 0, .int .i64 0, .int .i64 0]) ?_ 3 _ rfl; (with_reducible repeat (first | refine blk_drewN ?_ _ | refine blk_drew ?_ | refine blk_alloc ?_ _)); refine blk_put (cs := #[.int .i64 0, .int .i64 0, .int .i64 0, .int .i64 0]) ?_ 2 _ rfl; (with_reducible repeat (first | refine blk_drewN ?_ _ | refine blk_drew ?_ | refine blk_alloc ?_ _)); refine blk_put (cs := #[.int .i64 0, .int .i64 0, .int .i64 0, .int .i64 0]) ?_ 1 _ rfl; (with_reducible repeat (first | refine blk_drewN ?_ _ | refine blk_drew ?_ | refine blk_alloc ?_ _)); refine blk_put (cs := #[.int .i64 0, .int .i64 0, .int .i64 0, .int .i64 0]) ?_ 0 _ rfl; (with_reducible repeat (first | refine blk_drewN ?_ _ | refine blk_drew ?_ | refine blk_alloc ?_ _)); exact BK.out) Tryd.underlying31 rfl (by kernel_rfl)) rfl ?_
    exact ⟨rfl, by repeat (first | (with_reducible first | exact HB1.out | apply below_alloc | apply pw_below_drewN | apply below_drew1 | refine below_set ?_ (Nat.le_refl _)) | exact HB1.out)⟩
-- MAIN
/-- The words of a line, in the memory that bears them. -/
def impl_ParseIns.Row (W : World) (g : Nat) (xs : List ByteArray) : Prop := g < W.heap.size ∧ ∀ j, j < xs.length → W.cell? ⟨g, j, none⟩ = some (.string (xs.getD j ByteArray.empty))
theorem impl_ParseIns.Row.grown {W W' : World} {g q : Nat} {xs : List ByteArray} (h : impl_ParseIns.Row W g xs) (hg : W.grownBy W' (some q)) (hne : g ≠ q) : impl_ParseIns.Row W' g xs :=
  ⟨Nat.lt_of_lt_of_le h.1 hg.size, fun j hj => hg.cell (h.2 j hj) (fun e => hne (Option.some.inj e))⟩
theorem impl_ParseIns.Row.below {W W' : World} {g : Nat} {xs : List ByteArray} (h : impl_ParseIns.Row W g xs) (hb : Below W.heap.size W W') : impl_ParseIns.Row W' g xs :=
  ⟨Nat.lt_of_lt_of_le h.1 hb.size, fun j hj => (hb.cell (p := ⟨g, j, none⟩) h.1).trans (h.2 j hj)⟩
theorem impl_ParseIns.split (a0 : ByteArray) (ws : List ByteArray) (hs : impl_SplitFields.f a0 = some (ws, true)) (hn : 0 < ws.length) (W : World) (HTA : Tabs.TA W) :
    Calls Tryd.prog 13 #[.string a0] W fun e w' => ∃ g c, e = .returned (.tuple #[.slice (some ⟨g, 0, none⟩) ws.length c, .bool true]) ∧ W.heap.size ≤ g ∧ ws.length ≤ c ∧ Aside0 (impl_ParseIns.Row w' g ws) ∧ Below W.heap.size W w' :=
  (impl_SplitFields.calls a0 ws true W hs HTA).mono fun e w' ⟨v, he, hR, hb⟩ => by
    obtain ⟨g, c, rfl, hg, hlt, hc, hcl⟩ := impl_ParseIns.row hR hn
    exact ⟨g, c, he, hg, hc, ⟨hlt, hcl⟩, hb⟩
theorem impl_ParseIns.names (nm : List ByteArray) (hm : impl_opNames.f = some nm) (W : World) :
    Calls Tryd.prog 66 #[] W fun e w' => ∃ g c, e = .returned (.slice (some ⟨g, 0, none⟩) nm.length c) ∧ Aside0 (impl_ParseIns.Row w' g nm) ∧ Below W.heap.size W w' :=
  (impl_opNames.calls nm W hm).mono fun e w' ⟨v, he, hR, hb⟩ => by
    obtain ⟨g, c, rfl, hg, hlt, hc, hcl⟩ := impl_ParseIns.row hR (by unfold impl_opNames.f at hm; rw [← Option.some.inj hm]; decide)
    exact ⟨g, c, he, ⟨hlt, hcl⟩, hb⟩
theorem impl_ParseIns.index (nm : List ByteArray) (hn : nm.length ≤ 140737488355328) (x : ByteArray) (W : World) (g c : Nat) (hr : impl_ParseIns.Row W g nm) :
    Calls Tryd.prog 65 #[.slice (some ⟨g, 0, none⟩) nm.length c, .string x] W fun e w' => e = .returned (.int .i64 (Lib.idxOfS nm x)) ∧ w' = W := by
  have h := Tryd.slices_Index_string g 0 nm.length c nm x W (Nat.le_refl _) (by omega) (fun j hj => by rw [Nat.zero_add]; exact hr.2 j hj)
  rw [List.take_length] at h
  exact h
theorem impl_ParseIns.join (ws : List ByteArray) (h1 : ws.length ≤ 140737488355328) (h2 : (Lib.join (ws.map (·.data.toList)) [32]).length ≤ 140737488355328) (W : World) (g c : Nat) (hr : impl_ParseIns.Row W g ws) (hc : ws.length ≤ c) :
    Calls Tryd.prog 67 #[.slice (some ⟨g, 0, none⟩) ws.length c, .string ⟨#[32]⟩] W fun e w' => e = .returned (.string ⟨(Lib.join (ws.map (·.data.toList)) [32]).toArray⟩) ∧ Below W.heap.size W w' :=
  Tryd.strings_Join g 0 c ws ⟨#[32]⟩ W (fun j x hj => by
    have hl := (List.getElem?_eq_some_iff.1 hj).1
    rw [Nat.zero_add, hr.2 j hl, List.getD_eq_getElem?_getD, hj]; rfl) hr.1 h1 hc h2
set_option maxHeartbeats 8000000 in
set_option maxRecDepth 100000 in
theorem impl_ParseIns.calls (k : Nat) (a0 : ByteArray) (r1 r2 r3 r4 : Int) (r5 : Bool) (w : World) (h : impl_ParseIns.f k a0 = some (r1, r2, r3, r4, r5)) (HTA : Tabs.TA w) (HTE : Tabs.TE w) (HTP : Tabs.TP w) :
    Calls Tryd.prog 34 #[.string a0] w fun e w' => e = .returned (.tuple #[.agg #[.int .i64 r1, .int .i64 r2, .int .i64 r3, .int .i64 r4], .bool r5]) ∧ Below w.heap.size w w' := by
  unfold impl_ParseIns.f at h
  replace h := Option.bind_eq_some_iff.mp h
  obtain ⟨⟨ws, ok⟩, hs, h⟩ := h
  simp only at h
  by_cases hok : ok = true
  · subst hok
    rw [if_pos rfl] at h
    by_cases hn : ws.length = 0
    · rw [if_pos hn] at h
      simp only [Option.some.injEq, Prod.mk.injEq] at h
      obtain ⟨rfl, rfl, rfl, rfl, rfl⟩ := h
      exact impl_ParseIns.none_ a0 ws true w hs (Or.inr hn) HTA
    · rw [if_neg hn] at h
      replace h := Option.bind_eq_some_iff.mp h
      obtain ⟨nm, hm, h⟩ := h
      replace h := Option.bind_eq_some_iff.mp h
      obtain ⟨fm, hf, h⟩ := h
      by_cases hg : fm.size ≤ 3 ∧ nm.length ≤ 140737488355328 ∧ ws.length ≤ 140737488355328 ∧ (Lib.join (ws.map (·.data.toList)) [32]).length ≤ 140737488355328
      · rw [if_pos hg] at h
        replace h := Option.bind_eq_some_iff.mp h
        obtain ⟨t, ht, h⟩ := h
        replace h := Option.bind_eq_some_iff.mp h
        obtain ⟨x, hx, h⟩ := h
        obtain ⟨g1, g2, g3, g4⟩ := hg
        have HSP := Aside0.mk (fun W (hb : Below w.heap.size w W) => impl_ParseIns.split a0 ws hs (by omega) W (HTA.stays hb))
        have HOP := Aside0.mk (impl_ParseIns.names nm hm)
        have HIX := Aside0.mk (impl_ParseIns.index nm g2 (ws.getD 0 ByteArray.empty))
        have HJN := Aside0.mk (impl_ParseIns.join ws g3 g4)
        have HFO := Aside0.mk (fun W => impl_formOf.calls _ fm W hf)
        have HPU := Aside0.mk (fun (W : World) (hb : Below w.heap.size w W) (a : ByteArray) (n : Int) (b : Bool) (hp : impl_ParseUint.f a = some (n, b)) => impl_ParseUint.calls a n b W hp (HTE.stays hb) (HTP.stays hb))
        have HFI := Aside0.mk (fun (W : World) (hb : Below w.heap.size w W) => impl_FormatIns.calls k _ _ _ _ x W hx (HTP.stays hb))
        have HB := Aside0.mk (Below.refl w.heap.size w)
        have hu31 := Tryd.underlying31
        have H := Aside0.mk h
        have HT := Aside0.mk ht
        clear hs hm hf ht hx h g2 g3 g4 HTA HTE HTP
        generalize hL : ws.length = n at *
        have HL := Aside0.mk hL
        have hn0 : ¬ ((n : Int) = 0) := by omega
        have hn1 : (0 : Int) < (n : Int) := by omega
        have hn2 : 0 < n := by omega
        clear hL
        generalize Lib.idxOfS nm (ws.getD 0 ByteArray.empty) = op at *
        generalize Lib.join (ws.map (·.data.toList)) [32] = js at *
        have fin : ∀ w1 : World, Below (w.alloc (.cells #[.int .i64 0, .int .i64 0, .int .i64 0, .int .i64 0] 31 (0, 0))).heap.size (w.alloc (.cells #[.int .i64 0, .int .i64 0, .int .i64 0, .int .i64 0] 31 (0, 0))) w1 → Aside0 (w1.heap[w.heap.size]? = some (.cells #[.int .i64 0, .int .i64 0, .int .i64 0, .int .i64 0] 31 (0, 0))) ∧ Aside0 (Below w.heap.size w w1) := fun w1 hb =>
          ⟨⟨blk_below (blk_new _ _) hb⟩, ⟨below_then (below_alloc (Below.refl _ _) _) (by simp) hb⟩⟩
        go_enter Tryd.func34, Tryd.ntmps34
        go_upto_region 4 with (go_at_call 13; refine (HSP.out _ (below_alloc HB.out _)).mono ?_; rintro e w1 ⟨gw, cw, rfl, hgw, hcw, HW, hb1⟩; obtain ⟨BK, HB1⟩ := fin _ hb1; clear hb1 HB fin)
        have HGW := Aside0.mk hgw
        have HCW := Aside0.mk hcw
        clear hgw hcw HSP
        have hw0 : w1.cell? ⟨gw, 0, none⟩ = some (.string (ws.getD 0 ByteArray.empty)) := HW.out.2 0 (by rw [HL.out]; exact hn2)
        generalize hx0 : ws.getD 0 ByteArray.empty = x0 at hw0 HIX
        clear hx0
        go_cut [6] (fun s6 wx => ∃ g : Nat, s6 = .pointer (some ⟨g, 0, none⟩) ∧ Aside0 (wx.heap[g]? = some (.cells #[.int .i64 op, .int .i64 0, .int .i64 0, .int .i64 0] 31 (0, 0))) ∧ Aside0 (w1.heap.size ≤ g) ∧ Aside0 (Below w1.heap.size w1 wx))
        case first =>
          have HB2 := Aside0.mk (Below.refl w1.heap.size w1)
          have hN : gw < w1.heap.size := HW.out.1
          have hw0n := World.new_ne w1 _ hw0
          have hz : ∀ W W2 : World, Below W.heap.size W W2 → W.heap[w1.heap.size]? = some (.cells #[.int .i64 0, .int .i64 0, .int .i64 0, .int .i64 0] 31 (0, 0)) → W2.heap[w1.heap.size]? = some (.cells #[.int .i64 0, .int .i64 0, .int .i64 0, .int .i64 0] 31 (0, 0)) := fun W W2 hb h => blk_below h hb
          go_region_held3 (fun w' => w'.cell? ⟨gw, 0, none⟩ = some (.string x0)) (go_keep) (first
            | (go_at_call 66; refine (HOP.out _).mono ?_; rintro e w2 ⟨gn, cn, rfl, HN, hb2⟩; have n2_ := Aside0.mk (below_then (by repeat (first | (with_reducible first | exact HB2.out | apply below_alloc | apply pw_below_drewN | apply below_drew1) | exact HB2.out)) (below_size (by repeat (first | (with_reducible first | exact HB2.out | apply below_alloc | apply pw_below_drewN | apply below_drew1) | exact HB2.out))) hb2); have hw2 := (n2_.out.cell (p := ⟨gw, 0, none⟩) hN).trans hw0; have hw2n := World.new_ne w2 _ hw2; have hq0 := hz _ _ hb2; (first | (replace hq0 := hq0 (blk_new _ _); have hz0 := (blk_cell hq0 0).trans rfl; have hz1 := (blk_cell hq0 1).trans rfl; have hz2 := (blk_cell hq0 2).trans rfl; have hz3 := (blk_cell hq0 3).trans rfl; have hf0 := blk_frozen hq0 0; have hf1 := blk_frozen hq0 1; have hf2 := blk_frozen hq0 2; have hf3 := blk_frozen hq0 3) | clear hq0); clear HB2; have HB2 := n2_; clear n2_)
            | (go_at_call 65; refine (HIX.out _ _ _ (HN.out.below (by repeat (first | (with_reducible first | exact Below.refl _ _ | apply below_alloc | apply pw_below_drewN | apply below_drew1) | exact Below.refl _ _)))).mono ?_; rintro e w3 ⟨rfl, rfl⟩))
          all_goals (go_wp2_with fail; go_meet; (first
            | (with_reducible exact ⟨_, rfl, ⟨blk_new _ _⟩, ⟨below_size HB2.out⟩, ⟨below_alloc HB2.out _⟩⟩)
            | exact ⟨_, rfl, ⟨blk_put (cs' := #[.int .i64 op, .int .i64 0, .int .i64 0, .int .i64 0]) (blk_put (cs' := #[.int .i64 op, .int .i64 0, .int .i64 0, .int .i64 0]) (blk_put (cs' := #[.int .i64 op, .int .i64 0, .int .i64 0, .int .i64 0]) (blk_put (cs' := #[.int .i64 op, .int .i64 0, .int .i64 0, .int .i64 0]) hq0 0 _ rfl) 1 _ rfl) 2 _ rfl) 3 _ rfl⟩, ⟨Nat.le_refl _⟩, ⟨below_set (below_set (below_set (below_set HB2.out (Nat.le_refl _)) (Nat.le_refl _)) (Nat.le_refl _)) (Nat.le_refl _)⟩⟩))
        case rest =>
          obtain ⟨g, rfl, BG, HGE, HB2⟩ := hcut
          clear HOP HIX hw0 hn0 hn1 hn2
          have hN : gw < w1.heap.size := HW.out.1
          have hN2 : w1.heap.size ≤ g := HGE.out
          have HW2 := Aside0.mk (HW.out.below HB2.out)
          have BK2 := Aside0.mk (blk_below BK.out HB2.out)
          have hrl : w.heap.size < w1.heap.size := blk_lt BK.out
          have HB3 := Aside0.mk (below_then HB1.out HB1.out.size HB2.out)
          have hgw : gw ≠ g := by omega
          have hrg : w.heap.size ≠ g := by omega
          have hge : w.heap.size ≤ g := by omega
          clear HW BK HB1 HB2 HGE hN hN2
          go_upto_region 7 with fail
          generalize hwc : wc = wc' at *
          have hc0 : (wc'.alloc (.cells #[.pointer (some ⟨g, 1, none⟩), .pointer (some ⟨g, 2, none⟩), .pointer (some ⟨g, 3, none⟩)] 78)).cell? ⟨g, 0, none⟩ = some (.int .i64 op) := (blk_cell (blk_alloc BG.out _) 0).trans rfl
          have HCV := Aside0.mk (fun W : World => Lib.run_convert_string_bytes (P := Tryd.prog) W 9 42 5 fm (u := .string) Tryd.underlying9 Tryd.underlying42 Tryd.underlying5)
          go_upto_region 8 with (go_at_call 53; refine (HFO.out _).mono ?_; rintro e w5 ⟨rfl, hb5⟩; have hcv := HCV.out w5)
          clear hcv HCV hc0 HFO
          have hbw := Lib.bytesWorld_below w5 5 fm
          have hgp : g < wc'.heap.size := blk_lt BG.out
          have hpb : wc'.heap.size < w5.heap.size := Nat.lt_of_lt_of_le (by simp) hb5.size
          have CP := Aside0.mk (blk_below (blk_below (blk_new wc' _) hb5) hbw)
          have BG5 := Aside0.mk (blk_below (blk_below (blk_alloc BG.out (.cells #[.pointer (some ⟨g, 1, none⟩), .pointer (some ⟨g, 2, none⟩), .pointer (some ⟨g, 3, none⟩)] 78)) hb5) hbw)
          have BK5 := Aside0.mk (blk_below (blk_below (blk_alloc BK2.out (.cells #[.pointer (some ⟨g, 1, none⟩), .pointer (some ⟨g, 2, none⟩), .pointer (some ⟨g, 3, none⟩)] 78)) hb5) hbw)
          have HW5 := Aside0.mk (((HW2.out.below (below_alloc (Below.refl _ _) (.cells #[.pointer (some ⟨g, 1, none⟩), .pointer (some ⟨g, 2, none⟩), .pointer (some ⟨g, 3, none⟩)] 78))).below hb5).below hbw)
          have HB5 := Aside0.mk (below_then (below_then (below_alloc HB3.out (.cells #[.pointer (some ⟨g, 1, none⟩), .pointer (some ⟨g, 2, none⟩), .pointer (some ⟨g, 3, none⟩)] 78)) (below_alloc HB3.out _).size hb5) (below_then (below_alloc HB3.out _) (below_alloc HB3.out _).size hb5).size hbw)
          have CB := Aside0.mk (fun (j : Nat) (hj : j < fm.size) => Lib.bytesWorld_cell w5 5 fm j hj)
          have hpg : wc'.heap.size ≠ g := by omega
          have hbg : w5.heap.size ≠ g := by omega
          clear BG BK2 HW2 HB3 hb5 hbw
          generalize Lib.bytesWorld w5 5 fm = W5 at *
          generalize grownCap w5 fm.size 0 5 = cb at *
          generalize wc'.heap.size = p at *
          generalize w5.heap.size = b at *
          clear hwc
          go_loopg [8, 40] fm.size (fun gg s8 s40 wr => ∃ (i j : Nat) (u : Int × Int × Int), s8 = .int .i64 (j : Int) ∧ s40 = .int .i64 (i : Int) ∧ i ≤ fm.size ∧ (fm.size : Int) - i ≤ gg ∧ j ≤ i + 1 ∧ Aside0 (impl_ParseIns.go ws (fm.data.toList.drop i) i j u = some t) ∧ Aside0 (wr.heap[g]? = some (.cells #[.int .i64 op, .int .i64 u.1, .int .i64 u.2.1, .int .i64 u.2.2] 31 (0, 0))) ∧ Aside0 (W5.grownBy wr (some g)))
          case atStart => exact ⟨0, 1, (0, 0, 0), rfl, rfl, by omega, by omega, by omega, HT, BG5, ⟨World.grownBy.refl _ _⟩⟩
          case round =>
            obtain ⟨i, j, u, rfl, rfl, h1, h2, h3, HG, BG, HGR⟩ := hrel
            by_cases c1 : (i : Int) < (fm.size : Int)
            · have hi3 : (i : Int) < 3 := by omega
              have hcb := HGR.out.cell (CB.out i (by omega)) (fun e => hbg (Option.some.inj e))
              have hpp : wr.cell? ⟨p, i, none⟩ = some (.pointer (some ⟨g, i + 1, none⟩)) := by
                have hq := HGR.out.cell (a := ⟨p, i, none⟩) (v := .pointer (some ⟨g, i + 1, none⟩)) (by
                  rw [blk_cell CP.out i]
                  have : i = 0 ∨ i = 1 ∨ i = 2 := by omega
                  rcases this with rfl | rfl | rfl <;> rfl) (fun e => hpg (Option.some.inj e))
                exact hq
              have hst : fm.data.toList.drop i = fm.data.toList.getD i 0 :: fm.data.toList.drop (i + 1) := by
                have hl : i < fm.data.toList.length := by rw [Array.length_toList]; show i < fm.size; omega
                rw [List.drop_eq_getElem_cons hl]
                congr 1
                rw [List.getD_eq_getElem?_getD, List.getElem?_eq_getElem hl]; rfl
              have hgo := HG.out
              rw [hst] at hgo
              unfold impl_ParseIns.go at hgo
              generalize fm.data.toList.getD i 0 = c at hcb hgo
              clear HG hst
              by_cases h45 : c.toNat ≠ 45 ∧ j < ws.length
              · rw [if_pos h45] at hgo
                obtain ⟨hc45, hjn⟩ := h45
                replace hgo := Option.bind_eq_some_iff.mp hgo
                obtain ⟨⟨v, vb⟩, hpu, hgo⟩ := hgo
                have HPV := Aside0.mk (fun (W : World) (hb : Below w.heap.size w W) => HPU.out W hb _ v vb hpu)
                have HGO := Aside0.mk hgo
                have hww : wr.cell? ⟨gw, j, none⟩ = some (.string (ws.getD j ByteArray.empty)) := HGR.out.cell (HW5.out.2 j hjn) (fun e => hgw (Option.some.inj e))
                generalize ws.getD j ByteArray.empty = y at HPV hww
                have hj : (j : Int) < (n : Int) := by rw [← HL.out]; omega
                have hcz : ¬ ((c.toNat : Int) = 45) := by omega
                generalize ((c.toNat : Nat) : Int) = cz at hcb hcz
                obtain ⟨tv, htv⟩ : ∃ tv, wr.cell? ⟨g, i + 1, none⟩ = some (.int .i64 tv) := by
                  rw [blk_cell BG.out (i + 1)]
                  have : i = 0 ∨ i = 1 ∨ i = 2 := by omega
                  rcases this with rfl | rfl | rfl <;> exact ⟨_, rfl⟩
                have hfv := blk_frozen BG.out (i + 1)
                have HBR := Aside0.mk (pw_below_grown HB5.out (some g) HB5.out.size HGR.out (fun k hk => by cases hk; exact hge))
                clear hpu hgo hc45 hjn
                go_upto_region 11 with fail
                have HK := Aside0.mk (fun (W W2 : World) (a : Addr) (z : Value) (hb : Below W.heap.size W W2) (h : W.cell? a = some z) => (hb.cell (p := a) (World.block_lt_of_cell? W a h)).trans h)
                have hp3 := World.new_ne wr _ hpp
                have hw3 := World.new_ne wr _ hww
                have HQ := Aside0.mk (show ∀ W, Below wr.heap.size wr W → Calls Tryd.prog 31 #[.string y] W fun e w' => e = .returned (.tuple #[.int .i64 v, .bool vb]) ∧ Below wr.heap.size wr w' ∧ w'.cell? ⟨p, i, none⟩ = some (.pointer (some ⟨g, i + 1, none⟩)) ∧ w'.cell? ⟨gw, j, none⟩ = some (.string y) ∧ Aside0 (w'.heap[g]? = some (.cells #[.int .i64 op, .int .i64 u.1, .int .i64 u.2.1, .int .i64 u.2.2] 31 (0, 0))) from fun W hb =>
                  (HPV.out W (below_then HBR.out HBR.out.size hb)).mono fun e w' ⟨he, hb2⟩ => by
                    have hb3 := below_then hb hb.size hb2
                    exact ⟨he, hb3, (HK.out _ _ _ _ hb3 hpp), (HK.out _ _ _ _ hb3 hww), ⟨blk_below BG.out hb3⟩⟩)
                have hb0 := Below.refl wr.heap.size wr
                have hpg2 : g ≠ p := Ne.symm hpg
                have hgw2 : g ≠ gw := Ne.symm hgw
                clear HPV HK
                go_region_held3 (fun w' => w'.cell? ⟨p, i, none⟩ = some (.pointer (some ⟨g, i + 1, none⟩)) ∧ w'.cell? ⟨gw, j, none⟩ = some (.string y)) (go_keep) (first
                  | (go_at_call 31; refine (HQ.out _ (by repeat (first | (with_reducible first | exact hb0 | apply below_alloc | apply pw_below_drewN | apply below_drew1) | exact hb0))).mono ?_; rintro e w6 ⟨rfl, hb6, hpp6, hww6, BG6⟩; have hfv6 := blk_frozen BG6.out (i + 1); have htv6 := (hb6.cell (p := ⟨g, i + 1, none⟩) (World.block_lt_of_cell? wr _ htv)).trans htv))
                have BG7 := Aside0.mk (show (w6.setCell ⟨g, i + 1, none⟩ (.int .i64 v)).heap[g]? = some (.cells #[.int .i64 op, .int .i64 (impl_ParseIns.put u i v).1, .int .i64 (impl_ParseIns.put u i v).2.1, .int .i64 (impl_ParseIns.put u i v).2.2] 31 (0, 0)) from blk_put BG6.out (i + 1) _ (by
                  have : i = 0 ∨ i = 1 ∨ i = 2 := by omega
                  rcases this with rfl | rfl | rfl <;> rfl))
                have HGR7 := Aside0.mk ((HGR.out.trans (grown_of_below hb6 (some g))).trans (Lib.grownBy_setCell w6 g (i + 1) (.int .i64 v)))
                have hi4 : (i : Int) + 1 ≤ 3 := by omega
                have hj4 : (j : Int) + 1 ≤ 5 := by omega
                clear hfv6 htv6 BG6 hb6 hpp6 hww6 hfv htv hpp hww hcb HQ hb0 hp3 hw3 hpg2 hgw2 HBR BG HGR
                go_wp2
                go_roundg (gk - 1)
                case measure => omega
                case rel => exact ⟨i + 1, j + 1, impl_ParseIns.put u i v, by first | rfl | (simp; done) | (simp [*]; done), by first | rfl | (simp; done) | (simp [*]; done), by omega, by omega, by omega, HGO, BG7, HGR7⟩
              · rw [if_neg h45] at hgo
                have HGO := Aside0.mk hgo
                have hi4 : (i : Int) + 1 ≤ 3 := by omega
                clear hgo hpp
                by_cases hc45 : c.toNat = 45
                · have hcz : (c.toNat : Int) = 45 := by omega
                  rw [hcz] at hcb
                  clear h45 hc45 hcz
                  go_wp2
                  go_roundg (gk - 1)
                  case measure => omega
                  case rel => exact ⟨i + 1, j, u, by first | rfl | (simp; done) | (simp [*]; done), by first | rfl | (simp; done) | (simp [*]; done), by omega, by omega, by omega, HGO, BG, HGR⟩
                · have hj : ¬ (j : Int) < (n : Int) := by
                    rw [← HL.out]
                    intro hlt
                    exact h45 ⟨hc45, by omega⟩
                  have hcz : ¬ ((c.toNat : Int) = 45) := by omega
                  generalize ((c.toNat : Nat) : Int) = cz at hcb hcz
                  clear h45 hc45
                  go_wp2
                  go_roundg (gk - 1)
                  case measure => omega
                  case rel => exact ⟨i + 1, j, u, by first | rfl | (simp; done) | (simp [*]; done), by first | rfl | (simp; done) | (simp [*]; done), by omega, by omega, by omega, HGO, BG, HGR⟩
            · have hie : i = fm.size := by omega
              have hgo := HG.out
              rw [hie, show fm.data.toList.drop fm.size = [] from by rw [show fm.size = fm.data.toList.length from Array.length_toList.symm]; exact List.drop_length] at hgo
              obtain rfl : u = t := Option.some.inj hgo
              have hc0 : wr.cell? ⟨g, 0, none⟩ = some (.int .i64 op) := (blk_cell BG.out 0).trans rfl
              have hc1 : wr.cell? ⟨g, 1, none⟩ = some (.int .i64 u.1) := (blk_cell BG.out 1).trans rfl
              have hc2 : wr.cell? ⟨g, 2, none⟩ = some (.int .i64 u.2.1) := (blk_cell BG.out 2).trans rfl
              have hc3 : wr.cell? ⟨g, 3, none⟩ = some (.int .i64 u.2.2) := (blk_cell BG.out 3).trans rfl
              have HBR := Aside0.mk (pw_below_grown HB5.out (some g) HB5.out.size HGR.out (fun k hk => by cases hk; exact hge))
              have BKR := Aside0.mk (blk_grown BK5.out HGR.out (fun e => hrg (Option.some.inj e)))
              have HWR := Aside0.mk (HW5.out.grown HGR.out hgw)
              have HFQ := Aside0.mk (show ∀ W, Below wr.heap.size wr W → Calls Tryd.prog 19 #[.agg #[.int .i64 op, .int .i64 u.1, .int .i64 u.2.1, .int .i64 u.2.2]] W fun e w' => e = .returned (.string x) ∧ Aside0 (w'.heap[w.heap.size]? = some (.cells #[.int .i64 0, .int .i64 0, .int .i64 0, .int .i64 0] 31 (0, 0))) ∧ Aside0 (w'.heap[g]? = some (.cells #[.int .i64 op, .int .i64 u.1, .int .i64 u.2.1, .int .i64 u.2.2] 31 (0, 0))) ∧ Aside0 (impl_ParseIns.Row w' gw ws) ∧ Aside0 (Below w.heap.size w w') from fun W hb =>
                (HFI.out W (below_then HBR.out HBR.out.size hb)).mono fun e w' ⟨he, hb2⟩ => by
                  have hb3 := below_then hb hb.size hb2
                  exact ⟨he, ⟨blk_below BKR.out hb3⟩, ⟨blk_below BG.out hb3⟩, ⟨HWR.out.below hb3⟩, ⟨below_then HBR.out HBR.out.size hb3⟩⟩)
              have hb0 := Below.refl wr.heap.size wr
              have H2 := H.out
              clear hgo HG H CP CB BK5 BG5 HW5 HB5 HT
              by_cases hx0 : x.toList = []
              · rw [if_pos hx0] at H2
                simp only [Option.some.injEq, Prod.mk.injEq] at H2
                obtain ⟨rfl, rfl, rfl, rfl, rfl⟩ := H2
                have hx1 : (x.toList == ([] : List UInt8)) = true := beq_iff_eq.mpr hx0
                go_upto_region 15 with (go_at_call 19; refine (HFQ.out _ hb0).mono ?_; rintro e w7 ⟨rfl, BK7, BG7, HW7, HB7⟩)
                have hcz0 : w7.cell? ⟨w.heap.size, 0, none⟩ = some (.int .i64 0) := (blk_cell BK7.out 0).trans rfl
                have hcz1 : w7.cell? ⟨w.heap.size, 1, none⟩ = some (.int .i64 0) := (blk_cell BK7.out 1).trans rfl
                have hcz2 : w7.cell? ⟨w.heap.size, 2, none⟩ = some (.int .i64 0) := (blk_cell BK7.out 2).trans rfl
                have hcz3 : w7.cell? ⟨w.heap.size, 3, none⟩ = some (.int .i64 0) := (blk_cell BK7.out 3).trans rfl
                have hfz0 := blk_frozen BK7.out 0
                have hfz1 := blk_frozen BK7.out 1
                have hfz2 := blk_frozen BK7.out 2
                have hfz3 := blk_frozen BK7.out 3
                go_wp2
                refine bodyPost_ret (results_ct rfl _ _ w.heap.size 31 #[.int .i64 0, .int .i64 0, .int .i64 0, .int .i64 0] (0, 0) _ rfl (by (with_reducible repeat (first | refine blk_drewN ?_ _ | refine blk_drew ?_ | refine blk_alloc ?_ _)); refine blk_put (cs := #[.int .i64 0, .int .i64 0, .int .i64 0, .int .i64 0]) ?_ 3 _ rfl; (with_reducible repeat (first | refine blk_drewN ?_ _ | refine blk_drew ?_ | refine blk_alloc ?_ _)); refine blk_put (cs := #[.int .i64 0, .int .i64 0, .int .i64 0, .int .i64 0]) ?_ 2 _ rfl; (with_reducible repeat (first | refine blk_drewN ?_ _ | refine blk_drew ?_ | refine blk_alloc ?_ _)); refine blk_put (cs := #[.int .i64 0, .int .i64 0, .int .i64 0, .int .i64 0]) ?_ 1 _ rfl; (with_reducible repeat (first | refine blk_drewN ?_ _ | refine blk_drew ?_ | refine blk_alloc ?_ _)); refine blk_put (cs := #[.int .i64 0, .int .i64 0, .int .i64 0, .int .i64 0]) ?_ 0 _ rfl; (with_reducible repeat (first | refine blk_drewN ?_ _ | refine blk_drew ?_ | refine blk_alloc ?_ _)); exact BK7.out) Tryd.underlying31 rfl (by kernel_rfl)) rfl ?_
                exact ⟨rfl, by repeat (first | (with_reducible first | exact HB7.out | apply below_alloc | apply pw_below_drewN | apply below_drew1 | refine below_set ?_ (Nat.le_refl _)) | exact HB7.out)⟩
              · rw [if_neg hx0] at H2
                have hx1 : (x.toList == ([] : List UInt8)) = false := beq_eq_false_iff_ne.mpr hx0
                go_upto_region 15 with (go_at_call 19; refine (HFQ.out _ hb0).mono ?_; rintro e w7 ⟨rfl, BK7, BG7, HW7, HB7⟩)
                generalize hjb : (⟨js.toArray⟩ : ByteArray) = jb at HJN
                have hjl : jb.toList = js := by rw [← hjb, ByteArray.toList_eq]
                have hb7 := Below.refl w7.heap.size w7
                have HJQ := Aside0.mk (show ∀ W, Below w7.heap.size w7 W → Calls Tryd.prog 67 #[.slice (some ⟨gw, 0, none⟩) n cw, .string ⟨#[32]⟩] W fun e w' => e = .returned (.string jb) ∧ Aside0 (w'.heap[w.heap.size]? = some (.cells #[.int .i64 0, .int .i64 0, .int .i64 0, .int .i64 0] 31 (0, 0))) ∧ Aside0 (w'.heap[g]? = some (.cells #[.int .i64 op, .int .i64 u.1, .int .i64 u.2.1, .int .i64 u.2.2] 31 (0, 0))) ∧ Aside0 (Below w.heap.size w w') from fun W hb =>
                  (HJN.out W gw cw (HW7.out.below hb) HCW.out).mono fun e w' ⟨he, hb2⟩ => by
                    have hb3 := below_then hb hb.size hb2
                    exact ⟨he, ⟨blk_below BK7.out hb3⟩, ⟨blk_below BG7.out hb3⟩, ⟨below_then HB7.out HB7.out.size hb3⟩⟩)
                clear hjb HFQ hb0 HJN HW7
                by_cases hxj : x.toList = js
                · rw [if_pos hxj] at H2
                  simp only [Option.some.injEq, Prod.mk.injEq] at H2
                  obtain ⟨rfl, rfl, rfl, rfl, rfl⟩ := H2
                  have hq1 : (x.toList == jb.toList) = true := by rw [hjl]; exact beq_iff_eq.mpr hxj
                  have hq2 : (x.toList != jb.toList) = false := by rw [hjl]; exact bne_eq_false_iff_eq.mpr hxj
                  clear hxj hjl
                  go_upto_region 17 with (go_at_call 67; refine (HJQ.out _ (by repeat (first | (with_reducible first | exact hb7 | apply below_alloc | apply pw_below_drewN | apply below_drew1) | exact hb7))).mono ?_; rintro e w8 ⟨rfl, BK8, BG8, HB8⟩)
                  have hcz0 : w8.cell? ⟨w.heap.size, 0, none⟩ = some (.int .i64 0) := (blk_cell BK8.out 0).trans rfl
                  have hcz1 : w8.cell? ⟨w.heap.size, 1, none⟩ = some (.int .i64 0) := (blk_cell BK8.out 1).trans rfl
                  have hcz2 : w8.cell? ⟨w.heap.size, 2, none⟩ = some (.int .i64 0) := (blk_cell BK8.out 2).trans rfl
                  have hcz3 : w8.cell? ⟨w.heap.size, 3, none⟩ = some (.int .i64 0) := (blk_cell BK8.out 3).trans rfl
                  have hfz0 := blk_frozen BK8.out 0
                  have hfz1 := blk_frozen BK8.out 1
                  have hfz2 := blk_frozen BK8.out 2
                  have hfz3 := blk_frozen BK8.out 3
                  have hcg0 : w8.cell? ⟨g, 0, none⟩ = some (.int .i64 op) := (blk_cell BG8.out 0).trans rfl
                  have hcg1 : w8.cell? ⟨g, 1, none⟩ = some (.int .i64 u.1) := (blk_cell BG8.out 1).trans rfl
                  have hcg2 : w8.cell? ⟨g, 2, none⟩ = some (.int .i64 u.2.1) := (blk_cell BG8.out 2).trans rfl
                  have hcg3 : w8.cell? ⟨g, 3, none⟩ = some (.int .i64 u.2.2) := (blk_cell BG8.out 3).trans rfl
                  go_wp2
                  refine bodyPost_ret (results_ct rfl _ _ w.heap.size 31 #[.int .i64 op, .int .i64 u.1, .int .i64 u.2.1, .int .i64 u.2.2] (0, 0) _ rfl (by (with_reducible repeat (first | refine blk_drewN ?_ _ | refine blk_drew ?_ | refine blk_alloc ?_ _)); refine blk_put (cs := #[.int .i64 op, .int .i64 u.1, .int .i64 u.2.1, .int .i64 0]) ?_ 3 _ rfl; (with_reducible repeat (first | refine blk_drewN ?_ _ | refine blk_drew ?_ | refine blk_alloc ?_ _)); refine blk_put (cs := #[.int .i64 op, .int .i64 u.1, .int .i64 0, .int .i64 0]) ?_ 2 _ rfl; (with_reducible repeat (first | refine blk_drewN ?_ _ | refine blk_drew ?_ | refine blk_alloc ?_ _)); refine blk_put (cs := #[.int .i64 op, .int .i64 0, .int .i64 0, .int .i64 0]) ?_ 1 _ rfl; (with_reducible repeat (first | refine blk_drewN ?_ _ | refine blk_drew ?_ | refine blk_alloc ?_ _)); refine blk_put (cs := #[.int .i64 0, .int .i64 0, .int .i64 0, .int .i64 0]) ?_ 0 _ rfl; (with_reducible repeat (first | refine blk_drewN ?_ _ | refine blk_drew ?_ | refine blk_alloc ?_ _)); exact BK8.out) Tryd.underlying31 rfl (by kernel_rfl)) rfl ?_
                  exact ⟨rfl, by repeat (first | (with_reducible first | exact HB8.out | apply below_alloc | apply pw_below_drewN | apply below_drew1 | refine below_set ?_ (Nat.le_refl _)) | exact HB8.out)⟩
                · rw [if_neg hxj] at H2
                  simp only [Option.some.injEq, Prod.mk.injEq] at H2
                  obtain ⟨rfl, rfl, rfl, rfl, rfl⟩ := H2
                  have hq1 : (x.toList == jb.toList) = false := by rw [hjl]; exact beq_eq_false_iff_ne.mpr hxj
                  have hq2 : (x.toList != jb.toList) = true := by rw [hjl]; exact bne_iff_ne.mpr hxj
                  clear hxj hjl
                  go_upto_region 16 with (go_at_call 67; refine (HJQ.out _ (by repeat (first | (with_reducible first | exact hb7 | apply below_alloc | apply pw_below_drewN | apply below_drew1) | exact hb7))).mono ?_; rintro e w8 ⟨rfl, BK8, BG8, HB8⟩)
                  have hcz0 : w8.cell? ⟨w.heap.size, 0, none⟩ = some (.int .i64 0) := (blk_cell BK8.out 0).trans rfl
                  have hcz1 : w8.cell? ⟨w.heap.size, 1, none⟩ = some (.int .i64 0) := (blk_cell BK8.out 1).trans rfl
                  have hcz2 : w8.cell? ⟨w.heap.size, 2, none⟩ = some (.int .i64 0) := (blk_cell BK8.out 2).trans rfl
                  have hcz3 : w8.cell? ⟨w.heap.size, 3, none⟩ = some (.int .i64 0) := (blk_cell BK8.out 3).trans rfl
                  have hfz0 := blk_frozen BK8.out 0
                  have hfz1 := blk_frozen BK8.out 1
                  have hfz2 := blk_frozen BK8.out 2
                  have hfz3 := blk_frozen BK8.out 3
                  go_wp2
                  refine bodyPost_ret (results_ct rfl _ _ w.heap.size 31 #[.int .i64 0, .int .i64 0, .int .i64 0, .int .i64 0] (0, 0) _ rfl (by (with_reducible repeat (first | refine blk_drewN ?_ _ | refine blk_drew ?_ | refine blk_alloc ?_ _)); refine blk_put (cs := #[.int .i64 0, .int .i64 0, .int .i64 0, .int .i64 0]) ?_ 3 _ rfl; (with_reducible repeat (first | refine blk_drewN ?_ _ | refine blk_drew ?_ | refine blk_alloc ?_ _)); refine blk_put (cs := #[.int .i64 0, .int .i64 0, .int .i64 0, .int .i64 0]) ?_ 2 _ rfl; (with_reducible repeat (first | refine blk_drewN ?_ _ | refine blk_drew ?_ | refine blk_alloc ?_ _)); refine blk_put (cs := #[.int .i64 0, .int .i64 0, .int .i64 0, .int .i64 0]) ?_ 1 _ rfl; (with_reducible repeat (first | refine blk_drewN ?_ _ | refine blk_drew ?_ | refine blk_alloc ?_ _)); refine blk_put (cs := #[.int .i64 0, .int .i64 0, .int .i64 0, .int .i64 0]) ?_ 0 _ rfl; (with_reducible repeat (first | refine blk_drewN ?_ _ | refine blk_drew ?_ | refine blk_alloc ?_ _)); exact BK8.out) Tryd.underlying31 rfl (by kernel_rfl)) rfl ?_
                  exact ⟨rfl, by repeat (first | (with_reducible first | exact HB8.out | apply below_alloc | apply pw_below_drewN | apply below_drew1 | refine below_set ?_ (Nat.le_refl _)) | exact HB8.out)⟩
      · rw [if_neg hg] at h; cases h
  · obtain rfl : ok = false := by simpa using hok
    rw [if_neg (by decide)] at h
    simp only [Option.some.injEq, Prod.mk.injEq] at h
    obtain ⟨rfl, rfl, rfl, rfl, rfl⟩ := h
    exact impl_ParseIns.none_ a0 ws false w hs (Or.inl rfl) HTA

end Go.Proofs.YtionemdnfhcfpaaDoor.HS
