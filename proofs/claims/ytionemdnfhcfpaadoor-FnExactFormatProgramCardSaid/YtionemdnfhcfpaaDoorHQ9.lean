-- by hprint.py (wip/tools) over the kit's print.py: this session's text; Lean checks it
import Derived.Test.YtionemdnfhcfpaaDoorHQ0
import Derived.Test.YtionemdnfhcfpaaDoorHQ8
namespace Go.Proofs.YtionemdnfhcfpaaDoor.HQ
open Go.RowKit Go.Proofs.YtionemdnfhcfpaaDoorW.PrintWords Go.Proofs.YtionemdnfhcfpaaDoorW.PrintLast Go.Proofs.YtionemdnfhcfpaaDoorW.PrintMore
attribute [local go_sem] max2_int min2_int max_two min_two max_three min_three max_four min_four   -- for this text's walks alone
set_option linter.unusedVariables false
set_option linter.unusedSimpArgs false

/-! ### impl_isField: function 77 -/
def impl_isField.f (a0 : Int) (a1 : Int) (a2 : Int) : Option (Bool) := if a0 = 82 then ((impl_isReg.f a1).bind fun t189 => (some t189)) else (if a0 = 87 then ((impl_IsWord.f a1).bind fun t190 => (some t190)) else (if a0 = 84 then ((impl_within.f a1 0 a2).bind fun t191 => (some t191)) else (some (a1 == 0))))
set_option maxHeartbeats 8000000 in
set_option maxRecDepth 100000 in
theorem impl_isField.calls (a0 : Int) (a1 : Int) (a2 : Int) (r : Bool) (w : World) (h : impl_isField.f a0 a1 a2 = some r) :
    Calls Tryd.prog 77 #[.int .u8 a0, .int .i64 a1, .int .i64 a2] w fun e w' => e = .returned (.bool r) ∧ Drawn0 w w' := by
  have H : (if a0 = 82 then ((impl_isReg.f a1).bind fun t189 => (some t189)) else (if a0 = 87 then ((impl_IsWord.f a1).bind fun t190 => (some t190)) else (if a0 = 84 then ((impl_within.f a1 0 a2).bind fun t191 => (some t191)) else (some (a1 == 0))))) = some r := h
  clear h
  by_cases c4 : a0 = 82
  · rw [if_pos c4] at H
    have c4b0 : (a0 == 82) = true := beq_iff_eq.mpr c4
    have c4b1 : (a0 != 82) = false := bne_eq_false_iff_eq.mpr c4
    clear c4
    replace H := Option.bind_eq_some_iff.mp H
    obtain ⟨t189, A50, H⟩ := H
    replace H : (some t189) = some r := H
    have A5 := Aside0.mk A50
    clear A50
    obtain rfl := Option.some.inj H
    go_enter Tryd.func77, Tryd.ntmps77
    go_wp2_with (first | ((with_reducible refine gate_callee (f := 90) rfl ?_); refine goesL_ (some 11) rfl rfl Tryd.func90 (by kernel_rfl) rfl #[.int .i64 a1] rfl (by (try simp only [List.map_toArray, List.map_cons, List.map_nil]); first | done | rfl | (simp only [List.length_drop, List.length_take]; rfl)) ?_; (with_reducible refine (impl_isReg.calls a1 t189 _ A5.out).mono ?_); rintro e w' ⟨rfl, ⟨nd, rfl⟩⟩; refine ⟨_, rfl, ?_⟩))
    go_ret
    exact ⟨by first | rfl | (simp; done) | (simp [*]; done), by repeat (first | exact Drawn0.refl _ | apply Drawn0.step)⟩
  · rw [if_neg c4] at H
    have c4b0 : (a0 == 82) = false := beq_eq_false_iff_ne.mpr c4
    have c4b1 : (a0 != 82) = true := bne_iff_ne.mpr c4
    by_cases c6 : a0 = 87
    · rw [if_pos c6] at H
      have c6b0 : (a0 == 87) = true := beq_iff_eq.mpr c6
      have c6b1 : (a0 != 87) = false := bne_eq_false_iff_eq.mpr c6
      clear c6
      replace H := Option.bind_eq_some_iff.mp H
      obtain ⟨t190, A70, H⟩ := H
      replace H : (some t190) = some r := H
      have A7 := Aside0.mk A70
      clear A70
      obtain rfl := Option.some.inj H
      go_enter Tryd.func77, Tryd.ntmps77
      go_wp2_with (first | ((with_reducible refine gate_callee (f := 91) rfl ?_); refine goesL_ (some 15) rfl rfl Tryd.func91 (by kernel_rfl) rfl #[.int .i64 a1] rfl (by (try simp only [List.map_toArray, List.map_cons, List.map_nil]); first | done | rfl | (simp only [List.length_drop, List.length_take]; rfl)) ?_; (with_reducible refine (impl_IsWord.calls a1 t190 _ A7.out).mono ?_); rintro e w' ⟨rfl, ⟨nd, rfl⟩⟩; refine ⟨_, rfl, ?_⟩))
      go_ret
      exact ⟨by first | rfl | (simp; done) | (simp [*]; done), by repeat (first | exact Drawn0.refl _ | apply Drawn0.step)⟩
    · rw [if_neg c6] at H
      have c6b0 : (a0 == 87) = false := beq_eq_false_iff_ne.mpr c6
      have c6b1 : (a0 != 87) = true := bne_iff_ne.mpr c6
      by_cases c8 : a0 = 84
      · rw [if_pos c8] at H
        have c8b0 : (a0 == 84) = true := beq_iff_eq.mpr c8
        have c8b1 : (a0 != 84) = false := bne_eq_false_iff_eq.mpr c8
        clear c8
        replace H := Option.bind_eq_some_iff.mp H
        obtain ⟨t191, A90, H⟩ := H
        replace H : (some t191) = some r := H
        have A9 := Aside0.mk A90
        clear A90
        obtain rfl := Option.some.inj H
        go_enter Tryd.func77, Tryd.ntmps77
        go_wp2_with (first | ((with_reducible refine gate_callee (f := 63) rfl ?_); refine goesL_ (some 20) rfl rfl Tryd.func63 (by kernel_rfl) rfl #[.int .i64 a1, .int .i64 0, .int .i64 a2] rfl (by (try simp only [List.map_toArray, List.map_cons, List.map_nil]); first | done | rfl | (simp only [List.length_drop, List.length_take]; rfl)) ?_; (with_reducible refine (impl_within.calls a1 0 a2 t191 _ A9.out).mono ?_); rintro e w' ⟨rfl, ⟨nd, rfl⟩⟩; refine ⟨_, rfl, ?_⟩))
        go_ret
        exact ⟨by first | rfl | (simp; done) | (simp [*]; done), by repeat (first | exact Drawn0.refl _ | apply Drawn0.step)⟩
      · rw [if_neg c8] at H
        have c8b0 : (a0 == 84) = false := beq_eq_false_iff_ne.mpr c8
        have c8b1 : (a0 != 84) = true := bne_iff_ne.mpr c8
        obtain rfl := Option.some.inj H
        go_enter Tryd.func77, Tryd.ntmps77
        go_wp2
        go_ret
        exact ⟨by first | rfl | (simp; done) | (simp [*]; done), by repeat (first | exact Drawn0.refl _ | apply Drawn0.step)⟩

end Go.Proofs.YtionemdnfhcfpaaDoor.HQ
