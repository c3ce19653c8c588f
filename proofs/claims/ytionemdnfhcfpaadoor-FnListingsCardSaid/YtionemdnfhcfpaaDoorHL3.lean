-- by hprint.py (wip/tools) over the kit's print.py: this session's text; Lean checks it
import Derived.Test.YtionemdnfhcfpaaDoorHL0
import Derived.Test.YtionemdnfhcfpaaDoorHL2
namespace Go.Proofs.YtionemdnfhcfpaaDoor.HL
open Go.RowKit Go.Proofs.YtionemdnfhcfpaaDoorW.PrintWords Go.Proofs.YtionemdnfhcfpaaDoorW.PrintLast Go.Proofs.YtionemdnfhcfpaaDoorW.PrintMore
attribute [local go_sem] max2_int min2_int max_two min_two max_three min_three max_four min_four   -- for this text's walks alone
set_option linter.unusedVariables false
set_option linter.unusedSimpArgs false

/-! ### impl_FormatProgram: function 23 -/
def impl_FormatProgram.l0 : Nat → List ByteArray → List (S31) → Int → Int → Option (List ByteArray × Bool)
  | 0, _, _, _, _ => none
  | k + 1, x4, x11, x12, x13 => if x13 < x12 then (if 0 ≤ x13 then (if x13 < (x11.length : Int) then ((impl_FormatIns.f k ((rd_T31 x11 x13).f0) ((rd_T31 x11 x13).f1) ((rd_T31 x11 x13).f2) ((rd_T31 x11 x13).f3)).bind fun t135 => (if x4.length < 8796093022208 then (impl_FormatProgram.l0 k (x4 ++ [t135]) x11 x12 (wrap64 (x13 + 1))) else (none))) else (none)) else (none)) else (some (x4, true))
def impl_FormatProgram.f (k : Nat) (l0 : List (S31)) : Option (List ByteArray × Bool) := (impl_ProgramOk.f l0).bind fun t129 => (if t129 = true then (impl_FormatProgram.l0 k (([] : List ByteArray)) l0 (l0.length : Int) 0) else (some (([] : List ByteArray), false)))
theorem impl_FormatProgram.mono_l : ∀ k, (∀ y0 y1 y2 y3, LeO (impl_FormatProgram.l0 k y0 y1 y2 y3) (impl_FormatProgram.l0 (k + 1) y0 y1 y2 y3))
  | 0 => fun _ _ _ _ r h => by simp [impl_FormatProgram.l0] at h
  | k + 1 => by
    have ih0 := impl_FormatProgram.mono_l k
    · intro y0 y1 y2 y3
      unfold impl_FormatProgram.l0
      repeat' first
      | (with_reducible exact ih0 _ _ _ _)
      | (with_reducible exact impl_FormatIns.mono _ _ _ _ _)
      | (with_reducible exact LeO.refl _)
      | (with_reducible exact LeO.none _)
      | (with_reducible refine LeO.ite ?_ ?_)
      | (with_reducible refine LeO.bind ?_ (fun _ => ?_))
      | exact ih0 _ _ _ _
      | exact impl_FormatIns.mono _ _ _ _ _
      | exact LeO.none _
      | refine LeO.ite ?_ ?_
      | refine LeO.bind ?_ (fun _ => ?_)
theorem impl_FormatProgram.mono : ∀ a0 k, LeO (impl_FormatProgram.f k a0) (impl_FormatProgram.f (k + 1) a0) := by
  intro a0 k
  have ih0 := impl_FormatProgram.mono_l k
  unfold impl_FormatProgram.f
  repeat' first
      | (with_reducible exact ih0 _ _ _ _)
      | (with_reducible exact impl_FormatIns.mono _ _ _ _ _)
      | (with_reducible exact LeO.refl _)
      | (with_reducible exact LeO.none _)
      | (with_reducible refine LeO.ite ?_ ?_)
      | (with_reducible refine LeO.bind ?_ (fun _ => ?_))
      | exact ih0 _ _ _ _
      | exact impl_FormatIns.mono _ _ _ _ _
      | exact LeO.none _
      | refine LeO.ite ?_ ?_
      | refine LeO.bind ?_ (fun _ => ?_)
set_option maxHeartbeats 8000000 in
set_option maxRecDepth 100000 in
theorem impl_FormatProgram.calls (k : Nat) (A0 : Option Addr) (c0 : Nat) (l0 : List (S31)) (r1 : List ByteArray) (r2 : Bool) (w : World) (hr0 : Kd.C k31 w A0 l0.length l0) (hc0 : l0.length ≤ c0) (h : impl_FormatProgram.f k l0 = some (r1, r2)) (HTTP : Tabs.TP w) :
    Calls Tryd.prog 23 #[.slice A0 l0.length c0] w fun e w' => ∃ v0_ : Value, e = .returned (.tuple #[v0_, .bool r2]) ∧ Kd.R Kd.string 9 w' w.heap.size (fun _ => True) v0_ r1 ∧ Below w.heap.size w w' := by
  replace HTTP := Aside0.mk HTTP
  have hu31 := Tryd.underlying31
  have HR0 := Aside0.mk hr0
  have HC0 := Aside0.mk hc0
  clear hr0 hc0
  have HB := Aside0.mk (Below.refl w.heap.size w)
  have H : ((impl_ProgramOk.f l0).bind fun t129 => (if t129 = true then (impl_FormatProgram.l0 k (([] : List ByteArray)) l0 (l0.length : Int) 0) else (some (([] : List ByteArray), false)))) = some (r1, r2) := h
  clear h
  replace H := Option.bind_eq_some_iff.mp H
  obtain ⟨t129, A20, H⟩ := H
  replace H : (if t129 = true then (impl_FormatProgram.l0 k (([] : List ByteArray)) l0 (l0.length : Int) 0) else (some (([] : List ByteArray), false))) = some (r1, r2) := H
  have A2 := Aside0.mk A20
  clear A20
  by_cases c3 : t129 = true
  · subst c3
    have H1 : (impl_FormatProgram.l0 k (([] : List ByteArray)) l0 (l0.length : Int) 0) = some (r1, r2) := by rw [if_pos rfl] at H; exact H
    clear H
    have H := H1
    clear H1
    obtain ⟨y130, hy130⟩ : ∃ y_ : List ByteArray, y_ = (([] : List ByteArray)) := ⟨_, rfl⟩
    replace H : (impl_FormatProgram.l0 k y130 l0 (l0.length : Int) 0) = some (r1, r2) := by first | (rw [hy130]; with_reducible exact H) | (have H2_ := (Option.bind_some _ _).symm.trans H; rw [hy130]; with_reducible exact H2_) | (have H2_ := (Option.bind_some _ _).symm.trans H; with_reducible exact H2_) | with_reducible exact H | (rw [hy130]; exact H) | exact H
    have Ny130 := Aside0.mk hy130
    clear hy130
    have H' := Aside0.mk H
    clear H
    go_enter Tryd.func23, Tryd.ntmps23
    go_wp2_with (first | ((with_reducible refine gate_callee (f := 55) rfl ?_); refine goesL_ (some 8) rfl rfl Tryd.func55 (by kernel_rfl) rfl #[.slice A0 l0.length c0] rfl (by (try simp only [List.map_toArray, List.map_cons, List.map_nil]); first | done | rfl | (simp only [List.length_drop, List.length_take]; rfl)) ?_; (with_reducible refine (impl_ProgramOk.calls _ _ l0 true _ ?side1 ?side2 A2.out).mono ?_); (case side1 => repeat (first | exact HR0.out | (with_reducible refine Kd.C_alloc ?_ _) | (with_reducible refine Kd.C_drewN ?_ _) | (with_reducible refine Kd.C_drew ?_))); (case side2 => exact HC0.out); rintro e w4 ⟨rfl, hb⟩; refine ⟨_, rfl, ?_⟩; have n0_ := Aside0.mk (below_step (by repeat (first | (with_reducible first | exact HB.out | apply below_alloc | apply pw_below_drewN | apply below_drew1) | exact HB.out)) hb); clear HB; have HB := n0_; clear n0_; (try clear hb); (try clear hb2); (try clear hk); (try clear hi)) | ((with_reducible refine gate_dst (N := 10) rfl ?_); refine Kd.R_lit Kd.string _ 9 ?hg (N := 10) ?hd (xs := ([] : List ByteArray)) (inner := []) (ok := fun _ => True) (okp := fun _ => True) ?hr ?hp (fun _ hk => hk) trivial (Below.refl _ _) (Nat.le_refl _) (by simp) ?_; (case hd => rfl); (case hg => rfl); (case hr => first | (go_simp; done) | (go_simp; rfl)); (case hp => exact (Reps.none _ _)); intro v131 w5 ho6 hb hg_ hnew_; clear hg_ hnew_; (first | rw [← Ny130.out] at ho6 | (simp only [Int.reduceToNat] at ho6; rw [← Ny130.out] at ho6)); have n0_ := Aside0.mk (Kd.R_lower ho6 (below_size (by repeat (first | (with_reducible first | exact HB.out | apply below_alloc | apply pw_below_drewN | apply below_drew1) | exact HB.out)))); have n1_ := Aside0.mk (below_step (by repeat (first | (with_reducible first | exact HB.out | apply below_alloc | apply pw_below_drewN | apply below_drew1) | exact HB.out)) hb); clear HB; have HO132 := n0_; have HB := n1_; clear n0_ n1_; clear hb ho6))
    go_loopg [4, 13] k (fun kq v4 v13 w' => ∃ (x4_1 : List ByteArray) (x13_1 : Int), v13 = .int .i64 x13_1 ∧ Aside0 (impl_FormatProgram.l0 kq x4_1 l0 (l0.length : Int) x13_1 = some (r1, r2)) ∧ Aside0 (kq ≤ k) ∧ Aside0 (Kd.R Kd.string 9 w' w.heap.size (fun _ => True) v4 x4_1) ∧ Aside0 (Below w.heap.size w w'))
    case atStart => exact ⟨(y130), (0), (by first | rfl | (simp; done) | (simp [*]; done)), H', ⟨Nat.le_refl _⟩, ⟨by (with_reducible repeat (first | apply Kd.R_alloc | apply Kd.R_drewN | apply Kd.R_drew)); exact HO132.out⟩, ⟨by repeat (first | (with_reducible first | exact HB.out | apply below_alloc | apply pw_below_drewN | apply below_drew1) | exact HB.out)⟩⟩
    case round =>
      clear H'
      try clear c2
      try clear p2
      try clear c3
      try clear c5
      obtain ⟨x4_1, x13_1, rfl, HA, HK1, HO_4, HB⟩ := hrel
      cases gk with
      | zero => exact absurd HA.out (by simp [impl_FormatProgram.l0])
      | succ k1 =>
        have H := HA.out
        clear HA
        simp only [impl_FormatProgram.l0] at H
        by_cases c7 : x13_1 < (l0.length : Int)
        · rw [if_pos c7] at H
          have c7b0 : decide (x13_1 < (l0.length : Int)) = true := decide_eq_true c7
          clear c7
          by_cases c8 : 0 ≤ x13_1
          · rw [if_pos c8] at H
            have c8b0 : decide (0 ≤ x13_1) = true := decide_eq_true c8
            clear c8
            by_cases c9 : x13_1 < (l0.length : Int)
            · rw [if_pos c9] at H
              have c9b0 : decide (x13_1 < (l0.length : Int)) = true := decide_eq_true c9
              clear c9
              replace H := Option.bind_eq_some_iff.mp H
              obtain ⟨t135, A100, H⟩ := H
              replace H : (if x4_1.length < 8796093022208 then (impl_FormatProgram.l0 k1 (x4_1 ++ [t135]) l0 (l0.length : Int) (wrap64 (x13_1 + 1))) else (none)) = some (r1, r2) := H
              have A10 := Aside0.mk A100
              clear A100
              by_cases c11 : x4_1.length < 8796093022208
              · rw [if_pos c11] at H
                have LMc11 := Aside0.mk c11
                clear c11
                obtain ⟨y136, hy136⟩ : ∃ y_ : List ByteArray, y_ = (x4_1 ++ [t135]) := ⟨_, rfl⟩
                replace H : (impl_FormatProgram.l0 k1 y136 l0 (l0.length : Int) (wrap64 (x13_1 + 1))) = some (r1, r2) := by first | (rw [hy136]; with_reducible exact H) | (have H2_ := (Option.bind_some _ _).symm.trans H; rw [hy136]; with_reducible exact H2_) | (have H2_ := (Option.bind_some _ _).symm.trans H; with_reducible exact H2_) | with_reducible exact H | (rw [hy136]; exact H) | exact H
                have Ny136 := Aside0.mk hy136
                clear hy136
                have H' := Aside0.mk H
                clear H
                have p133 : 0 ≤ (x13_1 : Int) := of_decide_eq_true (by first | (with_reducible assumption) | assumption)
                have q133 : x13_1 < (l0.length : Int) := of_decide_eq_true (by first | (with_reducible assumption) | assumption)
                obtain ⟨ad133, e133, hx133_0, hx133_1, hx133_2, hx133_3⟩ := at_T31 HR0.out x13_1 p133 q133
                cases e133
                replace hx133_0 := (HB.out.cell (World.block_lt_of_cell? w _ hx133_0)).trans hx133_0
                replace hx133_1 := (HB.out.cell (World.block_lt_of_cell? w _ hx133_1)).trans hx133_1
                replace hx133_2 := (HB.out.cell (World.block_lt_of_cell? w _ hx133_2)).trans hx133_2
                replace hx133_3 := (HB.out.cell (World.block_lt_of_cell? w _ hx133_3)).trans hx133_3
                replace p133 := eq_true p133
                replace q133 := eq_true q133
                go_wp2_with (first | ((with_reducible refine gate_dst (N := 6) rfl ?_); refine box_event ?hg (N := 6) ?hd (cs := #[.int .i64 0, .int .i64 0, .int .i64 0, .int .i64 0]) (t := 31) ?hr ?_; (case hd => rfl); (case hg => rfl); (case hr => first | (go_simp; done) | (go_simp; rfl)); intro gb134 hg w12 hbox hb; have n0_ := Aside0.mk (Kd.R_below (by (with_reducible repeat (first | apply Kd.R_alloc | apply Kd.R_drewN | apply Kd.R_drew)); exact HO_4.out) hb); have n1_ := Aside0.mk (below_step (by repeat (first | (with_reducible first | exact HB.out | apply below_alloc | apply pw_below_drewN | apply below_drew1) | exact HB.out)) hb); have n2_ := Aside0.mk (hbox); have n3_ := Aside0.mk ((by rw [hg]; exact (below_size (by repeat (first | (with_reducible first | exact HB.out | apply below_alloc | apply pw_below_drewN | apply below_drew1) | exact HB.out))) : w.heap.size ≤ gb134)); have n4_ := Aside0.mk ((by rw [hg]; exact (below_size (by repeat (first | (with_reducible first | exact HB.out | apply below_alloc | apply pw_below_drewN | apply below_drew1) | exact HB.out))) : w.heap.size ≤ gb134)); clear HO_4; clear HB; have HO_4 := n0_; have HB := n1_; have BK134 := n2_; have GW134 := n3_; have GE134 := n4_; clear n0_ n1_ n2_ n3_ n4_; clear hb hbox hg; have hcz13_0 : w12.cell? ⟨gb134, 0, none⟩ = some (.int .i64 0) := (blk_cell BK134.out 0).trans rfl; have hcz13_1 : w12.cell? ⟨gb134, 1, none⟩ = some (.int .i64 0) := (blk_cell BK134.out 1).trans rfl; have hcz13_2 : w12.cell? ⟨gb134, 2, none⟩ = some (.int .i64 0) := (blk_cell BK134.out 2).trans rfl; have hcz13_3 : w12.cell? ⟨gb134, 3, none⟩ = some (.int .i64 0) := (blk_cell BK134.out 3).trans rfl; have hfz13_0 := blk_frozen BK134.out 0; have hfz13_1 := blk_frozen BK134.out 1; have hfz13_2 := blk_frozen BK134.out 2; have hfz13_3 := blk_frozen BK134.out 3) | ((with_reducible refine gate_callee (f := 19) rfl ?_); refine goesL_ (some 19) rfl rfl Tryd.func19 (by kernel_rfl) rfl #[.agg #[.int .i64 ((rd_T31 l0 x13_1).f0), .int .i64 ((rd_T31 l0 x13_1).f1), .int .i64 ((rd_T31 l0 x13_1).f2), .int .i64 ((rd_T31 l0 x13_1).f3)]] rfl (by (try simp only [List.map_toArray, List.map_cons, List.map_nil]); first | done | rfl | (simp only [List.length_drop, List.length_take]; rfl)) ?_; (with_reducible refine (impl_FormatIns.calls k1 ((rd_T31 l0 x13_1).f0) ((rd_T31 l0 x13_1).f1) ((rd_T31 l0 x13_1).f2) ((rd_T31 l0 x13_1).f3) t135 _ A10.out ?sideTP).mono ?_); (case sideTP => exact Tabs.TP.stays HTTP.out (by repeat (first | (with_reducible first | exact HB.out | apply below_alloc | apply pw_below_drewN | apply below_drew1 | refine below_set ?_ GE134.out) | exact HB.out))); rintro e w14 ⟨rfl, hb⟩; refine ⟨_, rfl, ?_⟩; have n0_ := Aside0.mk (Kd.R_below (by (with_reducible repeat (first | apply Kd.R_alloc | apply Kd.R_drewN | apply Kd.R_drew)); exact (Kd.R_mono (Kd.R_far (p := ⟨gb134, 3, none⟩) (Kd.R_far (p := ⟨gb134, 2, none⟩) (Kd.R_far (p := ⟨gb134, 1, none⟩) (Kd.R_far (p := ⟨gb134, 0, none⟩) (Kd.R_types HO_4.out BK134.out (by decide)) (fun _ hk => hk.2) (.int .i64 ((rd_T31 l0 x13_1).f0))) (fun _ hk => hk.2) (.int .i64 ((rd_T31 l0 x13_1).f1))) (fun _ hk => hk.2) (.int .i64 ((rd_T31 l0 x13_1).f2))) (fun _ hk => hk.2) (.int .i64 ((rd_T31 l0 x13_1).f3))) (fun _ h_ => h_.1))) hb); have n1_ := Aside0.mk (blk_below (g := gb134) (o := .cells #[.int .i64 ((rd_T31 l0 x13_1).f0), .int .i64 ((rd_T31 l0 x13_1).f1), .int .i64 ((rd_T31 l0 x13_1).f2), .int .i64 ((rd_T31 l0 x13_1).f3)] 31 (0, 0)) (by (with_reducible repeat (first | refine blk_drewN ?_ _ | refine blk_drew ?_ | refine blk_alloc ?_ _)); refine blk_put (cs := #[.int .i64 ((rd_T31 l0 x13_1).f0), .int .i64 ((rd_T31 l0 x13_1).f1), .int .i64 ((rd_T31 l0 x13_1).f2), .int .i64 0]) ?_ 3 _ rfl; (with_reducible repeat (first | refine blk_drewN ?_ _ | refine blk_drew ?_ | refine blk_alloc ?_ _)); refine blk_put (cs := #[.int .i64 ((rd_T31 l0 x13_1).f0), .int .i64 ((rd_T31 l0 x13_1).f1), .int .i64 0, .int .i64 0]) ?_ 2 _ rfl; (with_reducible repeat (first | refine blk_drewN ?_ _ | refine blk_drew ?_ | refine blk_alloc ?_ _)); refine blk_put (cs := #[.int .i64 ((rd_T31 l0 x13_1).f0), .int .i64 0, .int .i64 0, .int .i64 0]) ?_ 1 _ rfl; (with_reducible repeat (first | refine blk_drewN ?_ _ | refine blk_drew ?_ | refine blk_alloc ?_ _)); refine blk_put (cs := #[.int .i64 0, .int .i64 0, .int .i64 0, .int .i64 0]) ?_ 0 _ rfl; (with_reducible repeat (first | refine blk_drewN ?_ _ | refine blk_drew ?_ | refine blk_alloc ?_ _)); exact BK134.out) hb); have n2_ := Aside0.mk (below_step (by repeat (first | (with_reducible first | exact HB.out | apply below_alloc | apply pw_below_drewN | apply below_drew1 | refine below_set ?_ GE134.out) | exact HB.out)) hb); clear HO_4; clear BK134; clear HB; have HO_4 := n0_; have BK134 := n1_; have HB := n2_; clear n0_ n1_ n2_; (try clear hb); (try clear hb2); (try clear hk); (try clear hi)) | ((with_reducible refine gate_builtin (b := .append) (xs := #[.tmp 17, .tmp 20]) rfl ?_); at_builtin; refine Kd.R_append Kd.string (w0 := w) w.heap.size rfl (.tmp 17) (.tmp 20) 22 9 (.string ⟨#[]⟩) 16 rfl Tryd.underlying22 info9 rfl (by decide) (by omega) u4 x4_1 t135 [.string t135] (fun _ => True) (fun _ => False) rfl rfl ?aP (fun _ hk => hk.elim) ?aF ?aO ?aB ?aS ?aL ?_; (case aP => exact rfl); (case aB => exact (by repeat (first | (with_reducible first | exact HB.out | apply below_alloc | apply pw_below_drewN | apply below_drew1 | refine below_set ?_ GE134.out) | exact HB.out))); (case aF => exact (fun _ _ => trivial)); (case aO => exact (by (with_reducible repeat (first | apply Kd.R_alloc | apply Kd.R_drewN | apply Kd.R_drew)); exact HO_4.out)); (case aS => exact (below_size (by repeat (first | (with_reducible first | exact HB.out | apply below_alloc | apply pw_below_drewN | apply below_drew1 | refine below_set ?_ GE134.out) | exact HB.out)))); (case aL => have := LMc11.out; omega); intro v137 w15 ho hb hg hat; rw [← Ny136.out] at ho; have n0_ := Aside0.mk (blk_grown (g := gb134) (o := .cells #[.int .i64 ((rd_T31 l0 x13_1).f0), .int .i64 ((rd_T31 l0 x13_1).f1), .int .i64 ((rd_T31 l0 x13_1).f2), .int .i64 ((rd_T31 l0 x13_1).f3)] 31 (0, 0)) (by (with_reducible repeat (first | refine blk_drewN ?_ _ | refine blk_drew ?_ | refine blk_alloc ?_ _)); exact BK134.out) hg (Kd.R_ne HO_4.out BK134.out (by decide))); have n1_ := Aside0.mk (hb); have n2_ := Aside0.mk (ho); clear BK134; clear HB; clear HO_4; have BK134 := n0_; have HB := n1_; have HO138 := n2_; clear n0_ n1_ n2_; clear ho hb hg hat))
                go_roundg k1
                case measure => have := HK1.out; omega
                case rel => exact ⟨(y136), (wrap64 (x13_1 + 1)), (by first | rfl | (simp; done) | (simp [*]; done)), H', ⟨by have := HK1.out; omega⟩, ⟨by (with_reducible repeat (first | apply Kd.R_alloc | apply Kd.R_drewN | apply Kd.R_drew)); exact HO138.out⟩, ⟨by repeat (first | (with_reducible first | exact HB.out | apply below_alloc | apply pw_below_drewN | apply below_drew1 | refine below_set ?_ GE134.out) | exact HB.out)⟩⟩
              · rw [if_neg c11] at H
                exact absurd H (by simp)
            · rw [if_neg c9] at H
              exact absurd H (by simp)
          · rw [if_neg c8] at H
            exact absurd H (by simp)
        · rw [if_neg c7] at H
          have c7b0 : decide (x13_1 < (l0.length : Int)) = false := decide_eq_false c7
          clear c7
          simp only [Option.some.injEq, Prod.mk.injEq] at H
          obtain ⟨rfl, rfl⟩ := H
          go_wp2
          go_ret2
          exact ⟨_, by first | rfl | (simp [errW_none, errW_some] <;> rfl) | (simp [*, errW_none, errW_some] <;> rfl) | (simp [errW_none, errW_some]; exact MakeAid.isEmpty_ne _), by (with_reducible repeat (first | apply Kd.R_alloc | apply Kd.R_drewN | apply Kd.R_drew)); exact HO_4.out, by repeat (first | (with_reducible first | exact HB.out | apply below_alloc | apply pw_below_drewN | apply below_drew1) | exact HB.out)⟩
  · replace c3 := Bool.eq_false_iff.mpr c3
    subst c3
    have H1 : (some (([] : List ByteArray), false)) = some (r1, r2) := by rw [if_neg (show ¬ (false = true) by decide)] at H; exact H
    clear H
    have H := H1
    clear H1
    simp only [Option.some.injEq, Prod.mk.injEq] at H
    obtain ⟨rfl, rfl⟩ := H
    go_enter Tryd.func23, Tryd.ntmps23
    go_wp2_with (first | ((with_reducible refine gate_callee (f := 55) rfl ?_); refine goesL_ (some 8) rfl rfl Tryd.func55 (by kernel_rfl) rfl #[.slice A0 l0.length c0] rfl (by (try simp only [List.map_toArray, List.map_cons, List.map_nil]); first | done | rfl | (simp only [List.length_drop, List.length_take]; rfl)) ?_; (with_reducible refine (impl_ProgramOk.calls _ _ l0 false _ ?side1 ?side2 A2.out).mono ?_); (case side1 => repeat (first | exact HR0.out | (with_reducible refine Kd.C_alloc ?_ _) | (with_reducible refine Kd.C_drewN ?_ _) | (with_reducible refine Kd.C_drew ?_))); (case side2 => exact HC0.out); rintro e w16 ⟨rfl, hb⟩; refine ⟨_, rfl, ?_⟩; have n0_ := Aside0.mk (below_step (by repeat (first | (with_reducible first | exact HB.out | apply below_alloc | apply pw_below_drewN | apply below_drew1) | exact HB.out)) hb); clear HB; have HB := n0_; clear n0_; (try clear hb); (try clear hb2); (try clear hk); (try clear hi)))
    go_ret2
    exact ⟨_, by first | rfl | (simp [errW_none, errW_some] <;> rfl) | (simp [*, errW_none, errW_some] <;> rfl) | (simp [errW_none, errW_some]; exact MakeAid.isEmpty_ne _), by first | exact Kd.R_nil _ _ _ _ _ | exact Kd.N_nil _ _ _ _ _ | exact Kd.V_nil _ _ _ _ _ | exact Kd.Q_nil _ _ _ _ _ | exact Kd.S_nil _ _ _ _ _, by repeat (first | (with_reducible first | exact HB.out | apply below_alloc | apply pw_below_drewN | apply below_drew1) | exact HB.out)⟩

/-! ### laws_big: function 26 -/
def laws_big.f (l0 : List Int) : Option (Bool) := some (decide ((l0.length : Int) > 1048576))
set_option maxHeartbeats 8000000 in
set_option maxRecDepth 100000 in
theorem laws_big.calls (A0 : Option Addr) (c0 : Nat) (l0 : List Int) (r : Bool) (w : World) (hr0 : Kd.C (Kd.int .u8) w A0 l0.length l0) (hc0 : l0.length ≤ c0) (h : laws_big.f l0 = some r) :
    Calls Tryd.prog 26 #[.slice A0 l0.length c0] w fun e w' => e = .returned (.bool r) ∧ Drawn0 w w' := by
  have HR0 := Aside0.mk hr0
  have HC0 := Aside0.mk hc0
  clear hr0 hc0
  have H : (some (decide ((l0.length : Int) > 1048576))) = some r := h
  clear h
  obtain rfl := Option.some.inj H
  go_enter Tryd.func26, Tryd.ntmps26
  go_wp2
  go_ret
  exact ⟨by first | rfl | (simp; done) | (simp [*]; done), by repeat (first | exact Drawn0.refl _ | apply Drawn0.step)⟩

/-! ### slices_ContainsFunc_byte_byte: function 43 -/
/-- The first place at which p holds, or -1. -/
def IdxB.idx (p : Int → Bool) (l : List Int) : Int := match l.findIdx? p with | some i => (i : Int) | none => -1
theorem IdxB.idx_hit (p : Int → Bool) (l : List Int) (i : Int) (h0 : 0 ≤ i) (h1 : i < l.length) (hp : p (rd l i) = true) (hl : ∀ j : Int, 0 ≤ j → j < i → p (rd l j) = false) : IdxB.idx p l = i := by
  obtain ⟨n, rfl⟩ := Int.eq_ofNat_of_zero_le h0
  have hn : n < l.length := by omega
  have e : l.findIdx? p = some n := by
    rw [List.findIdx?_eq_some_iff_getElem]
    refine ⟨hn, ?_, fun j hj => ?_⟩
    · have := hp
      simp [rd, List.getD_eq_getElem?_getD, hn] at this
      exact this
    · have := hl (j : Int) (by omega) (by omega)
      have hjl : j < l.length := by omega
      simp [rd, List.getD_eq_getElem?_getD, hjl] at this
      simp [this]
  simp [IdxB.idx, e]
theorem IdxB.idx_miss (p : Int → Bool) (l : List Int) (hl : ∀ j : Int, 0 ≤ j → j < l.length → p (rd l j) = false) : IdxB.idx p l = -1 := by
  have e : l.findIdx? p = none := by
    rw [List.findIdx?_eq_none_iff]
    intro x hx
    obtain ⟨j, hj, rfl⟩ := List.mem_iff_getElem.1 hx
    have := hl (j : Int) (by omega) (by omega)
    simpa [rd, List.getD_eq_getElem?_getD, hj] using this
  simp [IdxB.idx, e]
theorem IdxB.idx_any (p : Int → Bool) (l : List Int) : decide (IdxB.idx p l ≥ 0) = l.any p := by
  unfold IdxB.idx
  cases h : l.findIdx? p with
  | none =>
    rw [List.findIdx?_eq_none_iff] at h
    have : l.any p = false := by simpa using h
    simp [this]
  | some i =>
    rw [List.findIdx?_eq_some_iff_getElem] at h
    obtain ⟨hi, hp, _⟩ := h
    have : l.any p = true := List.any_eq_true.2 ⟨_, List.getElem_mem hi, hp⟩
    simp [this]
theorem IdxB.rd_mem (l : List Int) (i : Int) (h0 : 0 ≤ i) (h1 : i < l.length) : rd l i ∈ l := by
  obtain ⟨n, rfl⟩ := Int.eq_ofNat_of_zero_le h0
  have hn : n < l.length := by omega
  simp [rd, List.getD_eq_getElem?_getD, hn]

/-- What is asked of the function value. -/
def IdxB.Pays (g : Nat) (lb : Array Value) (p : Int → Bool) (l : List Int) (w : World) : Prop :=
  ∀ W : World, Below w.heap.size w W → ∀ x ∈ l, Calls Tryd.prog g (#[.int .u8 x] ++ lb) W fun e w' => e = .returned (.bool (p x)) ∧ Below w.heap.size w w'

set_option maxHeartbeats 8000000 in
set_option maxRecDepth 100000 in
theorem IdxB.index (g : Nat) (lb : Array Value) (eg : ∀ args w, (callFunc g args).run Tryd.prog w = .ok (.enter g args) w) (p : Int → Bool) (A0 : Option Addr) (c0 : Nat) (l0 : List Int) (w : World)
    (hp : IdxB.Pays g lb p l0 w) (hr0 : Kd.C (Kd.int .u8) w A0 l0.length l0) (hc0 : l0.length ≤ c0) :
    Calls Tryd.prog 70 #[.slice A0 l0.length c0, .func (.func g) #[] lb] w fun e w' => e = .returned (.int .i64 (IdxB.idx p l0)) ∧ Below w.heap.size w w' := by
  have HR0 := Aside0.mk hr0
  have HC0 := Aside0.mk hc0
  have HL := Aside0.mk (show l0.length ≤ 9223372036854775807 from hr0.2.1)
  have HP := Aside0.mk hp
  clear hr0 hc0 hp
  have HB := Aside0.mk (Below.refl w.heap.size w)
  have hlen : l0.length ≤ 9223372036854775807 := HL.out
  go_enter Tryd.func70, Tryd.ntmps70
  go_wp2
  go_loopg [5, 8] l0.length (fun gg _ s8 wr => ∃ x8 : Int, s8 = .int .i64 x8 ∧ 0 ≤ x8 ∧ x8 ≤ l0.length ∧ (l0.length : Int) - x8 ≤ gg ∧ Aside0 (Below w.heap.size w wr) ∧ Aside0 (∀ j : Int, 0 ≤ j → j < x8 → p (rd l0 j) = false))
  case atStart => exact ⟨0, rfl, by omega, by omega, by omega, ⟨HB.out⟩, ⟨fun j h0 h1 => by omega⟩⟩
  case round =>
    obtain ⟨x8, rfl, h0, h1, hg, HB, HA⟩ := hrel
    by_cases c2 : x8 < (l0.length : Int)
    · obtain ⟨ad101, e101, hx101⟩ := Kd.at_int HR0.out x8 h0 c2
      cases e101
      replace hx101 := pw_cell_below HB.out hx101
      have hcall := HP.out wr HB.out _ (IdxB.rd_mem l0 x8 h0 c2)
      generalize hy : rd l0 x8 = y at hx101 hcall
      have HY := Aside0.mk hy
      clear hy
      cases hq : p y with
      | true =>
        rw [hq] at hcall
        have HQ := Aside0.mk hq
        clear hq
        go_wp2_with (go_at_fn g; refine hcall.mono ?_; rintro e w' ⟨rfl, hb'⟩)
        go_ret
        exact ⟨by rw [IdxB.idx_hit p l0 x8 h0 c2 (by rw [HY.out]; exact HQ.out) HA.out]; rfl, hb'⟩
      | false =>
        rw [hq] at hcall
        have HQ := Aside0.mk hq
        clear hq
        go_wp2_with (go_at_fn g; refine hcall.mono ?_; rintro e w' ⟨rfl, hb'⟩)
        go_roundg (gk - 1)
        case measure => omega
        case rel =>
          refine ⟨x8 + 1, by first | rfl | (simp; done) | (simp [*]; done), by omega, by omega, by omega, ⟨hb'⟩, ⟨fun j hj0 hj1 => ?_⟩⟩
          by_cases e : j = x8
          · subst e; rw [HY.out]; exact HQ.out
          · exact HA.out j hj0 (by omega)
    · have c3 : x8 = l0.length := by omega
      have HC := Aside0.mk c3
      clear c3
      go_wp2
      go_ret
      exact ⟨by rw [IdxB.idx_miss p l0 (fun j hj0 hj1 => HA.out j hj0 (by have := HC.out; omega))]; rfl, HB.out⟩

set_option maxHeartbeats 8000000 in
set_option maxRecDepth 100000 in
theorem IdxB.contains (g : Nat) (lb : Array Value) (eg : ∀ args w, (callFunc g args).run Tryd.prog w = .ok (.enter g args) w) (p : Int → Bool) (A0 : Option Addr) (c0 : Nat) (l0 : List Int) (w : World)
    (hp : IdxB.Pays g lb p l0 w) (hr0 : Kd.C (Kd.int .u8) w A0 l0.length l0) (hc0 : l0.length ≤ c0) :
    Calls Tryd.prog 43 #[.slice A0 l0.length c0, .func (.func g) #[] lb] w fun e w' => e = .returned (.bool (l0.any p)) ∧ Below w.heap.size w w' := by
  have hcon := IdxB.index g lb eg p A0 c0 l0 w hp hr0 hc0
  rw [← IdxB.idx_any p l0]
  clear hp hr0 hc0 eg
  generalize IdxB.idx p l0 = r at hcon ⊢
  go_enter Tryd.func43, Tryd.ntmps43
  go_wp2_with (go_at_call 70; refine hcon.mono ?_; rintro e w' ⟨rfl, hb'⟩)
  go_ret
  exact ⟨rfl, hb'⟩

/-! ### impl_SplitFields: function 13 -/
def impl_SplitFields.bad (b : Int) : Bool := decide (b < 32) || decide (126 < b)
def impl_SplitFields.f (a0 : ByteArray) : Option (List ByteArray × Bool) :=
  if 600 < a0.size then some ([], false) else if a0.data.toList.any (fun b => impl_SplitFields.bad b.toNat) = true then some ([], false)
  else if 24 < (Lib.fields a0.data.toList).length then some ([], false) else some ((Lib.fields a0.data.toList).map fun l => ⟨l.toArray⟩, true)
set_option maxHeartbeats 8000000 in
set_option maxRecDepth 100000 in
theorem impl_SplitFields.inner (x : Int) (W : World) : Calls Tryd.prog 44 #[.int .u8 x] W fun e w' => e = .returned (.bool (impl_SplitFields.bad x)) ∧ ∃ q, w' = W.drewN q := by
  unfold impl_SplitFields.bad
  by_cases h1 : x < 32
  · have c1 : decide (x < 32) = true := decide_eq_true h1
    go_enter Tryd.func44, Tryd.ntmps44
    go_wp2
    go_ret
    exact ⟨by simp [h1], 0, rfl⟩
  · have c1 : decide (x < 32) = false := decide_eq_false h1
    go_enter Tryd.func44, Tryd.ntmps44
    go_wp2
    go_ret
    exact ⟨by simp [h1], 0, rfl⟩
set_option maxHeartbeats 8000000 in
set_option maxRecDepth 100000 in
theorem impl_SplitFields.calls (a0 : ByteArray) (r1 : List ByteArray) (r2 : Bool) (w : World) (h : impl_SplitFields.f a0 = some (r1, r2)) (HTA : Tabs.TA w) :
    Calls Tryd.prog 13 #[.string a0] w fun e w' => ∃ v0_ : Value, e = .returned (.tuple #[v0_, .bool r2]) ∧ Kd.R Kd.string 9 w' w.heap.size (fun _ => True) v0_ r1 ∧ Below w.heap.size w w' := by
  unfold impl_SplitFields.f at h
  by_cases h1 : 600 < a0.size
  · rw [if_pos h1] at h
    obtain ⟨rfl, rfl⟩ : [] = r1 ∧ false = r2 := ⟨congrArg Prod.fst (Option.some.inj h), congrArg Prod.snd (Option.some.inj h)⟩
    have c1 : (600 : Int) < (a0.size : Int) := by omega
    clear h h1 HTA
    go_enter Tryd.func13, Tryd.ntmps13
    go_wp2
    go_ret2
    exact ⟨_, rfl, Kd.R_nil _ _ _ _ _, Below.refl _ _⟩
  · rw [if_neg h1] at h
    have c1 : ¬ (600 : Int) < (a0.size : Int) := by omega
    have hlen : a0.size ≤ 600 := by omega
    have hcv := Lib.run_convert_string_bytes (P := Tryd.prog) w 9 42 5 a0 (u := .string) Tryd.underlying9 Tryd.underlying42 Tryd.underlying5
    have hb1 := Lib.bytesWorld_below w 5 a0
    have hds : a0.data.toList.length = a0.size := Array.length_toList
    obtain ⟨l, hl⟩ : ∃ l : List Int, l = a0.data.toList.map fun b => (b.toNat : Int) := ⟨_, rfl⟩
    have hll : l.length = a0.size := by rw [hl, List.length_map, hds]
    have hC : Kd.C (Kd.int .u8) (Lib.bytesWorld w 5 a0) (some ⟨w.heap.size, 0, none⟩) l.length l := by
      refine Kd.C_of_reads (d := (0 : Int)) ⟨rfl, by omega, fun hp => ⟨_, rfl, fun j hj => ?_⟩⟩
      have hc := Lib.bytesWorld_cell w 5 a0 j (by omega)
      have e1 : l.getD j 0 = ((a0.data.toList.getD j 0).toNat : Int) := by
        rw [hl, List.getD_eq_getElem?_getD, List.getD_eq_getElem?_getD, List.getElem?_map]
        cases a0.data.toList[j]? <;> rfl
      rw [add_at, Nat.zero_add, e1]
      exact hc
    have hany : a0.data.toList.any (fun b => impl_SplitFields.bad b.toNat) = l.any impl_SplitFields.bad := by
      rw [hl, List.any_map]; rfl
    have hcon := IdxB.contains 44 #[] (enters_of Tryd.func44 (by kernel_rfl) rfl) impl_SplitFields.bad (some ⟨w.heap.size, 0, none⟩) (grownCap w a0.size 0 5) l (Lib.bytesWorld w 5 a0)
      (fun W hb x _ => by
        refine Calls.mono (by simpa using impl_SplitFields.inner x W) ?_
        rintro e w' ⟨rfl, q, rfl⟩
        exact ⟨rfl, pw_below_drewN hb q⟩) hC (by rw [hll]; exact grownCap_ge w _ _ _)
    rw [hll] at hcon
    rw [hany] at h
    have hasc : l.any impl_SplitFields.bad = false → ∀ (j : Nat) (b : UInt8), a0.data.toList[j]? = some b → b.toNat < 128 := by
      intro hn j b hj
      rw [← hany, List.any_eq_false] at hn
      have := hn b (List.mem_of_getElem? hj)
      unfold impl_SplitFields.bad at this
      simp at this
      omega
    have HTA := Aside0.mk HTA
    generalize Lib.bytesWorld w 5 a0 = W1 at hcv hb1 hcon
    clear hC hany hl hll hds h1
    cases hq : l.any impl_SplitFields.bad with
    | true =>
      rw [hq] at h hcon
      rw [if_pos rfl] at h
      obtain ⟨rfl, rfl⟩ : [] = r1 ∧ false = r2 := ⟨congrArg Prod.fst (Option.some.inj h), congrArg Prod.snd (Option.some.inj h)⟩
      clear h hasc hq
      have HB1 := Aside0.mk hb1
      clear hb1
      go_enter Tryd.func13, Tryd.ntmps13
      go_wp2_with (go_at_call 43; refine hcon.mono ?_; rintro e w2 ⟨rfl, hb2⟩)
      go_ret2
      exact ⟨_, rfl, Kd.R_nil _ _ _ _ _, below_then HB1.out HB1.out.size hb2⟩
    | false =>
      rw [hq] at h hcon
      rw [if_neg (by decide)] at h
      have hF : ∀ W, Below W1.heap.size W1 W → Calls Tryd.prog 45 #[.string a0] W fun e w' => ∃ v A c, e = .returned v ∧ v = .slice A (Lib.fields a0.data.toList).length c ∧ Kd.R Kd.string 9 w' w.heap.size (fun _ => True) v ((Lib.fields a0.data.toList).map fun l => (⟨l.toArray⟩ : ByteArray)) ∧ Below w.heap.size w w' := fun W hb => by
        have hb2 := below_then hb1 hb1.size hb
        refine (Tryd.strings_Fields a0 W (by omega) (hasc hq) (HTA.out.stays hb2)).mono ?_
        rintro e w' ⟨rfl, rfl⟩
        have hn := Aid.fields_count a0.data.toList
        have hds : a0.data.toList.length = a0.size := Array.length_toList
        refine ⟨_, _, _, rfl, rfl, Kd.R_of_own (enc := Value.string) (h1 := fun _ => rfl) ?_ (fun _ _ => trivial), below_alloc hb2 _⟩
        rw [List.length_map]
        exact ⟨by simp [encs], .inr ⟨W.heap.size, _, _, rfl, hb2.size, heap_alloc_new W _, Nat.le_refl _, by unfold maxLen; omega, by simp, by simp [encs, Function.comp_def]; exact List.take_of_length_le (by simp)⟩⟩
      have hb12 := hb1
      clear hasc hq hb1
      generalize ((Lib.fields a0.data.toList).map fun l => (⟨l.toArray⟩ : ByteArray)) = F at h hF
      generalize (Lib.fields a0.data.toList).length = m at h hF
      by_cases h2 : 24 < m
      · rw [if_pos h2] at h
        obtain ⟨rfl, rfl⟩ : [] = r1 ∧ false = r2 := ⟨congrArg Prod.fst (Option.some.inj h), congrArg Prod.snd (Option.some.inj h)⟩
        have c2 : (24 : Int) < (m : Int) := by omega
        clear h h2
        go_enter Tryd.func13, Tryd.ntmps13
        go_wp2_with (first | (go_at_call 43; refine hcon.mono ?_; rintro e w2 ⟨rfl, hb2⟩) | (go_at_call 45; refine (hF _ (by assumption)).mono ?_; rintro e w3 ⟨v, A, c, rfl, rfl, hR, hb3⟩))
        go_ret2
        exact ⟨_, rfl, Kd.R_nil _ _ _ _ _, hb3⟩
      · rw [if_neg h2] at h
        obtain ⟨rfl, rfl⟩ : F = r1 ∧ true = r2 := ⟨congrArg Prod.fst (Option.some.inj h), congrArg Prod.snd (Option.some.inj h)⟩
        have c2 : ¬ (24 : Int) < (m : Int) := by omega
        clear h h2
        go_enter Tryd.func13, Tryd.ntmps13
        go_wp2_with (first | (go_at_call 43; refine hcon.mono ?_; rintro e w2 ⟨rfl, hb2⟩) | (go_at_call 45; refine (hF _ (by assumption)).mono ?_; rintro e w3 ⟨v, A, c, rfl, rfl, hR, hb3⟩))
        go_ret2
        exact ⟨_, rfl, hR, hb3⟩

/-! ### impl_ParseUint: function 31 -/
def impl_ParseUint.v (l : List UInt8) : Int × Bool := match Lib.atoiAll l with
  | .ok v => if 0 ≤ v ∧ v ≤ 1000000000 then (if Lib.itoa v = l then (v, true) else (0, false)) else (0, false)
  | _ => (0, false)
def impl_ParseUint.f (a0 : ByteArray) : Option (Int × Bool) := if a0.size ≤ 281474976710656 then some (impl_ParseUint.v a0.data.toList) else none
set_option maxHeartbeats 8000000 in
set_option maxRecDepth 100000 in
theorem impl_ParseUint.calls (a0 : ByteArray) (r1 : Int) (r2 : Bool) (w : World) (h : impl_ParseUint.f a0 = some (r1, r2)) (HTE : Tabs.TE w) (HTP : Tabs.TP w) :
    Calls Tryd.prog 31 #[.string a0] w fun e w' => e = .returned (.tuple #[.int .i64 r1, .bool r2]) ∧ Below w.heap.size w w' := by
  unfold impl_ParseUint.f at h
  by_cases hsz : a0.size ≤ 281474976710656
  · rw [if_pos hsz] at h
    have hv := Option.some.inj h
    clear h
    unfold impl_ParseUint.v at hv
    have bad : ∀ (x : Int) (T N : Nat), (Calls Tryd.prog 62 #[.string a0] w fun e w' => ∃ N, e = .returned (.tuple #[.int .i64 x, .iface T (.pointer (some ⟨N, 0, none⟩))]) ∧ Below w.heap.size w w') →
        Calls Tryd.prog 31 #[.string a0] w fun e w' => e = .returned (.tuple #[.int .i64 0, .bool false]) ∧ Below w.heap.size w w' := by
      intro x T N hc
      clear hv HTE HTP hsz
      go_enter Tryd.func31, Tryd.ntmps31
      go_wp2_with (go_at_call 62; refine hc.mono ?_; rintro e w' ⟨N, rfl, hb'⟩)
      go_ret2
      exact ⟨rfl, hb'⟩
    obtain ⟨⟨t1, p1, hS⟩, ⟨t2, p2, hR⟩⟩ := HTE
    cases ha : Lib.atoiAll a0.data.toList with
    | range =>
      rw [ha] at hv
      obtain ⟨rfl, rfl⟩ : (0 : Int) = r1 ∧ false = r2 := by simpa using hv
      exact bad _ _ 0 ((Tryd.strconv_Atoi_range_var a0 hsz ha t2 p2 w hR).mono fun e w' ⟨N, he, _, _, hb⟩ => ⟨N, he, hb⟩)
    | ok v =>
      rw [ha] at hv
      simp only at hv
      have hc : Calls Tryd.prog 62 #[.string a0] w fun e w' => e = .returned (.tuple #[.int .i64 v, .nilIface]) ∧ Below w.heap.size w w' :=
        (Tryd.strconv_Atoi_ok a0 (by omega) v ha w).mono fun e w' ⟨he, hw⟩ => ⟨he, by
          rcases hw with rfl | ⟨t, rfl⟩
          · exact Below.refl _ _
          · exact Lib.bytesWorld_below _ _ _⟩
      have hin : ∀ W, Below w.heap.size w W → Calls Tryd.prog 63 #[.int .i64 v, .int .i64 0, .int .i64 1000000000] W fun e w' => e = .returned (.bool (decide (0 ≤ v ∧ v ≤ 1000000000))) ∧ Below w.heap.size w w' := fun W hb =>
        (impl_within.calls v 0 1000000000 (decide (0 ≤ v ∧ v ≤ 1000000000)) W (by unfold impl_within.f; by_cases h0 : 0 ≤ v <;> simp [h0])).mono fun e w' ⟨he, hd⟩ => ⟨he, below_then hb hb.size hd.below⟩
      by_cases h1 : 0 ≤ v ∧ v ≤ 1000000000
      · rw [if_pos h1] at hv
        rw [decide_eq_true h1] at hin
        have hfm : ∀ W, Below w.heap.size w W → Calls Tryd.prog 28 #[.int .i64 v] W fun e w' => ∃ s : ByteArray, s.data.toList = Lib.itoa v ∧ e = .returned (.string s) ∧ Below w.heap.size w w' := fun W hb =>
          (impl_FormatInt.calls v ⟨(Lib.itoa v).toArray⟩ W (by unfold impl_FormatInt.f strconv_Itoa.f; rw [if_pos ⟨by omega, by omega⟩]; rfl) (HTP.stays hb)).mono fun e w' ⟨he, hd⟩ => ⟨_, rfl, he, below_then hb hb.size hd⟩
        by_cases h2 : Lib.itoa v = a0.data.toList
        · rw [if_pos h2] at hv
          obtain ⟨rfl, rfl⟩ : v = r1 ∧ true = r2 := by simpa using hv
          have hq : ∀ s : ByteArray, s.data.toList = Lib.itoa v → s = a0 := fun s hs => by
            have : s.data.toList = a0.data.toList := hs.trans h2
            cases s; cases a0; congr; simpa using this
          clear hv bad hS hR HTP ha h1 h2 hsz
          go_enter Tryd.func31, Tryd.ntmps31
          go_wp2_with (first | (go_at_call 62; refine hc.mono ?_; rintro e w1 ⟨rfl, hb1⟩) | (go_at_call 63; refine (hin _ (by assumption)).mono ?_; rintro e w2 ⟨rfl, hb2⟩) | (go_at_call 28; refine (hfm _ (by assumption)).mono ?_; rintro e w3 ⟨s, hs, rfl, hb3⟩; obtain rfl := hq s hs; clear hs))
          go_ret2
          exact ⟨rfl, hb3⟩
        · rw [if_neg h2] at hv
          obtain ⟨rfl, rfl⟩ : (0 : Int) = r1 ∧ false = r2 := by simpa using hv
          have hq : ∀ s : ByteArray, s.data.toList = Lib.itoa v → (s.toList == a0.toList) = false := fun s hs => by
            rw [ByteArray.toList_eq, ByteArray.toList_eq, hs]
            simpa using h2
          clear hv bad hS hR HTP ha h1 h2 hsz
          go_enter Tryd.func31, Tryd.ntmps31
          go_wp2_with (first | (go_at_call 62; refine hc.mono ?_; rintro e w1 ⟨rfl, hb1⟩) | (go_at_call 63; refine (hin _ (by assumption)).mono ?_; rintro e w2 ⟨rfl, hb2⟩) | (go_at_call 28; refine (hfm _ (by assumption)).mono ?_; rintro e w3 ⟨s, hs, rfl, hb3⟩; have hne := hq s hs; have hne2 : (!(s.toList == a0.toList)) = true := (by rw [hne]; rfl); clear hs))
          go_ret2
          exact ⟨rfl, hb3⟩
      · rw [if_neg h1] at hv
        obtain ⟨rfl, rfl⟩ : (0 : Int) = r1 ∧ false = r2 := by simpa using hv
        rw [decide_eq_false h1] at hin
        clear hv bad hS hR HTP ha h1 hsz
        go_enter Tryd.func31, Tryd.ntmps31
        go_wp2_with (first | (go_at_call 62; refine hc.mono ?_; rintro e w1 ⟨rfl, hb1⟩) | (go_at_call 63; refine (hin _ (by assumption)).mono ?_; rintro e w2 ⟨rfl, hb2⟩))
        go_ret2
        exact ⟨rfl, hb2⟩
    | _ =>
      rw [ha] at hv
      obtain ⟨rfl, rfl⟩ : (0 : Int) = r1 ∧ false = r2 := by simpa using hv
      exact bad 0 _ 0 ((Tryd.strconv_Atoi_syntax_var a0 hsz ha t1 p1 w hS).mono fun e w' ⟨N, he, _, _, hb⟩ => ⟨N, he, hb⟩)
  · rw [if_neg hsz] at h
    cases h

/-! ### impl_ParseIns: function 34 -/
def impl_ParseIns.put (t : Int × Int × Int) (i : Nat) (x : Int) : Int × Int × Int := if i = 0 then (x, t.2.1, t.2.2) else if i = 1 then (t.1, x, t.2.2) else (t.1, t.2.1, x)
def impl_ParseIns.go (ws : List ByteArray) : List UInt8 → Nat → Nat → Int × Int × Int → Option (Int × Int × Int)
  | [], _, _, t => some t
  | c :: cs, i, j, t => if c.toNat ≠ 45 ∧ j < ws.length then (impl_ParseUint.f (ws.getD j ByteArray.empty)).bind fun r => impl_ParseIns.go ws cs (i + 1) (j + 1) (impl_ParseIns.put t i r.1) else impl_ParseIns.go ws cs (i + 1) j t
def impl_ParseIns.f (k : Nat) (a0 : ByteArray) : Option (Int × Int × Int × Int × Bool) := (impl_SplitFields.f a0).bind fun s =>
  if s.2 = true then (if s.1.length = 0 then some (0, 0, 0, 0, false) else (impl_opNames.f).bind fun nm => (impl_formOf.f (Lib.idxOfS nm (s.1.getD 0 ByteArray.empty))).bind fun fm =>
    if fm.size ≤ 3 ∧ nm.length ≤ 140737488355328 ∧ s.1.length ≤ 140737488355328 ∧ (Lib.join (s.1.map (·.data.toList)) [32]).length ≤ 140737488355328 then (impl_ParseIns.go s.1 fm.data.toList 0 1 (0, 0, 0)).bind fun t =>
      (impl_FormatIns.f k (Lib.idxOfS nm (s.1.getD 0 ByteArray.empty)) t.1 t.2.1 t.2.2).bind fun x =>
        if x.toList = [] then some (0, 0, 0, 0, false) else if x.toList = Lib.join (s.1.map (·.data.toList)) [32] then some (Lib.idxOfS nm (s.1.getD 0 ByteArray.empty), t.1, t.2.1, t.2.2, true) else some (0, 0, 0, 0, false)
    else none)
  else some (0, 0, 0, 0, false)
theorem impl_ParseIns.mono : ∀ a0 k, LeO (impl_ParseIns.f k a0) (impl_ParseIns.f (k + 1) a0) := by
  intro a0 k
  unfold impl_ParseIns.f
  refine LeO.bind (LeO.refl _) fun s => ?_
  refine LeO.ite (LeO.ite (LeO.refl _) ?_) (LeO.refl _)
  refine LeO.bind (LeO.refl _) fun nm => LeO.bind (LeO.refl _) fun fm => LeO.ite ?_ (LeO.refl _)
  exact LeO.bind (LeO.refl _) fun t => LeO.bind (impl_FormatIns.mono _ _ _ _ _) fun x => LeO.refl _
theorem impl_ParseIns.row {W : World} {base : Nat} {ok : Nat → Prop} {v : Value} {xs : List ByteArray} (hR : Kd.R Kd.string 9 W base ok v xs) (hne : 0 < xs.length) :
    ∃ g c, v = .slice (some ⟨g, 0, none⟩) xs.length c ∧ base ≤ g ∧ g < W.heap.size ∧ xs.length ≤ c ∧ ∀ j, j < xs.length → W.cell? ⟨g, j, none⟩ = some (.string (xs.getD j ByteArray.empty)) := by
  have hown := Kd.own_of_R (enc := Value.string) (h1 := fun _ => rfl) hR
  rcases hown.2 with ⟨rfl, h0⟩ | ⟨g, cap, cur, rfl, hbase, hb, h1, h2, h3, h4⟩
  · omega
  · refine ⟨g, cap, rfl, hbase, blk_lt hb, h1, fun j hj => ?_⟩
    have := (Kd.R_cell (enc := Value.string) (h1 := fun _ => rfl) ByteArray.empty hR (j : Int) (by omega) (by omega)).1
    rw [Int.toNat_natCast] at this
    exact this
set_option maxHeartbeats 8000000 in
set_option maxRecDepth 100000 in
theorem impl_ParseIns.none_ (a0 : ByteArray) (ws : List ByteArray) (ok : Bool) (w : World) (hs : impl_SplitFields.f a0 = some (ws, ok)) (hno : ok = false ∨ ws.length = 0) (HTA : Tabs.TA w) :
    Calls Tryd.prog 34 #[.string a0] w fun e w' => e = .returned (.tuple #[.agg #[.int .i64 0, .int .i64 0, .int .i64 0, .int .i64 0], .bool false]) ∧ Below w.heap.size w w' := by
  have hsp : ∀ W, Below w.heap.size w W → Calls Tryd.prog 13 #[.string a0] W fun e w' => ∃ A c, e = .returned (.tuple #[.slice A ws.length c, .bool ok]) ∧ Below W.heap.size W w' := fun W hb =>
    (impl_SplitFields.calls a0 ws ok W hs (HTA.stays hb)).mono fun e w' ⟨v, he, hR, hb2⟩ => by
      obtain ⟨A, c, hv⟩ := Kd.R_slice hR
      exact ⟨A, c, by rw [he, hv], hb2⟩
  have HB := Aside0.mk (Below.refl w.heap.size w)
  have hu31 := Tryd.underlying31
  have fin : ∀ w1 : World, Below (w.alloc (.cells #[.int .i64 0, .int .i64 0, .int .i64 0, .int .i64 0] 31 (0, 0))).heap.size (w.alloc (.cells #[.int .i64 0, .int .i64 0, .int .i64 0, .int .i64 0] 31 (0, 0))) w1 → Aside0 (w1.heap[w.heap.size]? = some (.cells #[.int .i64 0, .int .i64 0, .int .i64 0, .int .i64 0] 31 (0, 0))) ∧ Aside0 (Below w.heap.size w w1) := fun w1 hb =>
    ⟨⟨blk_below (blk_new _ _) hb⟩, ⟨below_then (below_alloc (Below.refl _ _) _) (by simp) hb⟩⟩
  generalize ws.length = n at hsp hno
  clear hs HTA
  have go_on : ∀ (A : Option Addr) (c : Nat) (w1 : World), Aside0 (w1.heap[w.heap.size]? = some (.cells #[.int .i64 0, .int .i64 0, .int .i64 0, .int .i64 0] 31 (0, 0))) → True := fun _ _ _ _ => trivial
  clear go_on
  cases ok with
  | false =>
    clear hno
    go_enter Tryd.func34, Tryd.ntmps34
    go_upto_region 3 with (go_at_call 13; refine (hsp _ (below_alloc HB.out _)).mono ?_; rintro e w1 ⟨A, c, rfl, hb1⟩; obtain ⟨BK, HB1⟩ := fin _ hb1; clear hb1 HB)
    have hcz0 : w1.cell? ⟨w.heap.size, 0, none⟩ = some (.int .i64 0) := (blk_cell BK.out 0).trans rfl
    have hcz1 : w1.cell? ⟨w.heap.size, 1, none⟩ = some (.int .i64 0) := (blk_cell BK.out 1).trans rfl
    have hcz2 : w1.cell? ⟨w.heap.size, 2, none⟩ = some (.int .i64 0) := (blk_cell BK.out 2).trans rfl
    have hcz3 : w1.cell? ⟨w.heap.size, 3, none⟩ = some (.int .i64 0) := (blk_cell BK.out 3).trans rfl
    have hfz0 := blk_frozen BK.out 0
    have hfz1 := blk_frozen BK.out 1
    have hfz2 := blk_frozen BK.out 2
    have hfz3 := blk_frozen BK.out 3
    go_wp2
    refine bodyPost_ret (results_ct rfl _ _ w.heap.size 31 #[.int .i64 0, .int .i64 0, .int .i64 0, .int .i64 0] (0, 0) _ rfl (by (with_reducible repeat (first | refine blk_drewN ?_ _ | refine blk_drew ?_ | refine blk_alloc ?_ _)); refine blk_put (cs := #[.int .i64 0, .int .i64 0, .int .i64 0, .int .i64 0]) ?_ 3 _ rfl; (with_reducible repeat (first | refine blk_drewN ?_ _ | refine blk_drew ?_ | refine blk_alloc ?_ _)); refine blk_put (cs := #[.int .i64 0, .int .i64 0, .int .i64 0, .int .i64 0]) ?_ 2 _ rfl; (with_reducible repeat (first | refine blk_drewN ?_ _ | refine blk_drew ?_ | refine blk_alloc ?_ _)); refine blk_put (cs := #[.int .i64 0, .int .i64 0, .int .i64 0, .int .i64 0]) ?_ 1 _ rfl; (with_reducible repeat (first | refine blk_drewN ?_ _ | refine blk_drew ?_ | refine blk_alloc ?_ _)); refine blk_put (cs := #[.int .i64 0, .int .i64 0, .int .i64 0, .int .i64 0]) ?_ 0 _ rfl; (with_reducible repeat (first | refine blk_drewN ?_ _ | refine blk_drew ?_ | refine blk_alloc ?_ _)); exact BK.out) Tryd.underlying31 rfl (by kernel_rfl)) rfl ?_
    exact ⟨rfl, by repeat (first | (with_reducible first | exact HB1.out | apply below_alloc | apply pw_below_drewN | apply below_drew1 | refine below_set ?_ (Nat.le_refl _)) | exact HB1.out)⟩
  | true =>
    obtain rfl : n = 0 := by simpa using hno
    clear hno
    go_enter Tryd.func34, Tryd.ntmps34
    go_upto_region 3 with (go_at_call 13; refine (hsp _ (below_alloc HB.out _)).mono ?_; rintro e w1 ⟨A, c, rfl, hb1⟩; obtain ⟨BK, HB1⟩ := fin _ hb1; clear hb1 HB)
    have hcz0 : w1.cell? ⟨w.heap.size, 0, none⟩ = some (.int .i64 0) := (blk_cell BK.out 0).trans rfl
    have hcz1 : w1.cell? ⟨w.heap.size, 1, none⟩ = some (.int .i64 0) := (blk_cell BK.out 1).trans rfl
    have hcz2 : w1.cell? ⟨w.heap.size, 2, none⟩ = some (.int .i64 0) := (blk_cell BK.out 2).trans rfl
    have hcz3 : w1.cell? ⟨w.heap.size, 3, none⟩ = some (.int .i64 0) := (blk_cell BK.out 3).trans rfl
    have hfz0 := blk_frozen BK.out 0
    have hfz1 := blk_frozen BK.out 1
    have hfz2 := blk_frozen BK.out 2
    have hfz3 := blk_frozen BK.out 3
    go_wp2
    refine bodyPost_ret (results_ct rfl _ _ w.heap.size 31 #[.int .i64 0, .int .i64 0, .int .i64 0, .int .i64 0] (0, 0) _ rfl (by (with_reducible repeat (first | refine blk_drewN ?_ _ | refine blk_drew ?_ | refine blk_alloc ?_ _)); refine blk_put (cs := #[.int .i64 0, .int .i64 0, .int .i64 0, .int .i64 0]) ?_ 3 _ rfl; (with_reducible repeat (first | refine blk_drewN ?_ _ | refine blk_drew ?_ | refine blk_alloc ?_ _)); refine blk_put (cs := #[.int .i64 0, .int .i64 0, .int .i64 0, .int .i64 0]) ?_ 2 _ rfl; (with_reducible repeat (first | refine blk_drewN ?_ _ | refine blk_drew ?_ | refine blk_alloc ?_ _)); refine blk_put (cs := #[.int .i64 0, .int .i64 0, .int .i64 0, .int .i64 0]) ?_ 1 _ rfl; (with_reducible repeat (first | refine blk_drewN ?_ _ | refine blk_drew ?_ | refine blk_alloc ?_ _)); refine blk_put (cs := #[.int .i64 0, .int .i64 0, .int .i64 0, .int .i64 0]) ?_ 0 _ rfl; (with_reducible repeat (first | refine blk_drewN ?_ _ | refine blk_drew ?_ | refine blk_alloc ?_ _)); exact BK.out) Tryd.underlying31 rfl (by kernel_rfl)) rfl ?_
    exact ⟨rfl, by repeat (first | (with_reducible first | exact HB1.out | apply below_alloc | apply pw_below_drewN | apply below_drew1 | refine below_set ?_ (Nat.le_refl _)) | exact HB1.out)⟩
-- MAIN
/-- The words of a line, in the memory that bears them. -/
def impl_ParseIns.Row (W : World) (g : Nat) (xs : List ByteArray) : Prop := g < W.heap.size ∧ ∀ j, j < xs.length → W.cell? ⟨g, j, none⟩ = some (.string (xs.getD j ByteArray.empty))
theorem impl_ParseIns.Row.grown {W W' : World} {g q : Nat} {xs : List ByteArray} (h : impl_ParseIns.Row W g xs) (hg : W.grownBy W' (some q)) (hne : g ≠ q) : impl_ParseIns.Row W' g xs :=
  ⟨Nat.lt_of_lt_of_le h.1 hg.size, fun j hj => hg.cell (h.2 j hj) (fun e => hne (Option.some.inj e))⟩
theorem impl_ParseIns.Row.below {W W' : World} {g : Nat} {xs : List ByteArray} (h : impl_ParseIns.Row W g xs) (hb : Below W.heap.size W W') : impl_ParseIns.Row W' g xs :=
  ⟨Nat.lt_of_lt_of_le h.1 hb.size, fun j hj => (hb.cell (p := ⟨g, j, none⟩) h.1).trans (h.2 j hj)⟩
theorem impl_ParseIns.split (a0 : ByteArray) (ws : List ByteArray) (hs : impl_SplitFields.f a0 = some (ws, true)) (hn : 0 < ws.length) (W : World) (HTA : Tabs.TA W) :
    Calls Tryd.prog 13 #[.string a0] W fun e w' => ∃ g c, e = .returned (.tuple #[.slice (some ⟨g, 0, none⟩) ws.length c, .bool true]) ∧ W.heap.size ≤ g ∧ ws.length ≤ c ∧ Aside0 (impl_ParseIns.Row w' g ws) ∧ Below W.heap.size W w' :=
  (impl_SplitFields.calls a0 ws true W hs HTA).mono fun e w' ⟨v, he, hR, hb⟩ => by
    obtain ⟨g, c, rfl, hg, hlt, hc, hcl⟩ := impl_ParseIns.row hR hn
    exact ⟨g, c, he, hg, hc, ⟨hlt, hcl⟩, hb⟩
theorem impl_ParseIns.names (nm : List ByteArray) (hm : impl_opNames.f = some nm) (W : World) :
    Calls Tryd.prog 66 #[] W fun e w' => ∃ g c, e = .returned (.slice (some ⟨g, 0, none⟩) nm.length c) ∧ Aside0 (impl_ParseIns.Row w' g nm) ∧ Below W.heap.size W w' :=
  (impl_opNames.calls nm W hm).mono fun e w' ⟨v, he, hR, hb⟩ => by
    obtain ⟨g, c, rfl, hg, hlt, hc, hcl⟩ := impl_ParseIns.row hR (by unfold impl_opNames.f at hm; rw [← Option.some.inj hm]; decide)
    exact ⟨g, c, he, ⟨hlt, hcl⟩, hb⟩
theorem impl_ParseIns.index (nm : List ByteArray) (hn : nm.length ≤ 140737488355328) (x : ByteArray) (W : World) (g c : Nat) (hr : impl_ParseIns.Row W g nm) :
    Calls Tryd.prog 65 #[.slice (some ⟨g, 0, none⟩) nm.length c, .string x] W fun e w' => e = .returned (.int .i64 (Lib.idxOfS nm x)) ∧ w' = W := by
  have h := Tryd.slices_Index_string g 0 nm.length c nm x W (Nat.le_refl _) (by omega) (fun j hj => by rw [Nat.zero_add]; exact hr.2 j hj)
  rw [List.take_length] at h
  exact h
theorem impl_ParseIns.join (ws : List ByteArray) (h1 : ws.length ≤ 140737488355328) (h2 : (Lib.join (ws.map (·.data.toList)) [32]).length ≤ 140737488355328) (W : World) (g c : Nat) (hr : impl_ParseIns.Row W g ws) (hc : ws.length ≤ c) :
    Calls Tryd.prog 67 #[.slice (some ⟨g, 0, none⟩) ws.length c, .string ⟨#[32]⟩] W fun e w' => e = .returned (.string ⟨(Lib.join (ws.map (·.data.toList)) [32]).toArray⟩) ∧ Below W.heap.size W w' :=
  Tryd.strings_Join g 0 c ws ⟨#[32]⟩ W (fun j x hj => by
    have hl := (List.getElem?_eq_some_iff.1 hj).1
    rw [Nat.zero_add, hr.2 j hl, List.getD_eq_getElem?_getD, hj]; rfl) hr.1 h1 hc h2
set_option maxHeartbeats 8000000 in
set_option maxRecDepth 100000 in
theorem impl_ParseIns.calls (k : Nat) (a0 : ByteArray) (r1 r2 r3 r4 : Int) (r5 : Bool) (w : World) (h : impl_ParseIns.f k a0 = some (r1, r2, r3, r4, r5)) (HTA : Tabs.TA w) (HTE : Tabs.TE w) (HTP : Tabs.TP w) :
    Calls Tryd.prog 34 #[.string a0] w fun e w' => e = .returned (.tuple #[.agg #[.int .i64 r1, .int .i64 r2, .int .i64 r3, .int .i64 r4], .bool r5]) ∧ Below w.heap.size w w' := by
  unfold impl_ParseIns.f at h
  replace h := Option.bind_eq_some_iff.mp h
  obtain ⟨⟨ws, ok⟩, hs, h⟩ := h
  simp only at h
  by_cases hok : ok = true
  · subst hok
    rw [if_pos rfl] at h
    by_cases hn : ws.length = 0
    · rw [if_pos hn] at h
      simp only [Option.some.injEq, Prod.mk.injEq] at h
      obtain ⟨rfl, rfl, rfl, rfl, rfl⟩ := h
      exact impl_ParseIns.none_ a0 ws true w hs (Or.inr hn) HTA
    · rw [if_neg hn] at h
      replace h := Option.bind_eq_some_iff.mp h
      obtain ⟨nm, hm, h⟩ := h
      replace h := Option.bind_eq_some_iff.mp h
      obtain ⟨fm, hf, h⟩ := h
      by_cases hg : fm.size ≤ 3 ∧ nm.length ≤ 140737488355328 ∧ ws.length ≤ 140737488355328 ∧ (Lib.join (ws.map (·.data.toList)) [32]).length ≤ 140737488355328
      · rw [if_pos hg] at h
        replace h := Option.bind_eq_some_iff.mp h
        obtain ⟨t, ht, h⟩ := h
        replace h := Option.bind_eq_some_iff.mp h
        obtain ⟨x, hx, h⟩ := h
        obtain ⟨g1, g2, g3, g4⟩ := hg
        have HSP := Aside0.mk (fun W (hb : Below w.heap.size w W) => impl_ParseIns.split a0 ws hs (by omega) W (HTA.stays hb))
        have HOP := Aside0.mk (impl_ParseIns.names nm hm)
        have HIX := Aside0.mk (impl_ParseIns.index nm g2 (ws.getD 0 ByteArray.empty))
        have HJN := Aside0.mk (impl_ParseIns.join ws g3 g4)
        have HFO := Aside0.mk (fun W => impl_formOf.calls _ fm W hf)
        have HPU := Aside0.mk (fun (W : World) (hb : Below w.heap.size w W) (a : ByteArray) (n : Int) (b : Bool) (hp : impl_ParseUint.f a = some (n, b)) => impl_ParseUint.calls a n b W hp (HTE.stays hb) (HTP.stays hb))
        have HFI := Aside0.mk (fun (W : World) (hb : Below w.heap.size w W) => impl_FormatIns.calls k _ _ _ _ x W hx (HTP.stays hb))
        have HB := Aside0.mk (Below.refl w.heap.size w)
        have hu31 := Tryd.underlying31
        have H := Aside0.mk h
        have HT := Aside0.mk ht
        clear hs hm hf ht hx h g2 g3 g4 HTA HTE HTP
        generalize hL : ws.length = n at *
        have HL := Aside0.mk hL
        have hn0 : ¬ ((n : Int) = 0) := by omega
        have hn1 : (0 : Int) < (n : Int) := by omega
        have hn2 : 0 < n := by omega
        clear hL
        generalize Lib.idxOfS nm (ws.getD 0 ByteArray.empty) = op at *
        generalize Lib.join (ws.map (·.data.toList)) [32] = js at *
        have fin : ∀ w1 : World, Below (w.alloc (.cells #[.int .i64 0, .int .i64 0, .int .i64 0, .int .i64 0] 31 (0, 0))).heap.size (w.alloc (.cells #[.int .i64 0, .int .i64 0, .int .i64 0, .int .i64 0] 31 (0, 0))) w1 → Aside0 (w1.heap[w.heap.size]? = some (.cells #[.int .i64 0, .int .i64 0, .int .i64 0, .int .i64 0] 31 (0, 0))) ∧ Aside0 (Below w.heap.size w w1) := fun w1 hb =>
          ⟨⟨blk_below (blk_new _ _) hb⟩, ⟨below_then (below_alloc (Below.refl _ _) _) (by simp) hb⟩⟩
        go_enter Tryd.func34, Tryd.ntmps34
        go_upto_region 4 with (go_at_call 13; refine (HSP.out _ (below_alloc HB.out _)).mono ?_; rintro e w1 ⟨gw, cw, rfl, hgw, hcw, HW, hb1⟩; obtain ⟨BK, HB1⟩ := fin _ hb1; clear hb1 HB fin)
        have HGW := Aside0.mk hgw
        have HCW := Aside0.mk hcw
        clear hgw hcw HSP
        have hw0 : w1.cell? ⟨gw, 0, none⟩ = some (.string (ws.getD 0 ByteArray.empty)) := HW.out.2 0 (by rw [HL.out]; exact hn2)
        generalize hx0 : ws.getD 0 ByteArray.empty = x0 at hw0 HIX
        clear hx0
        go_cut [6] (fun s6 wx => ∃ g : Nat, s6 = .pointer (some ⟨g, 0, none⟩) ∧ Aside0 (wx.heap[g]? = some (.cells #[.int .i64 op, .int .i64 0, .int .i64 0, .int .i64 0] 31 (0, 0))) ∧ Aside0 (w1.heap.size ≤ g) ∧ Aside0 (Below w1.heap.size w1 wx))
        case first =>
          have HB2 := Aside0.mk (Below.refl w1.heap.size w1)
          have hN : gw < w1.heap.size := HW.out.1
          have hw0n := World.new_ne w1 _ hw0
          have hz : ∀ W W2 : World, Below W.heap.size W W2 → W.heap[w1.heap.size]? = some (.cells #[.int .i64 0, .int .i64 0, .int .i64 0, .int .i64 0] 31 (0, 0)) → W2.heap[w1.heap.size]? = some (.cells #[.int .i64 0, .int .i64 0, .int .i64 0, .int .i64 0] 31 (0, 0)) := fun W W2 hb h => blk_below h hb
          go_region_held3 (fun w' => w'.cell? ⟨gw, 0, none⟩ = some (.string x0)) (go_keep) (first
            | (go_at_call 66; refine (HOP.out _).mono ?_; rintro e w2 ⟨gn, cn, rfl, HN, hb2⟩; have n2_ := Aside0.mk (below_then (by repeat (first | (with_reducible first | exact HB2.out | apply below_alloc | apply pw_below_drewN | apply below_drew1) | exact HB2.out)) (below_size (by repeat (first | (with_reducible first | exact HB2.out | apply below_alloc | apply pw_below_drewN | apply below_drew1) | exact HB2.out))) hb2); have hw2 := (n2_.out.cell (p := ⟨gw, 0, none⟩) hN).trans hw0; have hw2n := World.new_ne w2 _ hw2; have hq0 := hz _ _ hb2; (first | (replace hq0 := hq0 (blk_new _ _); have hz0 := (blk_cell hq0 0).trans rfl; have hz1 := (blk_cell hq0 1).trans rfl; have hz2 := (blk_cell hq0 2).trans rfl; have hz3 := (blk_cell hq0 3).trans rfl; have hf0 := blk_frozen hq0 0; have hf1 := blk_frozen hq0 1; have hf2 := blk_frozen hq0 2; have hf3 := blk_frozen hq0 3) | clear hq0); clear HB2; have HB2 := n2_; clear n2_)
            | (go_at_call 65; refine (HIX.out _ _ _ (HN.out.below (by repeat (first | (with_reducible first | exact Below.refl _ _ | apply below_alloc | apply pw_below_drewN | apply below_drew1) | exact Below.refl _ _)))).mono ?_; rintro e w3 ⟨rfl, rfl⟩))
          all_goals (go_wp2_with fail; go_meet; (first
            | (with_reducible exact ⟨_, rfl, ⟨blk_new _ _⟩, ⟨below_size HB2.out⟩, ⟨below_alloc HB2.out _⟩⟩)
            | exact ⟨_, rfl, ⟨blk_put (cs' := #[.int .i64 op, .int .i64 0, .int .i64 0, .int .i64 0]) (blk_put (cs' := #[.int .i64 op, .int .i64 0, .int .i64 0, .int .i64 0]) (blk_put (cs' := #[.int .i64 op, .int .i64 0, .int .i64 0, .int .i64 0]) (blk_put (cs' := #[.int .i64 op, .int .i64 0, .int .i64 0, .int .i64 0]) hq0 0 _ rfl) 1 _ rfl) 2 _ rfl) 3 _ rfl⟩, ⟨Nat.le_refl _⟩, ⟨below_set (below_set (below_set (below_set HB2.out (Nat.le_refl _)) (Nat.le_refl _)) (Nat.le_refl _)) (Nat.le_refl _)⟩⟩))
        case rest =>
          obtain ⟨g, rfl, BG, HGE, HB2⟩ := hcut
          clear HOP HIX hw0 hn0 hn1 hn2
          have hN : gw < w1.heap.size := HW.out.1
          have hN2 : w1.heap.size ≤ g := HGE.out
          have HW2 := Aside0.mk (HW.out.below HB2.out)
          have BK2 := Aside0.mk (blk_below BK.out HB2.out)
          have hrl : w.heap.size < w1.heap.size := blk_lt BK.out
          have HB3 := Aside0.mk (below_then HB1.out HB1.out.size HB2.out)
          have hgw : gw ≠ g := by omega
          have hrg : w.heap.size ≠ g := by omega
          have hge : w.heap.size ≤ g := by omega
          clear HW BK HB1 HB2 HGE hN hN2
          go_upto_region 7 with fail
          generalize hwc : wc = wc' at *
          have hc0 : (wc'.alloc (.cells #[.pointer (some ⟨g, 1, none⟩), .pointer (some ⟨g, 2, none⟩), .pointer (some ⟨g, 3, none⟩)] 78)).cell? ⟨g, 0, none⟩ = some (.int .i64 op) := (blk_cell (blk_alloc BG.out _) 0).trans rfl
          have HCV := Aside0.mk (fun W : World => Lib.run_convert_string_bytes (P := Tryd.prog) W 9 42 5 fm (u := .string) Tryd.underlying9 Tryd.underlying42 Tryd.underlying5)
          go_upto_region 8 with (go_at_call 53; refine (HFO.out _).mono ?_; rintro e w5 ⟨rfl, hb5⟩; have hcv := HCV.out w5)
          clear hcv HCV hc0 HFO
          have hbw := Lib.bytesWorld_below w5 5 fm
          have hgp : g < wc'.heap.size := blk_lt BG.out
          have hpb : wc'.heap.size < w5.heap.size := Nat.lt_of_lt_of_le (by simp) hb5.size
          have CP := Aside0.mk (blk_below (blk_below (blk_new wc' _) hb5) hbw)
          have BG5 := Aside0.mk (blk_below (blk_below (blk_alloc BG.out (.cells #[.pointer (some ⟨g, 1, none⟩), .pointer (some ⟨g, 2, none⟩), .pointer (some ⟨g, 3, none⟩)] 78)) hb5) hbw)
          have BK5 := Aside0.mk (blk_below (blk_below (blk_alloc BK2.out (.cells #[.pointer (some ⟨g, 1, none⟩), .pointer (some ⟨g, 2, none⟩), .pointer (some ⟨g, 3, none⟩)] 78)) hb5) hbw)
          have HW5 := Aside0.mk (((HW2.out.below (below_alloc (Below.refl _ _) (.cells #[.pointer (some ⟨g, 1, none⟩), .pointer (some ⟨g, 2, none⟩), .pointer (some ⟨g, 3, none⟩)] 78))).below hb5).below hbw)
          have HB5 := Aside0.mk (below_then (below_then (below_alloc HB3.out (.cells #[.pointer (some ⟨g, 1, none⟩), .pointer (some ⟨g, 2, none⟩), .pointer (some ⟨g, 3, none⟩)] 78)) (below_alloc HB3.out _).size hb5) (below_then (below_alloc HB3.out _) (below_alloc HB3.out _).size hb5).size hbw)
          have CB := Aside0.mk (fun (j : Nat) (hj : j < fm.size) => Lib.bytesWorld_cell w5 5 fm j hj)
          have hpg : wc'.heap.size ≠ g := by omega
          have hbg : w5.heap.size ≠ g := by omega
          clear BG BK2 HW2 HB3 hb5 hbw
          generalize Lib.bytesWorld w5 5 fm = W5 at *
          generalize grownCap w5 fm.size 0 5 = cb at *
          generalize wc'.heap.size = p at *
          generalize w5.heap.size = b at *
          clear hwc
          go_loopg [8, 40] fm.size (fun gg s8 s40 wr => ∃ (i j : Nat) (u : Int × Int × Int), s8 = .int .i64 (j : Int) ∧ s40 = .int .i64 (i : Int) ∧ i ≤ fm.size ∧ (fm.size : Int) - i ≤ gg ∧ j ≤ i + 1 ∧ Aside0 (impl_ParseIns.go ws (fm.data.toList.drop i) i j u = some t) ∧ Aside0 (wr.heap[g]? = some (.cells #[.int .i64 op, .int .i64 u.1, .int .i64 u.2.1, .int .i64 u.2.2] 31 (0, 0))) ∧ Aside0 (W5.grownBy wr (some g)))
          case atStart => exact ⟨0, 1, (0, 0, 0), rfl, rfl, by omega, by omega, by omega, HT, BG5, ⟨World.grownBy.refl _ _⟩⟩
          case round =>
            obtain ⟨i, j, u, rfl, rfl, h1, h2, h3, HG, BG, HGR⟩ := hrel
            by_cases c1 : (i : Int) < (fm.size : Int)
            · have hi3 : (i : Int) < 3 := by omega
              have hcb := HGR.out.cell (CB.out i (by omega)) (fun e => hbg (Option.some.inj e))
              have hpp : wr.cell? ⟨p, i, none⟩ = some (.pointer (some ⟨g, i + 1, none⟩)) := by
                have hq := HGR.out.cell (a := ⟨p, i, none⟩) (v := .pointer (some ⟨g, i + 1, none⟩)) (by
                  rw [blk_cell CP.out i]
                  have : i = 0 ∨ i = 1 ∨ i = 2 := by omega
                  rcases this with rfl | rfl | rfl <;> rfl) (fun e => hpg (Option.some.inj e))
                exact hq
              have hst : fm.data.toList.drop i = fm.data.toList.getD i 0 :: fm.data.toList.drop (i + 1) := by
                have hl : i < fm.data.toList.length := by rw [Array.length_toList]; show i < fm.size; omega
                rw [List.drop_eq_getElem_cons hl]
                congr 1
                rw [List.getD_eq_getElem?_getD, List.getElem?_eq_getElem hl]; rfl
              have hgo := HG.out
              rw [hst] at hgo
              unfold impl_ParseIns.go at hgo
              generalize fm.data.toList.getD i 0 = c at hcb hgo
              clear HG hst
              by_cases h45 : c.toNat ≠ 45 ∧ j < ws.length
              · rw [if_pos h45] at hgo
                obtain ⟨hc45, hjn⟩ := h45
                replace hgo := Option.bind_eq_some_iff.mp hgo
                obtain ⟨⟨v, vb⟩, hpu, hgo⟩ := hgo
                have HPV := Aside0.mk (fun (W : World) (hb : Below w.heap.size w W) => HPU.out W hb _ v vb hpu)
                have HGO := Aside0.mk hgo
                have hww : wr.cell? ⟨gw, j, none⟩ = some (.string (ws.getD j ByteArray.empty)) := HGR.out.cell (HW5.out.2 j hjn) (fun e => hgw (Option.some.inj e))
                generalize ws.getD j ByteArray.empty = y at HPV hww
                have hj : (j : Int) < (n : Int) := by rw [← HL.out]; omega
                have hcz : ¬ ((c.toNat : Int) = 45) := by omega
                generalize ((c.toNat : Nat) : Int) = cz at hcb hcz
                obtain ⟨tv, htv⟩ : ∃ tv, wr.cell? ⟨g, i + 1, none⟩ = some (.int .i64 tv) := by
                  rw [blk_cell BG.out (i + 1)]
                  have : i = 0 ∨ i = 1 ∨ i = 2 := by omega
                  rcases this with rfl | rfl | rfl <;> exact ⟨_, rfl⟩
                have hfv := blk_frozen BG.out (i + 1)
                have HBR := Aside0.mk (pw_below_grown HB5.out (some g) HB5.out.size HGR.out (fun k hk => by cases hk; exact hge))
                clear hpu hgo hc45 hjn
                go_upto_region 11 with fail
                have HK := Aside0.mk (fun (W W2 : World) (a : Addr) (z : Value) (hb : Below W.heap.size W W2) (h : W.cell? a = some z) => (hb.cell (p := a) (World.block_lt_of_cell? W a h)).trans h)
                have hp3 := World.new_ne wr _ hpp
                have hw3 := World.new_ne wr _ hww
                have HQ := Aside0.mk (show ∀ W, Below wr.heap.size wr W → Calls Tryd.prog 31 #[.string y] W fun e w' => e = .returned (.tuple #[.int .i64 v, .bool vb]) ∧ Below wr.heap.size wr w' ∧ w'.cell? ⟨p, i, none⟩ = some (.pointer (some ⟨g, i + 1, none⟩)) ∧ w'.cell? ⟨gw, j, none⟩ = some (.string y) ∧ Aside0 (w'.heap[g]? = some (.cells #[.int .i64 op, .int .i64 u.1, .int .i64 u.2.1, .int .i64 u.2.2] 31 (0, 0))) from fun W hb =>
                  (HPV.out W (below_then HBR.out HBR.out.size hb)).mono fun e w' ⟨he, hb2⟩ => by
                    have hb3 := below_then hb hb.size hb2
                    exact ⟨he, hb3, (HK.out _ _ _ _ hb3 hpp), (HK.out _ _ _ _ hb3 hww), ⟨blk_below BG.out hb3⟩⟩)
                have hb0 := Below.refl wr.heap.size wr
                have hpg2 : g ≠ p := Ne.symm hpg
                have hgw2 : g ≠ gw := Ne.symm hgw
                clear HPV HK
                go_region_held3 (fun w' => w'.cell? ⟨p, i, none⟩ = some (.pointer (some ⟨g, i + 1, none⟩)) ∧ w'.cell? ⟨gw, j, none⟩ = some (.string y)) (go_keep) (first
                  | (go_at_call 31; refine (HQ.out _ (by repeat (first | (with_reducible first | exact hb0 | apply below_alloc | apply pw_below_drewN | apply below_drew1) | exact hb0))).mono ?_; rintro e w6 ⟨rfl, hb6, hpp6, hww6, BG6⟩; have hfv6 := blk_frozen BG6.out (i + 1); have htv6 := (hb6.cell (p := ⟨g, i + 1, none⟩) (World.block_lt_of_cell? wr _ htv)).trans htv))
                have BG7 := Aside0.mk (show (w6.setCell ⟨g, i + 1, none⟩ (.int .i64 v)).heap[g]? = some (.cells #[.int .i64 op, .int .i64 (impl_ParseIns.put u i v).1, .int .i64 (impl_ParseIns.put u i v).2.1, .int .i64 (impl_ParseIns.put u i v).2.2] 31 (0, 0)) from blk_put BG6.out (i + 1) _ (by
                  have : i = 0 ∨ i = 1 ∨ i = 2 := by omega
                  rcases this with rfl | rfl | rfl <;> rfl))
                have HGR7 := Aside0.mk ((HGR.out.trans (grown_of_below hb6 (some g))).trans (Lib.grownBy_setCell w6 g (i + 1) (.int .i64 v)))
                have hi4 : (i : Int) + 1 ≤ 3 := by omega
                have hj4 : (j : Int) + 1 ≤ 5 := by omega
                clear hfv6 htv6 BG6 hb6 hpp6 hww6 hfv htv hpp hww hcb HQ hb0 hp3 hw3 hpg2 hgw2 HBR BG HGR
                go_wp2
                go_roundg (gk - 1)
                case measure => omega
                case rel => exact ⟨i + 1, j + 1, impl_ParseIns.put u i v, by first | rfl | (simp; done) | (simp [*]; done), by first | rfl | (simp; done) | (simp [*]; done), by omega, by omega, by omega, HGO, BG7, HGR7⟩
              · rw [if_neg h45] at hgo
                have HGO := Aside0.mk hgo
                have hi4 : (i : Int) + 1 ≤ 3 := by omega
                clear hgo hpp
                by_cases hc45 : c.toNat = 45
                · have hcz : (c.toNat : Int) = 45 := by omega
                  rw [hcz] at hcb
                  clear h45 hc45 hcz
                  go_wp2
                  go_roundg (gk - 1)
                  case measure => omega
                  case rel => exact ⟨i + 1, j, u, by first | rfl | (simp; done) | (simp [*]; done), by first | rfl | (simp; done) | (simp [*]; done), by omega, by omega, by omega, HGO, BG, HGR⟩
                · have hj : ¬ (j : Int) < (n : Int) := by
                    rw [← HL.out]
                    intro hlt
                    exact h45 ⟨hc45, by omega⟩
                  have hcz : ¬ ((c.toNat : Int) = 45) := by omega
                  generalize ((c.toNat : Nat) : Int) = cz at hcb hcz
                  clear h45 hc45
                  go_wp2
                  go_roundg (gk - 1)
                  case measure => omega
                  case rel => exact ⟨i + 1, j, u, by first | rfl | (simp; done) | (simp [*]; done), by first | rfl | (simp; done) | (simp [*]; done), by omega, by omega, by omega, HGO, BG, HGR⟩
            · have hie : i = fm.size := by omega
              have hgo := HG.out
              rw [hie, show fm.data.toList.drop fm.size = [] from by rw [show fm.size = fm.data.toList.length from Array.length_toList.symm]; exact List.drop_length] at hgo
              obtain rfl : u = t := Option.some.inj hgo
              have hc0 : wr.cell? ⟨g, 0, none⟩ = some (.int .i64 op) := (blk_cell BG.out 0).trans rfl
              have hc1 : wr.cell? ⟨g, 1, none⟩ = some (.int .i64 u.1) := (blk_cell BG.out 1).trans rfl
              have hc2 : wr.cell? ⟨g, 2, none⟩ = some (.int .i64 u.2.1) := (blk_cell BG.out 2).trans rfl
              have hc3 : wr.cell? ⟨g, 3, none⟩ = some (.int .i64 u.2.2) := (blk_cell BG.out 3).trans rfl
              have HBR := Aside0.mk (pw_below_grown HB5.out (some g) HB5.out.size HGR.out (fun k hk => by cases hk; exact hge))
              have BKR := Aside0.mk (blk_grown BK5.out HGR.out (fun e => hrg (Option.some.inj e)))
              have HWR := Aside0.mk (HW5.out.grown HGR.out hgw)
              have HFQ := Aside0.mk (show ∀ W, Below wr.heap.size wr W → Calls Tryd.prog 19 #[.agg #[.int .i64 op, .int .i64 u.1, .int .i64 u.2.1, .int .i64 u.2.2]] W fun e w' => e = .returned (.string x) ∧ Aside0 (w'.heap[w.heap.size]? = some (.cells #[.int .i64 0, .int .i64 0, .int .i64 0, .int .i64 0] 31 (0, 0))) ∧ Aside0 (w'.heap[g]? = some (.cells #[.int .i64 op, .int .i64 u.1, .int .i64 u.2.1, .int .i64 u.2.2] 31 (0, 0))) ∧ Aside0 (impl_ParseIns.Row w' gw ws) ∧ Aside0 (Below w.heap.size w w') from fun W hb =>
                (HFI.out W (below_then HBR.out HBR.out.size hb)).mono fun e w' ⟨he, hb2⟩ => by
                  have hb3 := below_then hb hb.size hb2
                  exact ⟨he, ⟨blk_below BKR.out hb3⟩, ⟨blk_below BG.out hb3⟩, ⟨HWR.out.below hb3⟩, ⟨below_then HBR.out HBR.out.size hb3⟩⟩)
              have hb0 := Below.refl wr.heap.size wr
              have H2 := H.out
              clear hgo HG H CP CB BK5 BG5 HW5 HB5 HT
              by_cases hx0 : x.toList = []
              · rw [if_pos hx0] at H2
                simp only [Option.some.injEq, Prod.mk.injEq] at H2
                obtain ⟨rfl, rfl, rfl, rfl, rfl⟩ := H2
                have hx1 : (x.toList == ([] : List UInt8)) = true := beq_iff_eq.mpr hx0
                go_upto_region 15 with (go_at_call 19; refine (HFQ.out _ hb0).mono ?_; rintro e w7 ⟨rfl, BK7, BG7, HW7, HB7⟩)
                have hcz0 : w7.cell? ⟨w.heap.size, 0, none⟩ = some (.int .i64 0) := (blk_cell BK7.out 0).trans rfl
                have hcz1 : w7.cell? ⟨w.heap.size, 1, none⟩ = some (.int .i64 0) := (blk_cell BK7.out 1).trans rfl
                have hcz2 : w7.cell? ⟨w.heap.size, 2, none⟩ = some (.int .i64 0) := (blk_cell BK7.out 2).trans rfl
                have hcz3 : w7.cell? ⟨w.heap.size, 3, none⟩ = some (.int .i64 0) := (blk_cell BK7.out 3).trans rfl
                have hfz0 := blk_frozen BK7.out 0
                have hfz1 := blk_frozen BK7.out 1
                have hfz2 := blk_frozen BK7.out 2
                have hfz3 := blk_frozen BK7.out 3
                go_wp2
                refine bodyPost_ret (results_ct rfl _ _ w.heap.size 31 #[.int .i64 0, .int .i64 0, .int .i64 0, .int .i64 0] (0, 0) _ rfl (by (with_reducible repeat (first | refine blk_drewN ?_ _ | refine blk_drew ?_ | refine blk_alloc ?_ _)); refine blk_put (cs := #[.int .i64 0, .int .i64 0, .int .i64 0, .int .i64 0]) ?_ 3 _ rfl; (with_reducible repeat (first | refine blk_drewN ?_ _ | refine blk_drew ?_ | refine blk_alloc ?_ _)); refine blk_put (cs := #[.int .i64 0, .int .i64 0, .int .i64 0, .int .i64 0]) ?_ 2 _ rfl; (with_reducible repeat (first | refine blk_drewN ?_ _ | refine blk_drew ?_ | refine blk_alloc ?_ _)); refine blk_put (cs := #[.int .i64 0, .int .i64 0, .int .i64 0, .int .i64 0]) ?_ 1 _ rfl; (with_reducible repeat (first | refine blk_drewN ?_ _ | refine blk_drew ?_ | refine blk_alloc ?_ _)); refine blk_put (cs := #[.int .i64 0, .int .i64 0, .int .i64 0, .int .i64 0]) ?_ 0 _ rfl; (with_reducible repeat (first | refine blk_drewN ?_ _ | refine blk_drew ?_ | refine blk_alloc ?_ _)); exact BK7.out) Tryd.underlying31 rfl (by kernel_rfl)) rfl ?_
                exact ⟨rfl, by repeat (first | (with_reducible first | exact HB7.out | apply below_alloc | apply pw_below_drewN | apply below_drew1 | refine below_set ?_ (Nat.le_refl _)) | exact HB7.out)⟩
              · rw [if_neg hx0] at H2
                have hx1 : (x.toList == ([] : List UInt8)) = false := beq_eq_false_iff_ne.mpr hx0
                go_upto_region 15 with (go_at_call 19; refine (HFQ.out _ hb0).mono ?_; rintro e w7 ⟨rfl, BK7, BG7, HW7, HB7⟩)
                generalize hjb : (⟨js.toArray⟩ : ByteArray) = jb at HJN
                have hjl : jb.toList = js := by rw [← hjb, ByteArray.toList_eq]
                have hb7 := Below.refl w7.heap.size w7
                have HJQ := Aside0.mk (show ∀ W, Below w7.heap.size w7 W → Calls Tryd.prog 67 #[.slice (some ⟨gw, 0, none⟩) n cw, .string ⟨#[32]⟩] W fun e w' => e = .returned (.string jb) ∧ Aside0 (w'.heap[w.heap.size]? = some (.cells #[.int .i64 0, .int .i64 0, .int .i64 0, .int .i64 0] 31 (0, 0))) ∧ Aside0 (w'.heap[g]? = some (.cells #[.int .i64 op, .int .i64 u.1, .int .i64 u.2.1, .int .i64 u.2.2] 31 (0, 0))) ∧ Aside0 (Below w.heap.size w w') from fun W hb =>
                  (HJN.out W gw cw (HW7.out.below hb) HCW.out).mono fun e w' ⟨he, hb2⟩ => by
                    have hb3 := below_then hb hb.size hb2
                    exact ⟨he, ⟨blk_below BK7.out hb3⟩, ⟨blk_below BG7.out hb3⟩, ⟨below_then HB7.out HB7.out.size hb3⟩⟩)
                clear hjb HFQ hb0 HJN HW7
                by_cases hxj : x.toList = js
                · rw [if_pos hxj] at H2
                  simp only [Option.some.injEq, Prod.mk.injEq] at H2
                  obtain ⟨rfl, rfl, rfl, rfl, rfl⟩ := H2
                  have hq1 : (x.toList == jb.toList) = true := by rw [hjl]; exact beq_iff_eq.mpr hxj
                  have hq2 : (x.toList != jb.toList) = false := by rw [hjl]; exact bne_eq_false_iff_eq.mpr hxj
                  clear hxj hjl
                  go_upto_region 17 with (go_at_call 67; refine (HJQ.out _ (by repeat (first | (with_reducible first | exact hb7 | apply below_alloc | apply pw_below_drewN | apply below_drew1) | exact hb7))).mono ?_; rintro e w8 ⟨rfl, BK8, BG8, HB8⟩)
                  have hcz0 : w8.cell? ⟨w.heap.size, 0, none⟩ = some (.int .i64 0) := (blk_cell BK8.out 0).trans rfl
                  have hcz1 : w8.cell? ⟨w.heap.size, 1, none⟩ = some (.int .i64 0) := (blk_cell BK8.out 1).trans rfl
                  have hcz2 : w8.cell? ⟨w.heap.size, 2, none⟩ = some (.int .i64 0) := (blk_cell BK8.out 2).trans rfl
                  have hcz3 : w8.cell? ⟨w.heap.size, 3, none⟩ = some (.int .i64 0) := (blk_cell BK8.out 3).trans rfl
                  have hfz0 := blk_frozen BK8.out 0
                  have hfz1 := blk_frozen BK8.out 1
                  have hfz2 := blk_frozen BK8.out 2
                  have hfz3 := blk_frozen BK8.out 3
                  have hcg0 : w8.cell? ⟨g, 0, none⟩ = some (.int .i64 op) := (blk_cell BG8.out 0).trans rfl
                  have hcg1 : w8.cell? ⟨g, 1, none⟩ = some (.int .i64 u.1) := (blk_cell BG8.out 1).trans rfl
                  have hcg2 : w8.cell? ⟨g, 2, none⟩ = some (.int .i64 u.2.1) := (blk_cell BG8.out 2).trans rfl
                  have hcg3 : w8.cell? ⟨g, 3, none⟩ = some (.int .i64 u.2.2) := (blk_cell BG8.out 3).trans rfl
                  go_wp2
                  refine bodyPost_ret (results_ct rfl _ _ w.heap.size 31 #[.int .i64 op, .int .i64 u.1, .int .i64 u.2.1, .int .i64 u.2.2] (0, 0) _ rfl (by (with_reducible repeat (first | refine blk_drewN ?_ _ | refine blk_drew ?_ | refine blk_alloc ?_ _)); refine blk_put (cs := #[.int .i64 op, .int .i64 u.1, .int .i64 u.2.1, .int .i64 0]) ?_ 3 _ rfl; (with_reducible repeat (first | refine blk_drewN ?_ _ | refine blk_drew ?_ | refine blk_alloc ?_ _)); refine blk_put (cs := #[.int .i64 op, .int .i64 u.1, .int .i64 0, .int .i64 0]) ?_ 2 _ rfl; (with_reducible repeat (first | refine blk_drewN ?_ _ | refine blk_drew ?_ | refine blk_alloc ?_ _)); refine blk_put (cs := #[.int .i64 op, .int .i64 0, .int .i64 0, .int .i64 0]) ?_ 1 _ rfl; (with_reducible repeat (first | refine blk_drewN ?_ _ | refine blk_drew ?_ | refine blk_alloc ?_ _)); refine blk_put (cs := #[.int .i64 0, .int .i64 0, .int .i64 0, .int .i64 0]) ?_ 0 _ rfl; (with_reducible repeat (first | refine blk_drewN ?_ _ | refine blk_drew ?_ | refine blk_alloc ?_ _)); exact BK8.out) Tryd.underlying31 rfl (by kernel_rfl)) rfl ?_
                  exact ⟨rfl, by repeat (first | (with_reducible first | exact HB8.out | apply below_alloc | apply pw_below_drewN | apply below_drew1 | refine below_set ?_ (Nat.le_refl _)) | exact HB8.out)⟩
                · rw [if_neg hxj] at H2
                  simp only [Option.some.injEq, Prod.mk.injEq] at H2
                  obtain ⟨rfl, rfl, rfl, rfl, rfl⟩ := H2
                  have hq1 : (x.toList == jb.toList) = false := by rw [hjl]; exact beq_eq_false_iff_ne.mpr hxj
                  have hq2 : (x.toList != jb.toList) = true := by rw [hjl]; exact bne_iff_ne.mpr hxj
                  clear hxj hjl
                  go_upto_region 16 with (go_at_call 67; refine (HJQ.out _ (by repeat (first | (with_reducible first | exact hb7 | apply below_alloc | apply pw_below_drewN | apply below_drew1) | exact hb7))).mono ?_; rintro e w8 ⟨rfl, BK8, BG8, HB8⟩)
                  have hcz0 : w8.cell? ⟨w.heap.size, 0, none⟩ = some (.int .i64 0) := (blk_cell BK8.out 0).trans rfl
                  have hcz1 : w8.cell? ⟨w.heap.size, 1, none⟩ = some (.int .i64 0) := (blk_cell BK8.out 1).trans rfl
                  have hcz2 : w8.cell? ⟨w.heap.size, 2, none⟩ = some (.int .i64 0) := (blk_cell BK8.out 2).trans rfl
                  have hcz3 : w8.cell? ⟨w.heap.size, 3, none⟩ = some (.int .i64 0) := (blk_cell BK8.out 3).trans rfl
                  have hfz0 := blk_frozen BK8.out 0
                  have hfz1 := blk_frozen BK8.out 1
                  have hfz2 := blk_frozen BK8.out 2
                  have hfz3 := blk_frozen BK8.out 3
                  go_wp2
                  refine bodyPost_ret (results_ct rfl _ _ w.heap.size 31 #[.int .i64 0, .int .i64 0, .int .i64 0, .int .i64 0] (0, 0) _ rfl (by (with_reducible repeat (first | refine blk_drewN ?_ _ | refine blk_drew ?_ | refine blk_alloc ?_ _)); refine blk_put (cs := #[.int .i64 0, .int .i64 0, .int .i64 0, .int .i64 0]) ?_ 3 _ rfl; (with_reducible repeat (first | refine blk_drewN ?_ _ | refine blk_drew ?_ | refine blk_alloc ?_ _)); refine blk_put (cs := #[.int .i64 0, .int .i64 0, .int .i64 0, .int .i64 0]) ?_ 2 _ rfl; (with_reducible repeat (first | refine blk_drewN ?_ _ | refine blk_drew ?_ | refine blk_alloc ?_ _)); refine blk_put (cs := #[.int .i64 0, .int .i64 0, .int .i64 0, .int .i64 0]) ?_ 1 _ rfl; (with_reducible repeat (first | refine blk_drewN ?_ _ | refine blk_drew ?_ | refine blk_alloc ?_ _)); refine blk_put (cs := #[.int .i64 0, .int .i64 0, .int .i64 0, .int .i64 0]) ?_ 0 _ rfl; (with_reducible repeat (first | refine blk_drewN ?_ _ | refine blk_drew ?_ | refine blk_alloc ?_ _)); exact BK8.out) Tryd.underlying31 rfl (by kernel_rfl)) rfl ?_
                  exact ⟨rfl, by repeat (first | (with_reducible first | exact HB8.out | apply below_alloc | apply pw_below_drewN | apply below_drew1 | refine below_set ?_ (Nat.le_refl _)) | exact HB8.out)⟩
      · rw [if_neg hg] at h; cases h
  · obtain rfl : ok = false := by simpa using hok
    rw [if_neg (by decide)] at h
    simp only [Option.some.injEq, Prod.mk.injEq] at h
    obtain ⟨rfl, rfl, rfl, rfl, rfl⟩ := h
    exact impl_ParseIns.none_ a0 ws false w hs (Or.inl rfl) HTA

end Go.Proofs.YtionemdnfhcfpaaDoor.HL
