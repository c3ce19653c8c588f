-- by hprint.py (wip/tools): the row of the law, out of its pure statement and the walk
import Derived.Test.YtionemdnfhcfpaaDoorRows
import Derived.Test.YtionemdnfhcfpaaDoorRowAid
import Derived.Test.YtionemdnfhcfpaaDoorHQFnExactFormatProgramStmt
import Derived.Test.YtionemdnfhcfpaaDoorPureFnExactFormatProgram
import Derived.Test.YtionemdnfhcfpaaDoorTie
import Derived.Test.YtionemdnfhcfpaaDoorCards
import Derived.WalkKit
import Derived.ProofKit
import Derived.OpenShut
import Derived.ShutString
import Derived.ChangeOld
import Derived.Below
import Derived.SizedLaws
import Derived.Lib.SmallJoins
import Derived.Deep.Slices
import Derived.LaidMore
import Derived.Stop.Joined
import Derived.SevenTiedAt
import Derived.MakeChecks
namespace Go.Proofs.YtionemdnfhcfpaaDoor.fnExactFormatProgram
open Go.ChangeShapes Go.WideShapes Go.ChangeAt Go.RowKit Go.Proofs.YtionemdnfhcfpaaDoor.HQ
open Go.ChangeMaps (open_string shut_string)
open Go.Proofs.YtionemdnfhcfpaaDoorW.PrintWords
set_option linter.unusedVariables false
theorem own : ownKnob Tryd.prog.godebug = none := by kernel_rfl
theorem laidOut : laidOutB Tryd.prog = true := by kernel_rfl
theorem door_met (os : Os) (args : Array Value) : laidMetH Tryd.prog Rows.fnExactFormatProgramRow.laid ((World.doorLaid Tryd.prog 86 os).forCall (fun _ _ => 0) ⟨#[], args, []⟩).memory :=
  laidMetH_of_parts3 (fuel := 8) (laidMet_of_run' 8 (by kernel_rfl) (by kernel_rfl)) (by kernel_rfl) (by kernel_rfl)
theorem tabs {W : World} (hL : laidMetH Tryd.prog Rows.fnExactFormatProgramRow.laid W) : Tabs.TP W := by
  rw [MakeChecks.laidMetH_plain _ _ _ (by kernel_rfl)] at hL
  have l0 : laidMet Tryd.prog [("math/bits.deBruijn32tab", Rows.laid_math_bits_deBruijn32tab), ("math/bits.deBruijn64tab", Rows.laid_math_bits_deBruijn64tab), ("internal/strconv.uint64pow10", Rows.laid_internal_strconv_uint64pow10)] W := hL
  have l1 : laidMet Tryd.prog [("math/bits.deBruijn64tab", Rows.laid_math_bits_deBruijn64tab), ("internal/strconv.uint64pow10", Rows.laid_internal_strconv_uint64pow10)] W := l0.tail
  have l2 : laidMet Tryd.prog [("internal/strconv.uint64pow10", Rows.laid_internal_strconv_uint64pow10)] W := l1.tail
  exact Tabs.TP.of (by kernel_rfl) l2
set_option maxRecDepth 100000 in
theorem lifted (P : laws_FnExactFormatProgram.PureH) (os : Os) (started : os.Started) (H : Type) (enc : TypeId × Value → H) :
    ReturnsInHanded {} Tryd.checked os 5 .any (fun w args => (Rows.fnExactFormatProgramSpec.pre enc Tryd.prog Tryd.f5 [] false w args ∧ laidMetH Tryd.prog Rows.fnExactFormatProgramRow.laid w) ∧ sizedMet enc Tryd.prog Tryd.f5 (OpenSpec.ofChange Rows.fnExactFormatProgramSpec) false w args) (Rows.fnExactFormatProgramSpec.post enc Tryd.prog Tryd.f5 false true false false) := by
  refine returnsInHanded_of_change_and (C := Tryd.checked) (X := fun w _ => laidMetH Tryd.prog Rows.fnExactFormatProgramRow.laid w) (fun _ _ _ hh h => h.of_heap hh) own started (by kernel_rfl) Tryd.func5
    (ChangeSpec.witness_shaped (enc := enc) (C := Tryd.checked) (os := os) (X := fun w _ => laidMetH Tryd.prog Rows.fnExactFormatProgramRow.laid w) false (World.doorLaid Tryd.prog 86 os) #[.slice none 0 0] 8 rfl (World.shaped_of_RefB (by kernel_rfl) (by kernel_rfl)) (by kernel_rfl) (by kernel_rfl) (by kernel_rfl) (door_met os _)) ?_
  intro W base args ds gs before hval0 hW _ hsz0 hL _
  have HTTP := tabs hL
  have hsz : (DataW.weightsEach Tryd.prog (Tryd.f5.params.toList ++ Rows.fnExactFormatProgramSpec.plain.varTypes Tryd.prog) (ds ++ gs)).all (· ≤ reachBytes) = true := hsz0
  have hval : ∀ (j : Nat) t v, Tryd.f5.params[j]? = some t → args[j]? = some v → Value.okWide Tryd.prog W .any base t v := hval0
  have hW' := hW
  obtain ⟨p, q, hA0, hV, rfl, hfz, hnd⟩ := hW
  have hA : DataW.TrodAll enc Tryd.prog W 0 (fun _ => true) true Tryd.f5.params.toList args.toList ds p := hA0
  rw [Tryd.params5] at hA hval hsz
  obtain ⟨v0, vs0, d0, ds0, p0, q0, hargs, rfl, rfl, h0, r0⟩ := trodAll_cons hA
  obtain ⟨rfl, rfl, rfl⟩ := trodAll_nil r0
  obtain rfl : args = #[v0] := by cases args; simp_all
  obtain ⟨rfl, rfl⟩ := trodVars_none hV
  obtain ⟨A0, len0, c0, rfl⟩ := okWide_slice Tryd.underlying34 (hval 0 34 v0 rfl rfl)
  have k0 := h0
  have lt0 : ∀ x ∈ p0, x.block < W.heap.size := by obtain ⟨m, hm⟩ := k0; exact DataW.trod_lt m _ _ _ hm
  have z0 : len0 * 32 ≤ 140737488351232 := RowAid.sized_any hsz (j := 0) (t := 34) (e := 29) rfl Tryd.underlying34 rfl h0
  obtain ⟨l0, rfl, hc0, hr0, hq0⟩ := RowAid.open_kd (k29) (fun x : S29 => (Lit.int .i64 x.f0).wf = true ∧ (Lit.int .i64 x.f1).wf = true ∧ (Lit.int .i64 x.f2).wf = true ∧ (Lit.int .i64 x.f3).wf = true) Tryd.underlying34 (by kernel_rfl) (by
      intro n cs y hl hy
      obtain ⟨y0, y1, y2, y3, m, _, hlen, g0, g1, g2, g3⟩ := Joins.trod_struct4 Tryd.underlying29 hy
      match cs, hl with
      | [c0, c1, c2, c3], _ =>
        obtain ⟨x0, e0, _, w0⟩ := DataW.trod_int Tryd.underlying3 g0
        obtain ⟨x1, e1, _, w1⟩ := DataW.trod_int Tryd.underlying3 g1
        obtain ⟨x2, e2, _, w2⟩ := DataW.trod_int Tryd.underlying3 g2
        obtain ⟨x3, e3, _, w3⟩ := DataW.trod_int Tryd.underlying3 g3
        have cc : Tryd.prog.cellsOf 3 = 1 := by kernel_rfl
        simp [cc] at e0 e1 e2 e3
        subst e0 e1 e2 e3
        exact ⟨⟨x0, x1, x2, x3⟩, k29_mk _ ⟨x0, x1, x2, x3⟩, w0, w1, w2, w3⟩
    ) h0
  clear hA0 hval0 hsz0 hsz
  obtain ⟨k, h⟩ := P l0 z0 hq0
  refine (laws_FnExactFormatProgram.calls k _ _ l0 true W hr0 hc0 h HTTP).mono fun e W' ⟨he, bel0⟩ => ?_
  have bel : Below W.heap.size W W' := bel0
  subst he
  exact ⟨_, rfl, _, _, _, [], _, [], hW', trodAll_mk1 (shut_bool Tryd.underlying4 _), (trodAll_cons_mk (Below.trod laidOut (by kernel_rfl) (of_decide_eq_true (by kernel_rfl)) k0 bel lt0) trodAll_mk0), rfl, bel.frame _, fun h => by cases h⟩
theorem over (P : laws_FnExactFormatProgram.PureH) : Rows.fnExactFormatProgramRow.holds Tryd.pinned (OpenSpec.ofChange Rows.fnExactFormatProgramSpec) :=
  OpenClaim.holds_of_wide 5 Tryd.f5 rfl rfl rfl rfl rfl rfl rfl ⟨rfl, rfl, rfl, rfl, rfl⟩ rfl rfl rfl rfl rfl (by kernel_rfl) Tryd.func5 (by kernel_rfl)
    (of_decide_eq_true (by kernel_rfl)) (by unfold Func.isWrapper; first | (rw [if_pos (by decide +kernel)]; kernel_rfl) | (rw [if_neg (by decide +kernel)]; exact ⟨rfl, rfl⟩))
    (fun os started H enc _ => lifted P os started H enc)
end Go.Proofs.YtionemdnfhcfpaaDoor.fnExactFormatProgram
namespace Go.Proofs.YtionemdnfhcfpaaDoor
open Go
/-- The card: the row, and that what it lists is tied to the program's text. -/
theorem fnExactFormatProgram_holds : Rows.FnExactFormatProgramCardSaid :=
  Claim7.holds_tied_plain_at .later [] [.data, .data, .data] true (true, "1fec0fc6c348d66b3cfe79c2cb63a174d0b4f3d0c5ec6ee6f93da20d7e0570e2") true (fnExactFormatProgram.over Pure.FnExactFormatProgram) (fun _ h => by cases h) (by kernel_rfl) (fun _ h => by cases h) fnExactFormatProgram_row_tie rfl ⟨rfl, rfl⟩ (by kernel_rfl) rfl
    (fun f fn hf hfn => by
      obtain rfl : f = 5 := Option.some.inj ((show Tryd.prog.funcNamed "loop.example/g00985/laws.FnExactFormatProgram" = some 5 by kernel_rfl).symm.trans hf) |>.symm
      obtain rfl : fn = Tryd.f5 := (Option.some.inj (Tryd.func5.symm.trans hfn)).symm
      exact ⟨by kernel_rfl, fun j t ht => by
        rw [Tryd.params5] at ht
        have hm : t ∈ [34] := by simpa using Array.mem_of_getElem? ht
        have hall : ([34].all fun u => !Tryd.prog.wantsStandIn u) = true := by kernel_rfl
        exact (show Tryd.prog.wantsStandIn t = false by simpa using List.all_eq_true.1 hall t hm)⟩)
    (by kernel_rfl)
#print axioms fnExactFormatProgram_holds
end Go.Proofs.YtionemdnfhcfpaaDoor
