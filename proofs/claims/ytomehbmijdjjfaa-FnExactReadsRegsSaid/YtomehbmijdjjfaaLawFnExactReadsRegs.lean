-- by hprint.py (wip/tools): the row of the law, out of its pure statement and the walk
import Derived.Test.YtomehbmijdjjfaaRows
import Derived.Test.YtomehbmijdjjfaaRowAid
import Derived.Test.YtomehbmijdjjfaaHRFnExactReadsRegsStmt
import Derived.Test.YtomehbmijdjjfaaPureFnExactReadsRegs
import Derived.WalkKit
import Derived.ProofKit
import Derived.OpenShut
import Derived.ShutString
import Derived.ChangeOld
import Derived.Below
import Derived.SizedLaws
import Derived.Lib.SmallJoins
import Derived.Deep.Slices
namespace Go.Proofs.Ytomehbmijdjjfaa.fnExactReadsRegs
open Go.ChangeShapes Go.WideShapes Go.ChangeAt Go.RowKit Go.Proofs.Ytomehbmijdjjfaa.HR
open Go.ChangeMaps (open_string shut_string)
open Go.Proofs.YtomehbmijdjjfaaW.PrintWords
set_option linter.unusedVariables false
theorem own : ownKnob Try.prog.godebug = none := by kernel_rfl
theorem laidOut : laidOutB Try.prog = true := by kernel_rfl
theorem cells50 : Try.prog.cellsOf 50 = 4 := by kernel_rfl
set_option maxRecDepth 100000 in
theorem lifted (P : laws_FnExactReadsRegs.PureH) (os : Os) (started : os.Started) (H : Type) (enc : TypeId × Value → H) :
    ReturnsInHanded {} Try.checked os 8 .any (Rows.fnExactReadsRegsSpec.pre6 enc Try.prog Try.f8 Rows.fnExactReadsRegsRow.domain false) (Rows.fnExactReadsRegsSpec.post enc Try.prog Try.f8 false true false false) := by
  refine returnsInHanded_of_change_sized (C := Try.checked) own started (by kernel_rfl) Try.func8
    (ChangeSpec.witness6 (enc := enc) (C := Try.checked) false ⟨#[], #[.agg #[.int .i64 0, .int .i64 0, .int .i64 0, .int .i64 0]], []⟩ 8 (by kernel_rfl) (by kernel_rfl) (by kernel_rfl) (by kernel_rfl)) ?_
  intro W base args ds gs before hval0 hW hcnd hsz0 _
  have hsz : (DataW.weightsEach Try.prog (Try.f8.params.toList ++ Rows.fnExactReadsRegsSpec.plain.varTypes Try.prog) (ds ++ gs)).all (· ≤ reachBytes) = true := hsz0
  have hval : ∀ (j : Nat) t v, Try.f8.params[j]? = some t → args[j]? = some v → Value.okWide Try.prog W .any base t v := hval0
  have hW' := hW
  obtain ⟨p, q, hA0, hV, rfl, hfz, hnd⟩ := hW
  have hA : DataW.TrodAll enc Try.prog W 0 (fun _ => true) true Try.f8.params.toList args.toList ds p := hA0
  rw [Try.params8] at hA hval hsz
  obtain ⟨v0, vs0, d0, ds0, p0, q0, hargs, rfl, rfl, h0, r0⟩ := trodAll_cons hA
  obtain ⟨rfl, rfl, rfl⟩ := trodAll_nil r0
  obtain rfl : args = #[v0] := by cases args; simp_all
  obtain ⟨rfl, rfl⟩ := trodVars_none hV
  obtain ⟨c0_0, c0_1, c0_2, c0_3, y0_0, y0_1, y0_2, y0_3, m0, rfl, rfl, rfl, g0_0, g0_1, g0_2, g0_3⟩ := Joins.open_agg4 Try.underlying50 (by kernel_rfl) cells50 (hval 0 50 v0 rfl rfl) h0
  obtain ⟨a0_0, e0_0, x0_0, w0_0⟩ := DataW.trod_int Try.underlying3 g0_0
  obtain rfl : c0_0 = Value.int .i64 a0_0 := by simpa using e0_0
  subst x0_0
  obtain ⟨a0_1, e0_1, x0_1, w0_1⟩ := DataW.trod_int Try.underlying3 g0_1
  obtain rfl : c0_1 = Value.int .i64 a0_1 := by simpa using e0_1
  subst x0_1
  obtain ⟨a0_2, e0_2, x0_2, w0_2⟩ := DataW.trod_int Try.underlying3 g0_2
  obtain rfl : c0_2 = Value.int .i64 a0_2 := by simpa using e0_2
  subst x0_2
  obtain ⟨a0_3, e0_3, x0_3, w0_3⟩ := DataW.trod_int Try.underlying3 g0_3
  obtain rfl : c0_3 = Value.int .i64 a0_3 := by simpa using e0_3
  subst x0_3
  clear hA0 hval0 hsz0 hsz
  obtain ⟨k, h⟩ := P a0_0 a0_1 a0_2 a0_3 w0_0 w0_1 w0_2 w0_3
  refine (laws_FnExactReadsRegs.calls k a0_0 a0_1 a0_2 a0_3 true W  h).mono fun e W' ⟨he, bel0⟩ => ?_
  have bel : Below W.heap.size W W' := bel0
  subst he
  exact ⟨_, rfl, _, _, _, [], _, [], hW', trodAll_mk1 (shut_bool Try.underlying4 _), (trodAll_cons_mk (Joins.shut_agg4 (y0 := (.lit (.int .i64 a0_0), [])) (y1 := (.lit (.int .i64 a0_1), [])) (y2 := (.lit (.int .i64 a0_2), [])) (y3 := (.lit (.int .i64 a0_3), [])) Try.underlying50 (by kernel_rfl) cells50 (RowAid.lit_int Try.underlying3 w0_0) (RowAid.lit_int Try.underlying3 w0_1) (RowAid.lit_int Try.underlying3 w0_2) (RowAid.lit_int Try.underlying3 w0_3)) trodAll_mk0), rfl, bel.frame _, fun h => by cases h⟩
theorem over (P : laws_FnExactReadsRegs.PureH) : Rows.fnExactReadsRegsRow.holds Try.pinned (OpenSpec.ofChange Rows.fnExactReadsRegsSpec) :=
  OpenClaim.holds_of_wide 8 Try.f8 rfl rfl rfl rfl rfl rfl rfl ⟨rfl, rfl, rfl, rfl, rfl⟩ rfl rfl rfl rfl rfl (by kernel_rfl) Try.func8 (by kernel_rfl)
    (of_decide_eq_true (by kernel_rfl)) (by unfold Func.isWrapper; first | (rw [if_pos (by decide +kernel)]; kernel_rfl) | (rw [if_neg (by decide +kernel)]; exact ⟨rfl, rfl⟩))
    (fun os started H enc _ => lifted P os started H enc)
end Go.Proofs.Ytomehbmijdjjfaa.fnExactReadsRegs
namespace Go.Proofs.Ytomehbmijdjjfaa
/-- The row, under a short name, for the claim. -/
theorem fnExactReadsRegs_holds : Rows.FnExactReadsRegsSaid := fnExactReadsRegs.over Pure.FnExactReadsRegs
#print axioms fnExactReadsRegs_holds
end Go.Proofs.Ytomehbmijdjjfaa
