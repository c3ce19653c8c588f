-- by hprint.py (wip/tools): the row of the law, out of its pure statement and the walk
import Derived.Test.YtbkgklkiennpbaaRows
import Derived.Test.YtbkgklkiennpbaaRowAid
import Derived.Test.YtbkgklkiennpbaaHGFnAftersStmt
import Derived.Test.YtbkgklkiennpbaaPureFnAfters
import Derived.WalkKit
import Derived.ProofKit
import Derived.OpenShut
import Derived.ShutString
import Derived.ChangeOld
import Derived.Below
import Derived.SizedLaws
import Derived.Lib.SmallJoins
import Derived.Deep.Slices
namespace Go.Proofs.Ytbkgklkiennpbaa.fnAfters
open Go.ChangeShapes Go.WideShapes Go.ChangeAt Go.RowKit Go.Proofs.Ytbkgklkiennpbaa.HG
open Go.ChangeMaps (open_string shut_string)
open Go.Proofs.YtbkgklkiennpbaaW.PrintWords
set_option linter.unusedVariables false
theorem own : ownKnob Try.prog.godebug = none := by kernel_rfl
theorem laidOut : laidOutB Try.prog = true := by kernel_rfl
set_option maxRecDepth 100000 in
theorem lifted (P : laws_FnAfters.PureH) (os : Os) (started : os.Started) (H : Type) (enc : TypeId × Value → H) :
    ReturnsInHanded {} Try.checked os 6 .any (Rows.fnAftersSpec.pre6 enc Try.prog Try.f6 Rows.fnAftersRow.domain false) (Rows.fnAftersSpec.post enc Try.prog Try.f6 false true false false) := by
  refine returnsInHanded_of_change_sized (C := Try.checked) own started (by kernel_rfl) Try.func6
    (ChangeSpec.witness6 (enc := enc) (C := Try.checked) false ⟨#[], #[.slice none 0 0], []⟩ 8 (by kernel_rfl) (by kernel_rfl) (by kernel_rfl) (by kernel_rfl)) ?_
  intro W base args ds gs before hval0 hW hcnd hsz0 _
  have hsz : (DataW.weightsEach Try.prog (Try.f6.params.toList ++ Rows.fnAftersSpec.plain.varTypes Try.prog) (ds ++ gs)).all (· ≤ reachBytes) = true := hsz0
  have hval : ∀ (j : Nat) t v, Try.f6.params[j]? = some t → args[j]? = some v → Value.okWide Try.prog W .any base t v := hval0
  have hW' := hW
  obtain ⟨p, q, hA0, hV, rfl, hfz, hnd⟩ := hW
  have hA : DataW.TrodAll enc Try.prog W 0 (fun _ => true) true Try.f6.params.toList args.toList ds p := hA0
  rw [Try.params6] at hA hval hsz
  obtain ⟨v0, vs0, d0, ds0, p0, q0, hargs, rfl, rfl, h0, r0⟩ := trodAll_cons hA
  obtain ⟨rfl, rfl, rfl⟩ := trodAll_nil r0
  obtain rfl : args = #[v0] := by cases args; simp_all
  obtain ⟨rfl, rfl⟩ := trodVars_none hV
  obtain ⟨A0, len0, c0, rfl⟩ := okWide_slice Try.underlying22 (hval 0 22 v0 rfl rfl)
  have k0 := h0
  have lt0 : ∀ x ∈ p0, x.block < W.heap.size := by obtain ⟨m, hm⟩ := k0; exact DataW.trod_lt m _ _ _ hm
  have z0 : len0 * 1 ≤ 140737488351232 := RowAid.sized_any hsz (j := 0) (t := 22) (e := 5) rfl Try.underlying22 rfl h0
  obtain ⟨l0, rfl, hc0, hr0, hq0⟩ := RowAid.open_kd ((Kd.int .u8)) (fun x : Int => (Lit.int .u8 x).wf = true) Try.underlying22 (by kernel_rfl) (by
      intro n cs y hl hy
      obtain ⟨x, rfl, _, hw⟩ := DataW.trod_int Try.underlying5 hy
      exact ⟨x, rfl, hw⟩
    ) h0
  clear hA0 hval0 hsz0 hsz
  obtain ⟨k, h⟩ := P l0 z0 hq0
  refine (laws_FnAfters.calls k _ _ l0 true W hr0 hc0 h).mono fun e W' ⟨he, bel0⟩ => ?_
  have bel : Below W.heap.size W W' := bel0
  subst he
  exact ⟨_, rfl, _, _, _, [], _, [], hW', trodAll_mk1 (shut_bool Try.underlying4 _), (trodAll_cons_mk (Below.trod laidOut (by kernel_rfl) (of_decide_eq_true (by kernel_rfl)) k0 bel lt0) trodAll_mk0), rfl, bel.frame _, fun h => by cases h⟩
theorem over (P : laws_FnAfters.PureH) : Rows.fnAftersRow.holds Try.pinned (OpenSpec.ofChange Rows.fnAftersSpec) :=
  OpenClaim.holds_of_wide 6 Try.f6 rfl rfl rfl rfl rfl rfl rfl ⟨rfl, rfl, rfl, rfl, rfl⟩ rfl rfl rfl rfl rfl (by kernel_rfl) Try.func6 (by kernel_rfl)
    (of_decide_eq_true (by kernel_rfl)) (by unfold Func.isWrapper; first | (rw [if_pos (by decide +kernel)]; kernel_rfl) | (rw [if_neg (by decide +kernel)]; exact ⟨rfl, rfl⟩))
    (fun os started H enc _ => lifted P os started H enc)
end Go.Proofs.Ytbkgklkiennpbaa.fnAfters
namespace Go.Proofs.Ytbkgklkiennpbaa
/-- The row, under a short name, for the claim. -/
theorem fnAfters_holds : Rows.FnAftersSaid := fnAfters.over Pure.FnAfters
#print axioms fnAfters_holds
end Go.Proofs.Ytbkgklkiennpbaa
