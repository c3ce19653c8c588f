-- by hprint.py (wip/tools): the row of the law, out of its pure statement and the walk
import Derived.Test.YtomehbmijdjjfaaRows
import Derived.Test.YtomehbmijdjjfaaRowAid
import Derived.Test.YtomehbmijdjjfaaHNFnExactInsertNopStmt
import Derived.Test.YtomehbmijdjjfaaPureFnExactInsertNop
import Derived.WalkKit
import Derived.ProofKit
import Derived.OpenShut
import Derived.ShutString
import Derived.ChangeOld
import Derived.Below
import Derived.SizedLaws
import Derived.Lib.SmallJoins
import Derived.Deep.Slices
namespace Go.Proofs.Ytomehbmijdjjfaa.fnExactInsertNop
open Go.ChangeShapes Go.WideShapes Go.ChangeAt Go.RowKit Go.Proofs.Ytomehbmijdjjfaa.HN
open Go.ChangeMaps (open_string shut_string)
open Go.Proofs.YtomehbmijdjjfaaW.PrintWords
set_option linter.unusedVariables false
theorem own : ownKnob Try.prog.godebug = none := by kernel_rfl
theorem laidOut : laidOutB Try.prog = true := by kernel_rfl
set_option maxRecDepth 100000 in
theorem lifted (P : laws_FnExactInsertNop.PureH) (os : Os) (started : os.Started) (H : Type) (enc : TypeId × Value → H) :
    ReturnsInHanded {} Try.checked os 7 .any (Rows.fnExactInsertNopSpec.pre6 enc Try.prog Try.f7 Rows.fnExactInsertNopRow.domain false) (Rows.fnExactInsertNopSpec.post enc Try.prog Try.f7 false true false false) := by
  refine returnsInHanded_of_change_sized (C := Try.checked) own started (by kernel_rfl) Try.func7
    (ChangeSpec.witness6 (enc := enc) (C := Try.checked) false ⟨#[], #[.slice none 0 0, .int .i64 0], []⟩ 8 (by kernel_rfl) (by kernel_rfl) (by kernel_rfl) (by kernel_rfl)) ?_
  intro W base args ds gs before hval0 hW hcnd hsz0 _
  have hsz : (DataW.weightsEach Try.prog (Try.f7.params.toList ++ Rows.fnExactInsertNopSpec.plain.varTypes Try.prog) (ds ++ gs)).all (· ≤ reachBytes) = true := hsz0
  have hval : ∀ (j : Nat) t v, Try.f7.params[j]? = some t → args[j]? = some v → Value.okWide Try.prog W .any base t v := hval0
  have hW' := hW
  obtain ⟨p, q, hA0, hV, rfl, hfz, hnd⟩ := hW
  have hA : DataW.TrodAll enc Try.prog W 0 (fun _ => true) true Try.f7.params.toList args.toList ds p := hA0
  rw [Try.params7] at hA hval hsz
  obtain ⟨v0, vs0, d0, ds0, p0, q0, hargs, rfl, rfl, h0, r0⟩ := trodAll_cons hA
  obtain ⟨v1, vs1, d1, ds1, p1, q1, rfl, rfl, rfl, h1, r1⟩ := trodAll_cons r0
  obtain ⟨rfl, rfl, rfl⟩ := trodAll_nil r1
  obtain rfl : args = #[v0, v1] := by cases args; simp_all
  obtain ⟨rfl, rfl⟩ := trodVars_none hV
  obtain ⟨A0, len0, c0, rfl⟩ := okWide_slice Try.underlying31 (hval 0 31 v0 rfl rfl)
  have k0 := h0
  have lt0 : ∀ x ∈ p0, x.block < W.heap.size := by obtain ⟨m, hm⟩ := k0; exact DataW.trod_lt m _ _ _ hm
  have z0 : len0 * 32 ≤ 140737488351232 := RowAid.sized_any hsz (j := 0) (t := 31) (e := 50) rfl Try.underlying31 rfl h0
  obtain ⟨l0, rfl, hc0, hr0, hq0⟩ := RowAid.open_kd (k50) (fun x : S50 => (Lit.int .i64 x.f0).wf = true ∧ (Lit.int .i64 x.f1).wf = true ∧ (Lit.int .i64 x.f2).wf = true ∧ (Lit.int .i64 x.f3).wf = true) Try.underlying31 (by kernel_rfl) (by
      intro n cs y hl hy
      obtain ⟨y0, y1, y2, y3, m, _, hlen, g0, g1, g2, g3⟩ := Joins.trod_struct4 Try.underlying50 hy
      match cs, hl with
      | [c0, c1, c2, c3], _ =>
        obtain ⟨x0, e0, _, w0⟩ := DataW.trod_int Try.underlying3 g0
        obtain ⟨x1, e1, _, w1⟩ := DataW.trod_int Try.underlying3 g1
        obtain ⟨x2, e2, _, w2⟩ := DataW.trod_int Try.underlying3 g2
        obtain ⟨x3, e3, _, w3⟩ := DataW.trod_int Try.underlying3 g3
        have cc : Try.prog.cellsOf 3 = 1 := by kernel_rfl
        simp [cc] at e0 e1 e2 e3
        subst e0 e1 e2 e3
        exact ⟨⟨x0, x1, x2, x3⟩, k50_mk _ ⟨x0, x1, x2, x3⟩, w0, w1, w2, w3⟩
    ) h0
  obtain ⟨a1, rfl, rfl, rfl, w1⟩ := open_int Try.underlying3 (hval 1 3 v1 rfl rfl) h1
  clear hA0 hval0 hsz0 hsz
  obtain ⟨k, h⟩ := P l0 a1 z0 hq0 w1
  refine (laws_FnExactInsertNop.calls k _ _ l0 a1 true W hr0 hc0 h).mono fun e W' ⟨he, bel0⟩ => ?_
  have bel : Below W.heap.size W W' := bel0
  subst he
  exact ⟨_, rfl, _, _, _, [], _, [], hW', trodAll_mk1 (shut_bool Try.underlying4 _), (trodAll_cons_mk (Below.trod laidOut (by kernel_rfl) (of_decide_eq_true (by kernel_rfl)) k0 bel lt0) (trodAll_cons_mk (shut_int Try.underlying3 w1) trodAll_mk0)), rfl, bel.frame _, fun h => by cases h⟩
theorem over (P : laws_FnExactInsertNop.PureH) : Rows.fnExactInsertNopRow.holds Try.pinned (OpenSpec.ofChange Rows.fnExactInsertNopSpec) :=
  OpenClaim.holds_of_wide 7 Try.f7 rfl rfl rfl rfl rfl rfl rfl ⟨rfl, rfl, rfl, rfl, rfl⟩ rfl rfl rfl rfl rfl (by kernel_rfl) Try.func7 (by kernel_rfl)
    (of_decide_eq_true (by kernel_rfl)) (by unfold Func.isWrapper; first | (rw [if_pos (by decide +kernel)]; kernel_rfl) | (rw [if_neg (by decide +kernel)]; exact ⟨rfl, rfl⟩))
    (fun os started H enc _ => lifted P os started H enc)
end Go.Proofs.Ytomehbmijdjjfaa.fnExactInsertNop
namespace Go.Proofs.Ytomehbmijdjjfaa
/-- The row, under a short name, for the claim. -/
theorem fnExactInsertNop_holds : Rows.FnExactInsertNopSaid := fnExactInsertNop.over Pure.FnExactInsertNop
#print axioms fnExactInsertNop_holds
end Go.Proofs.Ytomehbmijdjjfaa
