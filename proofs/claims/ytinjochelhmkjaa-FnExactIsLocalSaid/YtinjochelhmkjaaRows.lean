/-
  No cell of these rows narrows 'for every input' (looked for: loops, veiled, ifaces, maps, wideKeys, modest, calm, conditions, laid).
  DERIVED. THE GIVEN ROWS OF THIS SEAT. 12 by the template 'for every input the law returns true; each argument reads behind the call as it read before'; 0 by the template 'total and deterministic' (their statements: YtinjochelhmkjaaTotals.lean).
  GIVEN WITH THE SEED: the statements are not yours to turn. If you find one false, say at which input.
  Laid BY PROGRAM, IN A SANDBOX (cutbox-rows.mjs): the forced cells as the released guide's own fill.sh prints them over the translation 0199a64f31490a07… (all of the seat's roots in one cut). By AI agents, Wed Nov 11 2026. No macro, syntax, notation, axiom, sorry.
-/
import Derived.Test.YtinjochelhmkjaaChecked
import GoSem.Claim
import GoSem.ClaimJoined
import GoSem.ClaimMapViews
import Derived.JoinedTies
import Derived.KernelRfl
namespace Go.Proofs.Ytinjochelhmkjaa
/- THE CELL 'sum', in the pinned program and in every row, IS THE sha256 OF THE DUMP (.gsa) THAT YtinjochelhmkjaaProg.lean LOADS. Nothing in Lean hashes anything: it is a label: what it is worth is what the hold of that sum in a sandbox is worth. -/
noncomputable def Try.pinned : Pinned := { name := "ytinjochelhmkjaa", sum := "0199a64f31490a07a72cfcfd2b99df34151934393908027318f04c416bd5daae", checked := Try.checked }
namespace Rows
def none {H : Type} : Left H := { results := [], args := [] }

/-- 'laws.FnExactConstants': WHATEVER THE INPUT: true; the input reads as it did. -/
def fnExactConstantsSpec : ChangeSpec := { name := "fnExactConstants", fn := fun _ => fun
  | [] => { results := [.lit (.bool true)], args := [] }
  | _ => none }
def fnExactConstantsRow : OpenClaim := { program := "ytinjochelhmkjaa", sum := "0199a64f31490a07a72cfcfd2b99df34151934393908027318f04c416bd5daae", func := "loop.example/g00985/laws.FnExactConstants", spec := "fnExactConstants", apart := false }
def FnExactConstantsSaid : Prop := fnExactConstantsRow.holds Try.pinned (OpenSpec.ofChange fnExactConstantsSpec)

/-- ITS FALSE NEIGHBOUR: 'it returns false'. Refute it at one input. -/
def fnExactConstantsWrong : ChangeSpec := { name := "fnExactConstants", fn := fun _ => fun
  | [] => { results := [.lit (.bool false)], args := [] }
  | _ => none }
def FnExactConstantsWrongFalsely : Prop := fnExactConstantsRow.holds Try.pinned (OpenSpec.ofChange fnExactConstantsWrong)

/-- 'laws.FnExactWrapWord': WHATEVER THE INPUT: true; the input reads as it did. -/
def fnExactWrapWordSpec : ChangeSpec := { name := "fnExactWrapWord", fn := fun _ => fun
  | [d] => { results := [.lit (.bool true)], args := [d] }
  | _ => none }
def fnExactWrapWordRow : OpenClaim := { program := "ytinjochelhmkjaa", sum := "0199a64f31490a07a72cfcfd2b99df34151934393908027318f04c416bd5daae", func := "loop.example/g00985/laws.FnExactWrapWord", spec := "fnExactWrapWord", apart := false }
def FnExactWrapWordSaid : Prop := fnExactWrapWordRow.holds Try.pinned (OpenSpec.ofChange fnExactWrapWordSpec)

/-- ITS FALSE NEIGHBOUR: 'it returns false'. Refute it at one input. -/
def fnExactWrapWordWrong : ChangeSpec := { name := "fnExactWrapWord", fn := fun _ => fun
  | [d] => { results := [.lit (.bool false)], args := [d] }
  | _ => none }
def FnExactWrapWordWrongFalsely : Prop := fnExactWrapWordRow.holds Try.pinned (OpenSpec.ofChange fnExactWrapWordWrong)

/-- 'laws.FnExactIsMask': WHATEVER THE INPUT: true; the input reads as it did. -/
def fnExactIsMaskSpec : ChangeSpec := { name := "fnExactIsMask", fn := fun _ => fun
  | [d] => { results := [.lit (.bool true)], args := [d] }
  | _ => none }
def fnExactIsMaskRow : OpenClaim := { program := "ytinjochelhmkjaa", sum := "0199a64f31490a07a72cfcfd2b99df34151934393908027318f04c416bd5daae", func := "loop.example/g00985/laws.FnExactIsMask", spec := "fnExactIsMask", apart := false }
def FnExactIsMaskSaid : Prop := fnExactIsMaskRow.holds Try.pinned (OpenSpec.ofChange fnExactIsMaskSpec)

/-- ITS FALSE NEIGHBOUR: 'it returns false'. Refute it at one input. -/
def fnExactIsMaskWrong : ChangeSpec := { name := "fnExactIsMask", fn := fun _ => fun
  | [d] => { results := [.lit (.bool false)], args := [d] }
  | _ => none }
def FnExactIsMaskWrongFalsely : Prop := fnExactIsMaskRow.holds Try.pinned (OpenSpec.ofChange fnExactIsMaskWrong)

/-- 'laws.FnExactIsWord': WHATEVER THE INPUT: true; the input reads as it did. -/
def fnExactIsWordSpec : ChangeSpec := { name := "fnExactIsWord", fn := fun _ => fun
  | [d] => { results := [.lit (.bool true)], args := [d] }
  | _ => none }
def fnExactIsWordRow : OpenClaim := { program := "ytinjochelhmkjaa", sum := "0199a64f31490a07a72cfcfd2b99df34151934393908027318f04c416bd5daae", func := "loop.example/g00985/laws.FnExactIsWord", spec := "fnExactIsWord", apart := false }
def FnExactIsWordSaid : Prop := fnExactIsWordRow.holds Try.pinned (OpenSpec.ofChange fnExactIsWordSpec)

/-- ITS FALSE NEIGHBOUR: 'it returns false'. Refute it at one input. -/
def fnExactIsWordWrong : ChangeSpec := { name := "fnExactIsWord", fn := fun _ => fun
  | [d] => { results := [.lit (.bool false)], args := [d] }
  | _ => none }
def FnExactIsWordWrongFalsely : Prop := fnExactIsWordRow.holds Try.pinned (OpenSpec.ofChange fnExactIsWordWrong)

/-- 'laws.FnExactHasLane': WHATEVER THE INPUT: true; the input reads as it did. -/
def fnExactHasLaneSpec : ChangeSpec := { name := "fnExactHasLane", fn := fun _ => fun
  | [d1, d2] => { results := [.lit (.bool true)], args := [d1, d2] }
  | _ => none }
def fnExactHasLaneRow : OpenClaim := { program := "ytinjochelhmkjaa", sum := "0199a64f31490a07a72cfcfd2b99df34151934393908027318f04c416bd5daae", func := "loop.example/g00985/laws.FnExactHasLane", spec := "fnExactHasLane", apart := false }
def FnExactHasLaneSaid : Prop := fnExactHasLaneRow.holds Try.pinned (OpenSpec.ofChange fnExactHasLaneSpec)

/-- ITS FALSE NEIGHBOUR: 'it returns false'. Refute it at one input. -/
def fnExactHasLaneWrong : ChangeSpec := { name := "fnExactHasLane", fn := fun _ => fun
  | [d1, d2] => { results := [.lit (.bool false)], args := [d1, d2] }
  | _ => none }
def FnExactHasLaneWrongFalsely : Prop := fnExactHasLaneRow.holds Try.pinned (OpenSpec.ofChange fnExactHasLaneWrong)

/-- 'laws.FnExactIsLocal': WHATEVER THE INPUT: true; the input reads as it did. -/
def fnExactIsLocalSpec : ChangeSpec := { name := "fnExactIsLocal", fn := fun _ => fun
  | [d] => { results := [.lit (.bool true)], args := [d] }
  | _ => none }
def fnExactIsLocalRow : OpenClaim := { program := "ytinjochelhmkjaa", sum := "0199a64f31490a07a72cfcfd2b99df34151934393908027318f04c416bd5daae", func := "loop.example/g00985/laws.FnExactIsLocal", spec := "fnExactIsLocal", apart := false }
def FnExactIsLocalSaid : Prop := fnExactIsLocalRow.holds Try.pinned (OpenSpec.ofChange fnExactIsLocalSpec)

/-- ITS FALSE NEIGHBOUR: 'it returns false'. Refute it at one input. -/
def fnExactIsLocalWrong : ChangeSpec := { name := "fnExactIsLocal", fn := fun _ => fun
  | [d] => { results := [.lit (.bool false)], args := [d] }
  | _ => none }
def FnExactIsLocalWrongFalsely : Prop := fnExactIsLocalRow.holds Try.pinned (OpenSpec.ofChange fnExactIsLocalWrong)

/-- 'laws.FnExactClamp': WHATEVER THE INPUT: true; the input reads as it did. -/
def fnExactClampSpec : ChangeSpec := { name := "fnExactClamp", fn := fun _ => fun
  | [d1, d2, d3] => { results := [.lit (.bool true)], args := [d1, d2, d3] }
  | _ => none }
def fnExactClampRow : OpenClaim := { program := "ytinjochelhmkjaa", sum := "0199a64f31490a07a72cfcfd2b99df34151934393908027318f04c416bd5daae", func := "loop.example/g00985/laws.FnExactClamp", spec := "fnExactClamp", apart := false }
def FnExactClampSaid : Prop := fnExactClampRow.holds Try.pinned (OpenSpec.ofChange fnExactClampSpec)

/-- ITS FALSE NEIGHBOUR: 'it returns false'. Refute it at one input. -/
def fnExactClampWrong : ChangeSpec := { name := "fnExactClamp", fn := fun _ => fun
  | [d1, d2, d3] => { results := [.lit (.bool false)], args := [d1, d2, d3] }
  | _ => none }
def FnExactClampWrongFalsely : Prop := fnExactClampRow.holds Try.pinned (OpenSpec.ofChange fnExactClampWrong)

/-- 'laws.FnExactLessWords': WHATEVER THE INPUT: true; the input reads as it did. -/
def fnExactLessWordsSpec : ChangeSpec := { name := "fnExactLessWords", fn := fun _ => fun
  | [d1, d2] => { results := [.lit (.bool true)], args := [d1, d2] }
  | _ => none }
def fnExactLessWordsRow : OpenClaim := { program := "ytinjochelhmkjaa", sum := "0199a64f31490a07a72cfcfd2b99df34151934393908027318f04c416bd5daae", func := "loop.example/g00985/laws.FnExactLessWords", spec := "fnExactLessWords", apart := false }
def FnExactLessWordsSaid : Prop := fnExactLessWordsRow.holds Try.pinned (OpenSpec.ofChange fnExactLessWordsSpec)

/-- ITS FALSE NEIGHBOUR: 'it returns false'. Refute it at one input. -/
def fnExactLessWordsWrong : ChangeSpec := { name := "fnExactLessWords", fn := fun _ => fun
  | [d1, d2] => { results := [.lit (.bool false)], args := [d1, d2] }
  | _ => none }
def FnExactLessWordsWrongFalsely : Prop := fnExactLessWordsRow.holds Try.pinned (OpenSpec.ofChange fnExactLessWordsWrong)

/-- 'laws.FnExactSplitMask': WHATEVER THE INPUT: true; the input reads as it did. -/
def fnExactSplitMaskSpec : ChangeSpec := { name := "fnExactSplitMask", fn := fun _ => fun
  | [d1, d2] => { results := [.lit (.bool true)], args := [d1, d2] }
  | _ => none }
def fnExactSplitMaskRow : OpenClaim := { program := "ytinjochelhmkjaa", sum := "0199a64f31490a07a72cfcfd2b99df34151934393908027318f04c416bd5daae", func := "loop.example/g00985/laws.FnExactSplitMask", spec := "fnExactSplitMask", apart := false }
def FnExactSplitMaskSaid : Prop := fnExactSplitMaskRow.holds Try.pinned (OpenSpec.ofChange fnExactSplitMaskSpec)

/-- ITS FALSE NEIGHBOUR: 'it returns false'. Refute it at one input. -/
def fnExactSplitMaskWrong : ChangeSpec := { name := "fnExactSplitMask", fn := fun _ => fun
  | [d1, d2] => { results := [.lit (.bool false)], args := [d1, d2] }
  | _ => none }
def FnExactSplitMaskWrongFalsely : Prop := fnExactSplitMaskRow.holds Try.pinned (OpenSpec.ofChange fnExactSplitMaskWrong)

/-- 'laws.FnExactOpName': WHATEVER THE INPUT: true; the input reads as it did. -/
def fnExactOpNameSpec : ChangeSpec := { name := "fnExactOpName", fn := fun _ => fun
  | [d] => { results := [.lit (.bool true)], args := [d] }
  | _ => none }
def fnExactOpNameRow : OpenClaim := { program := "ytinjochelhmkjaa", sum := "0199a64f31490a07a72cfcfd2b99df34151934393908027318f04c416bd5daae", func := "loop.example/g00985/laws.FnExactOpName", spec := "fnExactOpName", apart := false }
def FnExactOpNameSaid : Prop := fnExactOpNameRow.holds Try.pinned (OpenSpec.ofChange fnExactOpNameSpec)

/-- ITS FALSE NEIGHBOUR: 'it returns false'. Refute it at one input. -/
def fnExactOpNameWrong : ChangeSpec := { name := "fnExactOpName", fn := fun _ => fun
  | [d] => { results := [.lit (.bool false)], args := [d] }
  | _ => none }
def FnExactOpNameWrongFalsely : Prop := fnExactOpNameRow.holds Try.pinned (OpenSpec.ofChange fnExactOpNameWrong)

/-- 'laws.FnExactAddWords': WHATEVER THE INPUT: true; the input reads as it did. -/
def fnExactAddWordsSpec : ChangeSpec := { name := "fnExactAddWords", fn := fun _ => fun
  | [d1, d2] => { results := [.lit (.bool true)], args := [d1, d2] }
  | _ => none }
def fnExactAddWordsRow : OpenClaim := { program := "ytinjochelhmkjaa", sum := "0199a64f31490a07a72cfcfd2b99df34151934393908027318f04c416bd5daae", func := "loop.example/g00985/laws.FnExactAddWords", spec := "fnExactAddWords", apart := false }
def FnExactAddWordsSaid : Prop := fnExactAddWordsRow.holds Try.pinned (OpenSpec.ofChange fnExactAddWordsSpec)

/-- ITS FALSE NEIGHBOUR: 'it returns false'. Refute it at one input. -/
def fnExactAddWordsWrong : ChangeSpec := { name := "fnExactAddWords", fn := fun _ => fun
  | [d1, d2] => { results := [.lit (.bool false)], args := [d1, d2] }
  | _ => none }
def FnExactAddWordsWrongFalsely : Prop := fnExactAddWordsRow.holds Try.pinned (OpenSpec.ofChange fnExactAddWordsWrong)

/-- 'laws.FnExactMulWords': WHATEVER THE INPUT: true; the input reads as it did. -/
def fnExactMulWordsSpec : ChangeSpec := { name := "fnExactMulWords", fn := fun _ => fun
  | [d1, d2] => { results := [.lit (.bool true)], args := [d1, d2] }
  | _ => none }
def fnExactMulWordsRow : OpenClaim := { program := "ytinjochelhmkjaa", sum := "0199a64f31490a07a72cfcfd2b99df34151934393908027318f04c416bd5daae", func := "loop.example/g00985/laws.FnExactMulWords", spec := "fnExactMulWords", apart := false }
def FnExactMulWordsSaid : Prop := fnExactMulWordsRow.holds Try.pinned (OpenSpec.ofChange fnExactMulWordsSpec)

/-- ITS FALSE NEIGHBOUR: 'it returns false'. Refute it at one input. -/
def fnExactMulWordsWrong : ChangeSpec := { name := "fnExactMulWords", fn := fun _ => fun
  | [d1, d2] => { results := [.lit (.bool false)], args := [d1, d2] }
  | _ => none }
def FnExactMulWordsWrongFalsely : Prop := fnExactMulWordsRow.holds Try.pinned (OpenSpec.ofChange fnExactMulWordsWrong)

/- THE SECOND FORM. 'bulk': how many values and letters a reading holds, each counted each time it is reached (what is shared counts as often as it is met; a slice's spare places count too). A statement '..UptoSaid' is the law's where the arguments, and the package variables that the reading takes, are together of bulk at most 1048576: NARROWER than '..Said'. Prove '..Said' where nothing that the law and all that it calls make is longer than what came in: it says more and counts as full. Else prove '..UptoSaid'. A law counts once. -/
mutual
def uptoBulk {H : Type} : DataW H → Nat
  | .lit (.string bytes) => bytes.length + 1
  | .lit _ => 1
  | .nil => 1
  | .ptr d => uptoBulk d + 1
  | .slice elems spare => uptoBulkAll elems + uptoBulkAll spare + 1
  | .agg parts => uptoBulkAll parts + 1
  | .iface _ d => uptoBulk d + 1
  | .map entries => uptoBulkEntries entries + 1
  | .held _ => 1
def uptoBulkAll {H : Type} : List (DataW H) → Nat
  | [] => 0
  | d :: r => uptoBulk d + uptoBulkAll r
def uptoBulkEntries {H : Type} : List (Lit × DataW H) → Nat
  | [] => 0
  | x :: r => uptoBulkEntry x + uptoBulkEntries r
def uptoBulkEntry {H : Type} : Lit × DataW H → Nat
  | (.string bytes, d) => bytes.length + uptoBulk d + 1
  | (_, d) => uptoBulk d + 1
 end
def uptoSmall : (H : Type) → List (DataW H) → Bool := fun _ ds => decide (uptoBulkAll ds ≤ 1048576)
def OpenSpec.upto (s : _root_.Go.ChangeSpec) : _root_.Go.OpenSpec := { _root_.Go.OpenSpec.ofChange s with cond := some uptoSmall }

/-- 'laws.FnExactConstants', WHERE WHAT IT READS IS OF BULK AT MOST 1048576: true; the input reads as it did. -/
def fnExactConstantsUptoRow : OpenClaim := { program := "ytinjochelhmkjaa", sum := "0199a64f31490a07a72cfcfd2b99df34151934393908027318f04c416bd5daae", func := "loop.example/g00985/laws.FnExactConstants", spec := "fnExactConstants", apart := false, narrowed := true }
def FnExactConstantsUptoSaid : Prop := fnExactConstantsUptoRow.holds Try.pinned (OpenSpec.upto fnExactConstantsSpec)

/-- 'laws.FnExactWrapWord', WHERE WHAT IT READS IS OF BULK AT MOST 1048576: true; the input reads as it did. -/
def fnExactWrapWordUptoRow : OpenClaim := { program := "ytinjochelhmkjaa", sum := "0199a64f31490a07a72cfcfd2b99df34151934393908027318f04c416bd5daae", func := "loop.example/g00985/laws.FnExactWrapWord", spec := "fnExactWrapWord", apart := false, narrowed := true }
def FnExactWrapWordUptoSaid : Prop := fnExactWrapWordUptoRow.holds Try.pinned (OpenSpec.upto fnExactWrapWordSpec)

/-- 'laws.FnExactIsMask', WHERE WHAT IT READS IS OF BULK AT MOST 1048576: true; the input reads as it did. -/
def fnExactIsMaskUptoRow : OpenClaim := { program := "ytinjochelhmkjaa", sum := "0199a64f31490a07a72cfcfd2b99df34151934393908027318f04c416bd5daae", func := "loop.example/g00985/laws.FnExactIsMask", spec := "fnExactIsMask", apart := false, narrowed := true }
def FnExactIsMaskUptoSaid : Prop := fnExactIsMaskUptoRow.holds Try.pinned (OpenSpec.upto fnExactIsMaskSpec)

/-- 'laws.FnExactIsWord', WHERE WHAT IT READS IS OF BULK AT MOST 1048576: true; the input reads as it did. -/
def fnExactIsWordUptoRow : OpenClaim := { program := "ytinjochelhmkjaa", sum := "0199a64f31490a07a72cfcfd2b99df34151934393908027318f04c416bd5daae", func := "loop.example/g00985/laws.FnExactIsWord", spec := "fnExactIsWord", apart := false, narrowed := true }
def FnExactIsWordUptoSaid : Prop := fnExactIsWordUptoRow.holds Try.pinned (OpenSpec.upto fnExactIsWordSpec)

/-- 'laws.FnExactHasLane', WHERE WHAT IT READS IS OF BULK AT MOST 1048576: true; the input reads as it did. -/
def fnExactHasLaneUptoRow : OpenClaim := { program := "ytinjochelhmkjaa", sum := "0199a64f31490a07a72cfcfd2b99df34151934393908027318f04c416bd5daae", func := "loop.example/g00985/laws.FnExactHasLane", spec := "fnExactHasLane", apart := false, narrowed := true }
def FnExactHasLaneUptoSaid : Prop := fnExactHasLaneUptoRow.holds Try.pinned (OpenSpec.upto fnExactHasLaneSpec)

/-- 'laws.FnExactIsLocal', WHERE WHAT IT READS IS OF BULK AT MOST 1048576: true; the input reads as it did. -/
def fnExactIsLocalUptoRow : OpenClaim := { program := "ytinjochelhmkjaa", sum := "0199a64f31490a07a72cfcfd2b99df34151934393908027318f04c416bd5daae", func := "loop.example/g00985/laws.FnExactIsLocal", spec := "fnExactIsLocal", apart := false, narrowed := true }
def FnExactIsLocalUptoSaid : Prop := fnExactIsLocalUptoRow.holds Try.pinned (OpenSpec.upto fnExactIsLocalSpec)

/-- 'laws.FnExactClamp', WHERE WHAT IT READS IS OF BULK AT MOST 1048576: true; the input reads as it did. -/
def fnExactClampUptoRow : OpenClaim := { program := "ytinjochelhmkjaa", sum := "0199a64f31490a07a72cfcfd2b99df34151934393908027318f04c416bd5daae", func := "loop.example/g00985/laws.FnExactClamp", spec := "fnExactClamp", apart := false, narrowed := true }
def FnExactClampUptoSaid : Prop := fnExactClampUptoRow.holds Try.pinned (OpenSpec.upto fnExactClampSpec)

/-- 'laws.FnExactLessWords', WHERE WHAT IT READS IS OF BULK AT MOST 1048576: true; the input reads as it did. -/
def fnExactLessWordsUptoRow : OpenClaim := { program := "ytinjochelhmkjaa", sum := "0199a64f31490a07a72cfcfd2b99df34151934393908027318f04c416bd5daae", func := "loop.example/g00985/laws.FnExactLessWords", spec := "fnExactLessWords", apart := false, narrowed := true }
def FnExactLessWordsUptoSaid : Prop := fnExactLessWordsUptoRow.holds Try.pinned (OpenSpec.upto fnExactLessWordsSpec)

/-- 'laws.FnExactSplitMask', WHERE WHAT IT READS IS OF BULK AT MOST 1048576: true; the input reads as it did. -/
def fnExactSplitMaskUptoRow : OpenClaim := { program := "ytinjochelhmkjaa", sum := "0199a64f31490a07a72cfcfd2b99df34151934393908027318f04c416bd5daae", func := "loop.example/g00985/laws.FnExactSplitMask", spec := "fnExactSplitMask", apart := false, narrowed := true }
def FnExactSplitMaskUptoSaid : Prop := fnExactSplitMaskUptoRow.holds Try.pinned (OpenSpec.upto fnExactSplitMaskSpec)

/-- 'laws.FnExactOpName', WHERE WHAT IT READS IS OF BULK AT MOST 1048576: true; the input reads as it did. -/
def fnExactOpNameUptoRow : OpenClaim := { program := "ytinjochelhmkjaa", sum := "0199a64f31490a07a72cfcfd2b99df34151934393908027318f04c416bd5daae", func := "loop.example/g00985/laws.FnExactOpName", spec := "fnExactOpName", apart := false, narrowed := true }
def FnExactOpNameUptoSaid : Prop := fnExactOpNameUptoRow.holds Try.pinned (OpenSpec.upto fnExactOpNameSpec)

/-- 'laws.FnExactAddWords', WHERE WHAT IT READS IS OF BULK AT MOST 1048576: true; the input reads as it did. -/
def fnExactAddWordsUptoRow : OpenClaim := { program := "ytinjochelhmkjaa", sum := "0199a64f31490a07a72cfcfd2b99df34151934393908027318f04c416bd5daae", func := "loop.example/g00985/laws.FnExactAddWords", spec := "fnExactAddWords", apart := false, narrowed := true }
def FnExactAddWordsUptoSaid : Prop := fnExactAddWordsUptoRow.holds Try.pinned (OpenSpec.upto fnExactAddWordsSpec)

/-- 'laws.FnExactMulWords', WHERE WHAT IT READS IS OF BULK AT MOST 1048576: true; the input reads as it did. -/
def fnExactMulWordsUptoRow : OpenClaim := { program := "ytinjochelhmkjaa", sum := "0199a64f31490a07a72cfcfd2b99df34151934393908027318f04c416bd5daae", func := "loop.example/g00985/laws.FnExactMulWords", spec := "fnExactMulWords", apart := false, narrowed := true }
def FnExactMulWordsUptoSaid : Prop := fnExactMulWordsUptoRow.holds Try.pinned (OpenSpec.upto fnExactMulWordsSpec)

end Rows
end Go.Proofs.Ytinjochelhmkjaa
