/-
  No cell of these rows narrows 'for every input' (looked for: loops, veiled, ifaces, maps, wideKeys, modest, calm, conditions, laid).
  DERIVED. THE GIVEN ROWS OF THIS SEAT. 12 by the template 'for every input the law returns true; each argument reads behind the call as it read before'; 0 by the template 'total and deterministic' (their statements: YteccjpcplceppaaTotals.lean).
  GIVEN WITH THE SEED: the statements are not yours to turn. If you find one false, say at which input.
  Laid BY PROGRAM, IN A SANDBOX (cutbox-rows.mjs): the forced cells as the released guide's own fill.sh prints them over the translation 8562dc7d88d92d0c… (all of the seat's roots in one cut). By AI agents, Wed Nov 11 2026. No macro, syntax, notation, axiom, sorry.
-/
import Derived.Test.YteccjpcplceppaaChecked
import GoSem.Claim
import GoSem.ClaimJoined
import GoSem.ClaimMapViews
import Derived.JoinedTies
import Derived.KernelRfl
namespace Go.Proofs.Yteccjpcplceppaa
/- THE CELL 'sum', in the pinned program and in every row, IS THE sha256 OF THE DUMP (.gsa) THAT YteccjpcplceppaaProg.lean LOADS. Nothing in Lean hashes anything: it is a label: what it is worth is what the hold of that sum in a sandbox is worth. -/
noncomputable def Try.pinned : Pinned := { name := "yteccjpcplceppaa", sum := "8562dc7d88d92d0c965604895b227caa8cdb5be636fac208c06abf36fcd2025c", checked := Try.checked }
namespace Rows
def none {H : Type} : Left H := { results := [], args := [] }

/-- 'laws.FnExactSubWords': WHATEVER THE INPUT: true; the input reads as it did. -/
def fnExactSubWordsSpec : ChangeSpec := { name := "fnExactSubWords", fn := fun _ => fun
  | [d1, d2] => { results := [.lit (.bool true)], args := [d1, d2] }
  | _ => none }
def fnExactSubWordsRow : OpenClaim := { program := "yteccjpcplceppaa", sum := "8562dc7d88d92d0c965604895b227caa8cdb5be636fac208c06abf36fcd2025c", func := "loop.example/g00985/laws.FnExactSubWords", spec := "fnExactSubWords", apart := false }
def FnExactSubWordsSaid : Prop := fnExactSubWordsRow.holds Try.pinned (OpenSpec.ofChange fnExactSubWordsSpec)

/-- ITS FALSE NEIGHBOUR: 'it returns false'. Refute it at one input. -/
def fnExactSubWordsWrong : ChangeSpec := { name := "fnExactSubWords", fn := fun _ => fun
  | [d1, d2] => { results := [.lit (.bool false)], args := [d1, d2] }
  | _ => none }
def FnExactSubWordsWrongFalsely : Prop := fnExactSubWordsRow.holds Try.pinned (OpenSpec.ofChange fnExactSubWordsWrong)

/-- 'laws.FnExactWritesReg': WHATEVER THE INPUT: true; the input reads as it did. -/
def fnExactWritesRegSpec : ChangeSpec := { name := "fnExactWritesReg", fn := fun _ => fun
  | [d] => { results := [.lit (.bool true)], args := [d] }
  | _ => none }
def fnExactWritesRegRow : OpenClaim := { program := "yteccjpcplceppaa", sum := "8562dc7d88d92d0c965604895b227caa8cdb5be636fac208c06abf36fcd2025c", func := "loop.example/g00985/laws.FnExactWritesReg", spec := "fnExactWritesReg", apart := false }
def FnExactWritesRegSaid : Prop := fnExactWritesRegRow.holds Try.pinned (OpenSpec.ofChange fnExactWritesRegSpec)

/-- ITS FALSE NEIGHBOUR: 'it returns false'. Refute it at one input. -/
def fnExactWritesRegWrong : ChangeSpec := { name := "fnExactWritesReg", fn := fun _ => fun
  | [d] => { results := [.lit (.bool false)], args := [d] }
  | _ => none }
def FnExactWritesRegWrongFalsely : Prop := fnExactWritesRegRow.holds Try.pinned (OpenSpec.ofChange fnExactWritesRegWrong)

/-- 'laws.FnExactEncodeHex': WHATEVER THE INPUT: true; the input reads as it did. -/
def fnExactEncodeHexSpec : ChangeSpec := { name := "fnExactEncodeHex", fn := fun _ => fun
  | [d] => { results := [.lit (.bool true)], args := [d] }
  | _ => none }
def fnExactEncodeHexRow : OpenClaim := { program := "yteccjpcplceppaa", sum := "8562dc7d88d92d0c965604895b227caa8cdb5be636fac208c06abf36fcd2025c", func := "loop.example/g00985/laws.FnExactEncodeHex", spec := "fnExactEncodeHex", apart := false }
def FnExactEncodeHexSaid : Prop := fnExactEncodeHexRow.holds Try.pinned (OpenSpec.ofChange fnExactEncodeHexSpec)

/-- ITS FALSE NEIGHBOUR: 'it returns false'. Refute it at one input. -/
def fnExactEncodeHexWrong : ChangeSpec := { name := "fnExactEncodeHex", fn := fun _ => fun
  | [d] => { results := [.lit (.bool false)], args := [d] }
  | _ => none }
def FnExactEncodeHexWrongFalsely : Prop := fnExactEncodeHexRow.holds Try.pinned (OpenSpec.ofChange fnExactEncodeHexWrong)

/-- 'laws.FnExactMaskOf': WHATEVER THE INPUT: true; the input reads as it did. -/
def fnExactMaskOfSpec : ChangeSpec := { name := "fnExactMaskOf", fn := fun _ => fun
  | [d] => { results := [.lit (.bool true)], args := [d] }
  | _ => none }
def fnExactMaskOfRow : OpenClaim := { program := "yteccjpcplceppaa", sum := "8562dc7d88d92d0c965604895b227caa8cdb5be636fac208c06abf36fcd2025c", func := "loop.example/g00985/laws.FnExactMaskOf", spec := "fnExactMaskOf", apart := false }
def FnExactMaskOfSaid : Prop := fnExactMaskOfRow.holds Try.pinned (OpenSpec.ofChange fnExactMaskOfSpec)

/-- ITS FALSE NEIGHBOUR: 'it returns false'. Refute it at one input. -/
def fnExactMaskOfWrong : ChangeSpec := { name := "fnExactMaskOf", fn := fun _ => fun
  | [d] => { results := [.lit (.bool false)], args := [d] }
  | _ => none }
def FnExactMaskOfWrongFalsely : Prop := fnExactMaskOfRow.holds Try.pinned (OpenSpec.ofChange fnExactMaskOfWrong)

/-- 'laws.FnExactAreWords': WHATEVER THE INPUT: true; the input reads as it did. -/
def fnExactAreWordsSpec : ChangeSpec := { name := "fnExactAreWords", fn := fun _ => fun
  | [d] => { results := [.lit (.bool true)], args := [d] }
  | _ => none }
def fnExactAreWordsRow : OpenClaim := { program := "yteccjpcplceppaa", sum := "8562dc7d88d92d0c965604895b227caa8cdb5be636fac208c06abf36fcd2025c", func := "loop.example/g00985/laws.FnExactAreWords", spec := "fnExactAreWords", unfollowed := true, recurses := true, apart := false }
def FnExactAreWordsSaid : Prop := fnExactAreWordsRow.holds Try.pinned (OpenSpec.ofChange fnExactAreWordsSpec)

/-- ITS FALSE NEIGHBOUR: 'it returns false'. Refute it at one input. -/
def fnExactAreWordsWrong : ChangeSpec := { name := "fnExactAreWords", fn := fun _ => fun
  | [d] => { results := [.lit (.bool false)], args := [d] }
  | _ => none }
def FnExactAreWordsWrongFalsely : Prop := fnExactAreWordsRow.holds Try.pinned (OpenSpec.ofChange fnExactAreWordsWrong)

/-- 'laws.FnExactDecodeHex': WHATEVER THE INPUT: true; the input reads as it did. -/
def fnExactDecodeHexSpec : ChangeSpec := { name := "fnExactDecodeHex", fn := fun _ => fun
  | [d] => { results := [.lit (.bool true)], args := [d] }
  | _ => none }
def fnExactDecodeHexRow : OpenClaim := { program := "yteccjpcplceppaa", sum := "8562dc7d88d92d0c965604895b227caa8cdb5be636fac208c06abf36fcd2025c", func := "loop.example/g00985/laws.FnExactDecodeHex", spec := "fnExactDecodeHex", apart := false }
def FnExactDecodeHexSaid : Prop := fnExactDecodeHexRow.holds Try.pinned (OpenSpec.ofChange fnExactDecodeHexSpec)

/-- ITS FALSE NEIGHBOUR: 'it returns false'. Refute it at one input. -/
def fnExactDecodeHexWrong : ChangeSpec := { name := "fnExactDecodeHex", fn := fun _ => fun
  | [d] => { results := [.lit (.bool false)], args := [d] }
  | _ => none }
def FnExactDecodeHexWrongFalsely : Prop := fnExactDecodeHexRow.holds Try.pinned (OpenSpec.ofChange fnExactDecodeHexWrong)

/-- 'laws.FnExactLanesOf': WHATEVER THE INPUT: true; the input reads as it did. -/
def fnExactLanesOfSpec : ChangeSpec := { name := "fnExactLanesOf", fn := fun _ => fun
  | [d] => { results := [.lit (.bool true)], args := [d] }
  | _ => none }
def fnExactLanesOfRow : OpenClaim := { program := "yteccjpcplceppaa", sum := "8562dc7d88d92d0c965604895b227caa8cdb5be636fac208c06abf36fcd2025c", func := "loop.example/g00985/laws.FnExactLanesOf", spec := "fnExactLanesOf", apart := false }
def FnExactLanesOfSaid : Prop := fnExactLanesOfRow.holds Try.pinned (OpenSpec.ofChange fnExactLanesOfSpec)

/-- ITS FALSE NEIGHBOUR: 'it returns false'. Refute it at one input. -/
def fnExactLanesOfWrong : ChangeSpec := { name := "fnExactLanesOf", fn := fun _ => fun
  | [d] => { results := [.lit (.bool false)], args := [d] }
  | _ => none }
def FnExactLanesOfWrongFalsely : Prop := fnExactLanesOfRow.holds Try.pinned (OpenSpec.ofChange fnExactLanesOfWrong)

/-- 'laws.FnClamped': WHATEVER THE INPUT: true; the input reads as it did. -/
def fnClampedSpec : ChangeSpec := { name := "fnClamped", fn := fun _ => fun
  | [d] => { results := [.lit (.bool true)], args := [d] }
  | _ => none }
def fnClampedRow : OpenClaim := { program := "yteccjpcplceppaa", sum := "8562dc7d88d92d0c965604895b227caa8cdb5be636fac208c06abf36fcd2025c", func := "loop.example/g00985/laws.FnClamped", spec := "fnClamped", apart := false }
def FnClampedSaid : Prop := fnClampedRow.holds Try.pinned (OpenSpec.ofChange fnClampedSpec)

/-- ITS FALSE NEIGHBOUR: 'it returns false'. Refute it at one input. -/
def fnClampedWrong : ChangeSpec := { name := "fnClamped", fn := fun _ => fun
  | [d] => { results := [.lit (.bool false)], args := [d] }
  | _ => none }
def FnClampedWrongFalsely : Prop := fnClampedRow.holds Try.pinned (OpenSpec.ofChange fnClampedWrong)

/-- 'laws.FnExactInsOk': WHATEVER THE INPUT: true; the input reads as it did. -/
def fnExactInsOkSpec : ChangeSpec := { name := "fnExactInsOk", fn := fun _ => fun
  | [d1, d2] => { results := [.lit (.bool true)], args := [d1, d2] }
  | _ => none }
def fnExactInsOkRow : OpenClaim := { program := "yteccjpcplceppaa", sum := "8562dc7d88d92d0c965604895b227caa8cdb5be636fac208c06abf36fcd2025c", func := "loop.example/g00985/laws.FnExactInsOk", spec := "fnExactInsOk", apart := false }
def FnExactInsOkSaid : Prop := fnExactInsOkRow.holds Try.pinned (OpenSpec.ofChange fnExactInsOkSpec)

/-- ITS FALSE NEIGHBOUR: 'it returns false'. Refute it at one input. -/
def fnExactInsOkWrong : ChangeSpec := { name := "fnExactInsOk", fn := fun _ => fun
  | [d1, d2] => { results := [.lit (.bool false)], args := [d1, d2] }
  | _ => none }
def FnExactInsOkWrongFalsely : Prop := fnExactInsOkRow.holds Try.pinned (OpenSpec.ofChange fnExactInsOkWrong)

/-- 'laws.FnExactCountLanes': WHATEVER THE INPUT: true; the input reads as it did. -/
def fnExactCountLanesSpec : ChangeSpec := { name := "fnExactCountLanes", fn := fun _ => fun
  | [d] => { results := [.lit (.bool true)], args := [d] }
  | _ => none }
def fnExactCountLanesRow : OpenClaim := { program := "yteccjpcplceppaa", sum := "8562dc7d88d92d0c965604895b227caa8cdb5be636fac208c06abf36fcd2025c", func := "loop.example/g00985/laws.FnExactCountLanes", spec := "fnExactCountLanes", apart := false }
def FnExactCountLanesSaid : Prop := fnExactCountLanesRow.holds Try.pinned (OpenSpec.ofChange fnExactCountLanesSpec)

/-- ITS FALSE NEIGHBOUR: 'it returns false'. Refute it at one input. -/
def fnExactCountLanesWrong : ChangeSpec := { name := "fnExactCountLanes", fn := fun _ => fun
  | [d] => { results := [.lit (.bool false)], args := [d] }
  | _ => none }
def FnExactCountLanesWrongFalsely : Prop := fnExactCountLanesRow.holds Try.pinned (OpenSpec.ofChange fnExactCountLanesWrong)

/-- 'laws.FnExactCountOps': WHATEVER THE INPUT: true; the input reads as it did. -/
def fnExactCountOpsSpec : ChangeSpec := { name := "fnExactCountOps", fn := fun _ => fun
  | [d1, d2] => { results := [.lit (.bool true)], args := [d1, d2] }
  | _ => none }
def fnExactCountOpsRow : OpenClaim := { program := "yteccjpcplceppaa", sum := "8562dc7d88d92d0c965604895b227caa8cdb5be636fac208c06abf36fcd2025c", func := "loop.example/g00985/laws.FnExactCountOps", spec := "fnExactCountOps", apart := false }
def FnExactCountOpsSaid : Prop := fnExactCountOpsRow.holds Try.pinned (OpenSpec.ofChange fnExactCountOpsSpec)

/-- ITS FALSE NEIGHBOUR: 'it returns false'. Refute it at one input. -/
def fnExactCountOpsWrong : ChangeSpec := { name := "fnExactCountOps", fn := fun _ => fun
  | [d1, d2] => { results := [.lit (.bool false)], args := [d1, d2] }
  | _ => none }
def FnExactCountOpsWrongFalsely : Prop := fnExactCountOpsRow.holds Try.pinned (OpenSpec.ofChange fnExactCountOpsWrong)

/-- 'laws.FnExactSamePrograms': WHATEVER THE INPUT: true; the input reads as it did. -/
def fnExactSameProgramsSpec : ChangeSpec := { name := "fnExactSamePrograms", fn := fun _ => fun
  | [d1, d2] => { results := [.lit (.bool true)], args := [d1, d2] }
  | _ => none }
def fnExactSameProgramsRow : OpenClaim := { program := "yteccjpcplceppaa", sum := "8562dc7d88d92d0c965604895b227caa8cdb5be636fac208c06abf36fcd2025c", func := "loop.example/g00985/laws.FnExactSamePrograms", spec := "fnExactSamePrograms", apart := false }
def FnExactSameProgramsSaid : Prop := fnExactSameProgramsRow.holds Try.pinned (OpenSpec.ofChange fnExactSameProgramsSpec)

/-- ITS FALSE NEIGHBOUR: 'it returns false'. Refute it at one input. -/
def fnExactSameProgramsWrong : ChangeSpec := { name := "fnExactSamePrograms", fn := fun _ => fun
  | [d1, d2] => { results := [.lit (.bool false)], args := [d1, d2] }
  | _ => none }
def FnExactSameProgramsWrongFalsely : Prop := fnExactSameProgramsRow.holds Try.pinned (OpenSpec.ofChange fnExactSameProgramsWrong)

/- THE SECOND FORM. 'bulk': how many values and letters a reading holds, each counted each time it is reached (what is shared counts as often as it is met; a slice's spare places count too). A statement '..UptoSaid' is the law's where the arguments, and the package variables that the reading takes, are together of bulk at most 1048576: NARROWER than '..Said'. Prove '..Said' where nothing that the law and all that it calls make is longer than what came in: it says more and counts as full. Else prove '..UptoSaid'. A law counts once. -/
mutual
def uptoBulk {H : Type} : DataW H → Nat
  | .lit (.string bytes) => bytes.length + 1
  | .lit _ => 1
  | .nil => 1
  | .ptr d => uptoBulk d + 1
  | .slice elems spare => uptoBulkAll elems + uptoBulkAll spare + 1
  | .agg parts => uptoBulkAll parts + 1
  | .iface _ d => uptoBulk d + 1
  | .map entries => uptoBulkEntries entries + 1
  | .held _ => 1
def uptoBulkAll {H : Type} : List (DataW H) → Nat
  | [] => 0
  | d :: r => uptoBulk d + uptoBulkAll r
def uptoBulkEntries {H : Type} : List (Lit × DataW H) → Nat
  | [] => 0
  | x :: r => uptoBulkEntry x + uptoBulkEntries r
def uptoBulkEntry {H : Type} : Lit × DataW H → Nat
  | (.string bytes, d) => bytes.length + uptoBulk d + 1
  | (_, d) => uptoBulk d + 1
 end
def uptoSmall : (H : Type) → List (DataW H) → Bool := fun _ ds => decide (uptoBulkAll ds ≤ 1048576)
def OpenSpec.upto (s : _root_.Go.ChangeSpec) : _root_.Go.OpenSpec := { _root_.Go.OpenSpec.ofChange s with cond := some uptoSmall }

/-- 'laws.FnExactSubWords', WHERE WHAT IT READS IS OF BULK AT MOST 1048576: true; the input reads as it did. -/
def fnExactSubWordsUptoRow : OpenClaim := { program := "yteccjpcplceppaa", sum := "8562dc7d88d92d0c965604895b227caa8cdb5be636fac208c06abf36fcd2025c", func := "loop.example/g00985/laws.FnExactSubWords", spec := "fnExactSubWords", apart := false, narrowed := true }
def FnExactSubWordsUptoSaid : Prop := fnExactSubWordsUptoRow.holds Try.pinned (OpenSpec.upto fnExactSubWordsSpec)

/-- 'laws.FnExactWritesReg', WHERE WHAT IT READS IS OF BULK AT MOST 1048576: true; the input reads as it did. -/
def fnExactWritesRegUptoRow : OpenClaim := { program := "yteccjpcplceppaa", sum := "8562dc7d88d92d0c965604895b227caa8cdb5be636fac208c06abf36fcd2025c", func := "loop.example/g00985/laws.FnExactWritesReg", spec := "fnExactWritesReg", apart := false, narrowed := true }
def FnExactWritesRegUptoSaid : Prop := fnExactWritesRegUptoRow.holds Try.pinned (OpenSpec.upto fnExactWritesRegSpec)

/-- 'laws.FnExactEncodeHex', WHERE WHAT IT READS IS OF BULK AT MOST 1048576: true; the input reads as it did. -/
def fnExactEncodeHexUptoRow : OpenClaim := { program := "yteccjpcplceppaa", sum := "8562dc7d88d92d0c965604895b227caa8cdb5be636fac208c06abf36fcd2025c", func := "loop.example/g00985/laws.FnExactEncodeHex", spec := "fnExactEncodeHex", apart := false, narrowed := true }
def FnExactEncodeHexUptoSaid : Prop := fnExactEncodeHexUptoRow.holds Try.pinned (OpenSpec.upto fnExactEncodeHexSpec)

/-- 'laws.FnExactMaskOf', WHERE WHAT IT READS IS OF BULK AT MOST 1048576: true; the input reads as it did. -/
def fnExactMaskOfUptoRow : OpenClaim := { program := "yteccjpcplceppaa", sum := "8562dc7d88d92d0c965604895b227caa8cdb5be636fac208c06abf36fcd2025c", func := "loop.example/g00985/laws.FnExactMaskOf", spec := "fnExactMaskOf", apart := false, narrowed := true }
def FnExactMaskOfUptoSaid : Prop := fnExactMaskOfUptoRow.holds Try.pinned (OpenSpec.upto fnExactMaskOfSpec)

/-- 'laws.FnExactAreWords', WHERE WHAT IT READS IS OF BULK AT MOST 1048576: true; the input reads as it did. -/
def fnExactAreWordsUptoRow : OpenClaim := { program := "yteccjpcplceppaa", sum := "8562dc7d88d92d0c965604895b227caa8cdb5be636fac208c06abf36fcd2025c", func := "loop.example/g00985/laws.FnExactAreWords", spec := "fnExactAreWords", unfollowed := true, recurses := true, apart := false, narrowed := true }
def FnExactAreWordsUptoSaid : Prop := fnExactAreWordsUptoRow.holds Try.pinned (OpenSpec.upto fnExactAreWordsSpec)

/-- 'laws.FnExactDecodeHex', WHERE WHAT IT READS IS OF BULK AT MOST 1048576: true; the input reads as it did. -/
def fnExactDecodeHexUptoRow : OpenClaim := { program := "yteccjpcplceppaa", sum := "8562dc7d88d92d0c965604895b227caa8cdb5be636fac208c06abf36fcd2025c", func := "loop.example/g00985/laws.FnExactDecodeHex", spec := "fnExactDecodeHex", apart := false, narrowed := true }
def FnExactDecodeHexUptoSaid : Prop := fnExactDecodeHexUptoRow.holds Try.pinned (OpenSpec.upto fnExactDecodeHexSpec)

/-- 'laws.FnExactLanesOf', WHERE WHAT IT READS IS OF BULK AT MOST 1048576: true; the input reads as it did. -/
def fnExactLanesOfUptoRow : OpenClaim := { program := "yteccjpcplceppaa", sum := "8562dc7d88d92d0c965604895b227caa8cdb5be636fac208c06abf36fcd2025c", func := "loop.example/g00985/laws.FnExactLanesOf", spec := "fnExactLanesOf", apart := false, narrowed := true }
def FnExactLanesOfUptoSaid : Prop := fnExactLanesOfUptoRow.holds Try.pinned (OpenSpec.upto fnExactLanesOfSpec)

/-- 'laws.FnClamped', WHERE WHAT IT READS IS OF BULK AT MOST 1048576: true; the input reads as it did. -/
def fnClampedUptoRow : OpenClaim := { program := "yteccjpcplceppaa", sum := "8562dc7d88d92d0c965604895b227caa8cdb5be636fac208c06abf36fcd2025c", func := "loop.example/g00985/laws.FnClamped", spec := "fnClamped", apart := false, narrowed := true }
def FnClampedUptoSaid : Prop := fnClampedUptoRow.holds Try.pinned (OpenSpec.upto fnClampedSpec)

/-- 'laws.FnExactInsOk', WHERE WHAT IT READS IS OF BULK AT MOST 1048576: true; the input reads as it did. -/
def fnExactInsOkUptoRow : OpenClaim := { program := "yteccjpcplceppaa", sum := "8562dc7d88d92d0c965604895b227caa8cdb5be636fac208c06abf36fcd2025c", func := "loop.example/g00985/laws.FnExactInsOk", spec := "fnExactInsOk", apart := false, narrowed := true }
def FnExactInsOkUptoSaid : Prop := fnExactInsOkUptoRow.holds Try.pinned (OpenSpec.upto fnExactInsOkSpec)

/-- 'laws.FnExactCountLanes', WHERE WHAT IT READS IS OF BULK AT MOST 1048576: true; the input reads as it did. -/
def fnExactCountLanesUptoRow : OpenClaim := { program := "yteccjpcplceppaa", sum := "8562dc7d88d92d0c965604895b227caa8cdb5be636fac208c06abf36fcd2025c", func := "loop.example/g00985/laws.FnExactCountLanes", spec := "fnExactCountLanes", apart := false, narrowed := true }
def FnExactCountLanesUptoSaid : Prop := fnExactCountLanesUptoRow.holds Try.pinned (OpenSpec.upto fnExactCountLanesSpec)

/-- 'laws.FnExactCountOps', WHERE WHAT IT READS IS OF BULK AT MOST 1048576: true; the input reads as it did. -/
def fnExactCountOpsUptoRow : OpenClaim := { program := "yteccjpcplceppaa", sum := "8562dc7d88d92d0c965604895b227caa8cdb5be636fac208c06abf36fcd2025c", func := "loop.example/g00985/laws.FnExactCountOps", spec := "fnExactCountOps", apart := false, narrowed := true }
def FnExactCountOpsUptoSaid : Prop := fnExactCountOpsUptoRow.holds Try.pinned (OpenSpec.upto fnExactCountOpsSpec)

/-- 'laws.FnExactSamePrograms', WHERE WHAT IT READS IS OF BULK AT MOST 1048576: true; the input reads as it did. -/
def fnExactSameProgramsUptoRow : OpenClaim := { program := "yteccjpcplceppaa", sum := "8562dc7d88d92d0c965604895b227caa8cdb5be636fac208c06abf36fcd2025c", func := "loop.example/g00985/laws.FnExactSamePrograms", spec := "fnExactSamePrograms", apart := false, narrowed := true }
def FnExactSameProgramsUptoSaid : Prop := fnExactSameProgramsUptoRow.holds Try.pinned (OpenSpec.upto fnExactSameProgramsSpec)

end Rows
end Go.Proofs.Yteccjpcplceppaa
