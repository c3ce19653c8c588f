/-
  No cell of these rows narrows 'for every input' (looked for: loops, veiled, ifaces, maps, wideKeys, modest, calm, conditions, laid).
  DERIVED. THE GIVEN ROWS OF THIS SEAT. 7 by the template 'for every input the law returns true; each argument reads behind the call as it read before'; 0 by the template 'total and deterministic' (their statements: YtomehbmijdjjfaaTotals.lean).
  GIVEN WITH THE SEED: the statements are not yours to turn. If you find one false, say at which input.
  Laid BY PROGRAM, IN A SANDBOX (cutbox-rows.mjs): the forced cells as the released guide's own fill.sh prints them over the translation a468639a7beab252… (all of the seat's roots in one cut). By AI agents, Wed Nov 11 2026. No macro, syntax, notation, axiom, sorry.
-/
import Derived.Test.YtomehbmijdjjfaaChecked
import GoSem.Claim
import GoSem.ClaimJoined
import GoSem.ClaimMapViews
import Derived.JoinedTies
import Derived.KernelRfl
namespace Go.Proofs.Ytomehbmijdjjfaa
/- THE CELL 'sum', in the pinned program and in every row, IS THE sha256 OF THE DUMP (.gsa) THAT YtomehbmijdjjfaaProg.lean LOADS. Nothing in Lean hashes anything: it is a label: what it is worth is what the hold of that sum in a sandbox is worth. -/
noncomputable def Try.pinned : Pinned := { name := "ytomehbmijdjjfaa", sum := "a468639a7beab252085bf486792568c0b2a47541f62ae727b54536a7471de703", checked := Try.checked }
namespace Rows
def none {H : Type} : Left H := { results := [], args := [] }

/-- 'laws.FnWords': WHATEVER THE INPUT: true; the input reads as it did. -/
def fnWordsSpec : ChangeSpec := { name := "fnWords", fn := fun _ => fun
  | [d] => { results := [.lit (.bool true)], args := [d] }
  | _ => none }
def fnWordsRow : OpenClaim := { program := "ytomehbmijdjjfaa", sum := "a468639a7beab252085bf486792568c0b2a47541f62ae727b54536a7471de703", func := "loop.example/g00985/laws.FnWords", spec := "fnWords", unfollowed := true, recurses := true, apart := false }
def FnWordsSaid : Prop := fnWordsRow.holds Try.pinned (OpenSpec.ofChange fnWordsSpec)

/-- ITS FALSE NEIGHBOUR: 'it returns false'. Refute it at one input. -/
def fnWordsWrong : ChangeSpec := { name := "fnWords", fn := fun _ => fun
  | [d] => { results := [.lit (.bool false)], args := [d] }
  | _ => none }
def FnWordsWrongFalsely : Prop := fnWordsRow.holds Try.pinned (OpenSpec.ofChange fnWordsWrong)

/-- 'laws.FnExactProgramOk': WHATEVER THE INPUT: true; the input reads as it did. -/
def fnExactProgramOkSpec : ChangeSpec := { name := "fnExactProgramOk", fn := fun _ => fun
  | [d] => { results := [.lit (.bool true)], args := [d] }
  | _ => none }
def fnExactProgramOkRow : OpenClaim := { program := "ytomehbmijdjjfaa", sum := "a468639a7beab252085bf486792568c0b2a47541f62ae727b54536a7471de703", func := "loop.example/g00985/laws.FnExactProgramOk", spec := "fnExactProgramOk", unfollowed := true, recurses := true, apart := false }
def FnExactProgramOkSaid : Prop := fnExactProgramOkRow.holds Try.pinned (OpenSpec.ofChange fnExactProgramOkSpec)

/-- ITS FALSE NEIGHBOUR: 'it returns false'. Refute it at one input. -/
def fnExactProgramOkWrong : ChangeSpec := { name := "fnExactProgramOk", fn := fun _ => fun
  | [d] => { results := [.lit (.bool false)], args := [d] }
  | _ => none }
def FnExactProgramOkWrongFalsely : Prop := fnExactProgramOkRow.holds Try.pinned (OpenSpec.ofChange fnExactProgramOkWrong)

/-- 'laws.FnMasks': WHATEVER THE INPUT: true; the input reads as it did. -/
def fnMasksSpec : ChangeSpec := { name := "fnMasks", fn := fun _ => fun
  | [d] => { results := [.lit (.bool true)], args := [d] }
  | _ => none }
def fnMasksRow : OpenClaim := { program := "ytomehbmijdjjfaa", sum := "a468639a7beab252085bf486792568c0b2a47541f62ae727b54536a7471de703", func := "loop.example/g00985/laws.FnMasks", spec := "fnMasks", apart := false }
def FnMasksSaid : Prop := fnMasksRow.holds Try.pinned (OpenSpec.ofChange fnMasksSpec)

/-- ITS FALSE NEIGHBOUR: 'it returns false'. Refute it at one input. -/
def fnMasksWrong : ChangeSpec := { name := "fnMasks", fn := fun _ => fun
  | [d] => { results := [.lit (.bool false)], args := [d] }
  | _ => none }
def FnMasksWrongFalsely : Prop := fnMasksRow.holds Try.pinned (OpenSpec.ofChange fnMasksWrong)

/-- 'laws.FnExactIsQuiet': WHATEVER THE INPUT: true; the input reads as it did. -/
def fnExactIsQuietSpec : ChangeSpec := { name := "fnExactIsQuiet", fn := fun _ => fun
  | [d] => { results := [.lit (.bool true)], args := [d] }
  | _ => none }
def fnExactIsQuietRow : OpenClaim := { program := "ytomehbmijdjjfaa", sum := "a468639a7beab252085bf486792568c0b2a47541f62ae727b54536a7471de703", func := "loop.example/g00985/laws.FnExactIsQuiet", spec := "fnExactIsQuiet", unfollowed := true, recurses := true, apart := false }
def FnExactIsQuietSaid : Prop := fnExactIsQuietRow.holds Try.pinned (OpenSpec.ofChange fnExactIsQuietSpec)

/-- ITS FALSE NEIGHBOUR: 'it returns false'. Refute it at one input. -/
def fnExactIsQuietWrong : ChangeSpec := { name := "fnExactIsQuiet", fn := fun _ => fun
  | [d] => { results := [.lit (.bool false)], args := [d] }
  | _ => none }
def FnExactIsQuietWrongFalsely : Prop := fnExactIsQuietRow.holds Try.pinned (OpenSpec.ofChange fnExactIsQuietWrong)

/-- 'laws.FnExactInsertNop': WHATEVER THE INPUT: true; the input reads as it did. -/
def fnExactInsertNopSpec : ChangeSpec := { name := "fnExactInsertNop", fn := fun _ => fun
  | [d1, d2] => { results := [.lit (.bool true)], args := [d1, d2] }
  | _ => none }
def fnExactInsertNopRow : OpenClaim := { program := "ytomehbmijdjjfaa", sum := "a468639a7beab252085bf486792568c0b2a47541f62ae727b54536a7471de703", func := "loop.example/g00985/laws.FnExactInsertNop", spec := "fnExactInsertNop", inPlace := ["slices.overlaps[loop.example/g00985/impl.Ins]"], unfollowed := true, recurses := true, apart := false }
def FnExactInsertNopSaid : Prop := fnExactInsertNopRow.holds Try.pinned (OpenSpec.ofChange fnExactInsertNopSpec)

/-- ITS FALSE NEIGHBOUR: 'it returns false'. Refute it at one input. -/
def fnExactInsertNopWrong : ChangeSpec := { name := "fnExactInsertNop", fn := fun _ => fun
  | [d1, d2] => { results := [.lit (.bool false)], args := [d1, d2] }
  | _ => none }
def FnExactInsertNopWrongFalsely : Prop := fnExactInsertNopRow.holds Try.pinned (OpenSpec.ofChange fnExactInsertNopWrong)

/-- 'laws.FnExactReadsRegs': WHATEVER THE INPUT: true; the input reads as it did. -/
def fnExactReadsRegsSpec : ChangeSpec := { name := "fnExactReadsRegs", fn := fun _ => fun
  | [d] => { results := [.lit (.bool true)], args := [d] }
  | _ => none }
def fnExactReadsRegsRow : OpenClaim := { program := "ytomehbmijdjjfaa", sum := "a468639a7beab252085bf486792568c0b2a47541f62ae727b54536a7471de703", func := "loop.example/g00985/laws.FnExactReadsRegs", spec := "fnExactReadsRegs", recurses := true, apart := false }
def FnExactReadsRegsSaid : Prop := fnExactReadsRegsRow.holds Try.pinned (OpenSpec.ofChange fnExactReadsRegsSpec)

/-- ITS FALSE NEIGHBOUR: 'it returns false'. Refute it at one input. -/
def fnExactReadsRegsWrong : ChangeSpec := { name := "fnExactReadsRegs", fn := fun _ => fun
  | [d] => { results := [.lit (.bool false)], args := [d] }
  | _ => none }
def FnExactReadsRegsWrongFalsely : Prop := fnExactReadsRegsRow.holds Try.pinned (OpenSpec.ofChange fnExactReadsRegsWrong)

/-- 'laws.FnUses': WHATEVER THE INPUT: true; the input reads as it did. -/
def fnUsesSpec : ChangeSpec := { name := "fnUses", fn := fun _ => fun
  | [d] => { results := [.lit (.bool true)], args := [d] }
  | _ => none }
def fnUsesRow : OpenClaim := { program := "ytomehbmijdjjfaa", sum := "a468639a7beab252085bf486792568c0b2a47541f62ae727b54536a7471de703", func := "loop.example/g00985/laws.FnUses", spec := "fnUses", recurses := true, apart := false }
def FnUsesSaid : Prop := fnUsesRow.holds Try.pinned (OpenSpec.ofChange fnUsesSpec)

/-- ITS FALSE NEIGHBOUR: 'it returns false'. Refute it at one input. -/
def fnUsesWrong : ChangeSpec := { name := "fnUses", fn := fun _ => fun
  | [d] => { results := [.lit (.bool false)], args := [d] }
  | _ => none }
def FnUsesWrongFalsely : Prop := fnUsesRow.holds Try.pinned (OpenSpec.ofChange fnUsesWrong)

/- THE SECOND FORM. 'bulk': how many values and letters a reading holds, each counted each time it is reached (what is shared counts as often as it is met; a slice's spare places count too). A statement '..UptoSaid' is the law's where the arguments, and the package variables that the reading takes, are together of bulk at most 1048576: NARROWER than '..Said'. Prove '..Said' where nothing that the law and all that it calls make is longer than what came in: it says more and counts as full. Else prove '..UptoSaid'. A law counts once. -/
mutual
def uptoBulk {H : Type} : DataW H → Nat
  | .lit (.string bytes) => bytes.length + 1
  | .lit _ => 1
  | .nil => 1
  | .ptr d => uptoBulk d + 1
  | .slice elems spare => uptoBulkAll elems + uptoBulkAll spare + 1
  | .agg parts => uptoBulkAll parts + 1
  | .iface _ d => uptoBulk d + 1
  | .map entries => uptoBulkEntries entries + 1
  | .held _ => 1
def uptoBulkAll {H : Type} : List (DataW H) → Nat
  | [] => 0
  | d :: r => uptoBulk d + uptoBulkAll r
def uptoBulkEntries {H : Type} : List (Lit × DataW H) → Nat
  | [] => 0
  | x :: r => uptoBulkEntry x + uptoBulkEntries r
def uptoBulkEntry {H : Type} : Lit × DataW H → Nat
  | (.string bytes, d) => bytes.length + uptoBulk d + 1
  | (_, d) => uptoBulk d + 1
 end
def uptoSmall : (H : Type) → List (DataW H) → Bool := fun _ ds => decide (uptoBulkAll ds ≤ 1048576)
def OpenSpec.upto (s : _root_.Go.ChangeSpec) : _root_.Go.OpenSpec := { _root_.Go.OpenSpec.ofChange s with cond := some uptoSmall }

/-- 'laws.FnWords', WHERE WHAT IT READS IS OF BULK AT MOST 1048576: true; the input reads as it did. -/
def fnWordsUptoRow : OpenClaim := { program := "ytomehbmijdjjfaa", sum := "a468639a7beab252085bf486792568c0b2a47541f62ae727b54536a7471de703", func := "loop.example/g00985/laws.FnWords", spec := "fnWords", unfollowed := true, recurses := true, apart := false, narrowed := true }
def FnWordsUptoSaid : Prop := fnWordsUptoRow.holds Try.pinned (OpenSpec.upto fnWordsSpec)

/-- 'laws.FnExactProgramOk', WHERE WHAT IT READS IS OF BULK AT MOST 1048576: true; the input reads as it did. -/
def fnExactProgramOkUptoRow : OpenClaim := { program := "ytomehbmijdjjfaa", sum := "a468639a7beab252085bf486792568c0b2a47541f62ae727b54536a7471de703", func := "loop.example/g00985/laws.FnExactProgramOk", spec := "fnExactProgramOk", unfollowed := true, recurses := true, apart := false, narrowed := true }
def FnExactProgramOkUptoSaid : Prop := fnExactProgramOkUptoRow.holds Try.pinned (OpenSpec.upto fnExactProgramOkSpec)

/-- 'laws.FnMasks', WHERE WHAT IT READS IS OF BULK AT MOST 1048576: true; the input reads as it did. -/
def fnMasksUptoRow : OpenClaim := { program := "ytomehbmijdjjfaa", sum := "a468639a7beab252085bf486792568c0b2a47541f62ae727b54536a7471de703", func := "loop.example/g00985/laws.FnMasks", spec := "fnMasks", apart := false, narrowed := true }
def FnMasksUptoSaid : Prop := fnMasksUptoRow.holds Try.pinned (OpenSpec.upto fnMasksSpec)

/-- 'laws.FnExactIsQuiet', WHERE WHAT IT READS IS OF BULK AT MOST 1048576: true; the input reads as it did. -/
def fnExactIsQuietUptoRow : OpenClaim := { program := "ytomehbmijdjjfaa", sum := "a468639a7beab252085bf486792568c0b2a47541f62ae727b54536a7471de703", func := "loop.example/g00985/laws.FnExactIsQuiet", spec := "fnExactIsQuiet", unfollowed := true, recurses := true, apart := false, narrowed := true }
def FnExactIsQuietUptoSaid : Prop := fnExactIsQuietUptoRow.holds Try.pinned (OpenSpec.upto fnExactIsQuietSpec)

/-- 'laws.FnExactInsertNop', WHERE WHAT IT READS IS OF BULK AT MOST 1048576: true; the input reads as it did. -/
def fnExactInsertNopUptoRow : OpenClaim := { program := "ytomehbmijdjjfaa", sum := "a468639a7beab252085bf486792568c0b2a47541f62ae727b54536a7471de703", func := "loop.example/g00985/laws.FnExactInsertNop", spec := "fnExactInsertNop", inPlace := ["slices.overlaps[loop.example/g00985/impl.Ins]"], unfollowed := true, recurses := true, apart := false, narrowed := true }
def FnExactInsertNopUptoSaid : Prop := fnExactInsertNopUptoRow.holds Try.pinned (OpenSpec.upto fnExactInsertNopSpec)

/-- 'laws.FnExactReadsRegs', WHERE WHAT IT READS IS OF BULK AT MOST 1048576: true; the input reads as it did. -/
def fnExactReadsRegsUptoRow : OpenClaim := { program := "ytomehbmijdjjfaa", sum := "a468639a7beab252085bf486792568c0b2a47541f62ae727b54536a7471de703", func := "loop.example/g00985/laws.FnExactReadsRegs", spec := "fnExactReadsRegs", recurses := true, apart := false, narrowed := true }
def FnExactReadsRegsUptoSaid : Prop := fnExactReadsRegsUptoRow.holds Try.pinned (OpenSpec.upto fnExactReadsRegsSpec)

/-- 'laws.FnUses', WHERE WHAT IT READS IS OF BULK AT MOST 1048576: true; the input reads as it did. -/
def fnUsesUptoRow : OpenClaim := { program := "ytomehbmijdjjfaa", sum := "a468639a7beab252085bf486792568c0b2a47541f62ae727b54536a7471de703", func := "loop.example/g00985/laws.FnUses", spec := "fnUses", recurses := true, apart := false, narrowed := true }
def FnUsesUptoSaid : Prop := fnUsesUptoRow.holds Try.pinned (OpenSpec.upto fnUsesSpec)

end Rows
end Go.Proofs.Ytomehbmijdjjfaa
