/-
  DERIVED. GIVEN WITH THE SEED: THE CARDS: each row of YtionemdnfhcfpaaDoorRows.lean that lists a variable, with what it lists TIED to the program's text (the seventh form; the later family's looks); each row that meets fmt, with fmt's text TOLD by the authors' own Lean function (tested against real Go, not proved from fmt's source: count such statements apart). THE CARD IS WHAT COUNTS. Prove the row's statement (the work); the ties are given (YtionemdnfhcfpaaDoorTie.lean); close each card by the builder's one call (the guide's Derived/Test/ToyasCard.lean, 'card_holds'). Laid BY PROGRAM, IN A SANDBOX (cutbox-door.mjs). By AI agents, Wed Nov 11 2026. No macro, syntax, notation, axiom, sorry.
-/
import Derived.Test.YtionemdnfhcfpaaDoorRows
import GoSem.ClaimSeven
namespace Go.Proofs.YtionemdnfhcfpaaDoor
namespace Rows

/-- THE TIED CARD OF 'laws.FnExactSplitFields'. -/
def fnExactSplitFieldsCard : Claim7 := { stood := { row := fnExactSplitFieldsRow, standIns := [], harness := (true, "1fec0fc6c348d66b3cfe79c2cb63a174d0b4f3d0c5ec6ee6f93da20d7e0570e2"), looks := true }, kinds := [], alts := [], laidByText := true, laidKinds := [.listed, .data], laidTests := true, laidLooks := .later }
def FnExactSplitFieldsCardSaid : Prop := Claim7.holds Tryd.pinned (.plain (OpenSpec.ofChange fnExactSplitFieldsSpec)) fnExactSplitFieldsCard

/-- THE TIED CARD OF 'laws.FnExactFormatIns'. -/
def fnExactFormatInsCard : Claim7 := { stood := { row := fnExactFormatInsRow, standIns := [], harness := (true, "1fec0fc6c348d66b3cfe79c2cb63a174d0b4f3d0c5ec6ee6f93da20d7e0570e2"), looks := true }, kinds := [], alts := [], laidByText := true, laidKinds := [.data, .data, .data], laidTests := true, laidLooks := .later }
def FnExactFormatInsCardSaid : Prop := Claim7.holds Tryd.pinned (.plain (OpenSpec.ofChange fnExactFormatInsSpec)) fnExactFormatInsCard

/-- THE TIED CARD OF 'laws.FnExactFormatProgram'. -/
def fnExactFormatProgramCard : Claim7 := { stood := { row := fnExactFormatProgramRow, standIns := [], harness := (true, "1fec0fc6c348d66b3cfe79c2cb63a174d0b4f3d0c5ec6ee6f93da20d7e0570e2"), looks := true }, kinds := [], alts := [], laidByText := true, laidKinds := [.data, .data, .data], laidTests := true, laidLooks := .later }
def FnExactFormatProgramCardSaid : Prop := Claim7.holds Tryd.pinned (.plain (OpenSpec.ofChange fnExactFormatProgramSpec)) fnExactFormatProgramCard

/-- THE TIED CARD OF 'laws.FnFieldsAgain'. -/
def fnFieldsAgainCard : Claim7 := { stood := { row := fnFieldsAgainRow, standIns := [], harness := (true, "1fec0fc6c348d66b3cfe79c2cb63a174d0b4f3d0c5ec6ee6f93da20d7e0570e2"), looks := true }, kinds := [], alts := [], laidByText := true, laidKinds := [.data, .data, .data, .listed, .data], laidTests := true, laidLooks := .later }
def FnFieldsAgainCardSaid : Prop := Claim7.holds Tryd.pinned (.plain (OpenSpec.ofChange fnFieldsAgainSpec)) fnFieldsAgainCard

/-- THE TIED CARD OF 'laws.FnExactParseUint'. -/
def fnExactParseUintCard : Claim7 := { stood := { row := fnExactParseUintRow, standIns := [], harness := (true, "1fec0fc6c348d66b3cfe79c2cb63a174d0b4f3d0c5ec6ee6f93da20d7e0570e2"), looks := true }, kinds := [], alts := [], laidByText := true, laidKinds := [.data, .data, .data, .sentinel, .sentinel], laidTests := true, laidLooks := .later }
def FnExactParseUintCardSaid : Prop := Claim7.holds Tryd.pinned (.plain (OpenSpec.ofChange fnExactParseUintSpec)) fnExactParseUintCard

/-- THE TIED CARD OF 'laws.FnNumbers'. -/
def fnNumbersCard : Claim7 := { stood := { row := fnNumbersRow, standIns := [], harness := (true, "1fec0fc6c348d66b3cfe79c2cb63a174d0b4f3d0c5ec6ee6f93da20d7e0570e2"), looks := true }, kinds := [], alts := [], laidByText := true, laidKinds := [.data, .data, .data, .sentinel, .sentinel], laidTests := true, laidLooks := .later }
def FnNumbersCardSaid : Prop := Claim7.holds Tryd.pinned (.plain (OpenSpec.ofChange fnNumbersSpec)) fnNumbersCard

/-- THE TIED CARD OF 'laws.FnExactParseIns'. -/
def fnExactParseInsCard : Claim7 := { stood := { row := fnExactParseInsRow, standIns := [], harness := (true, "1fec0fc6c348d66b3cfe79c2cb63a174d0b4f3d0c5ec6ee6f93da20d7e0570e2"), looks := true }, kinds := [], alts := [], laidByText := true, laidKinds := [.data, .data, .data, .sentinel, .sentinel, .listed, .data], laidTests := true, laidLooks := .later }
def FnExactParseInsCardSaid : Prop := Claim7.holds Tryd.pinned (.plain (OpenSpec.ofChange fnExactParseInsSpec)) fnExactParseInsCard

/-- THE TIED CARD OF 'laws.FnExactParseProgram'. -/
def fnExactParseProgramCard : Claim7 := { stood := { row := fnExactParseProgramRow, standIns := [], harness := (true, "1fec0fc6c348d66b3cfe79c2cb63a174d0b4f3d0c5ec6ee6f93da20d7e0570e2"), looks := true }, kinds := [], alts := [], laidByText := true, laidKinds := [.data, .data, .data, .sentinel, .sentinel, .listed, .data], laidTests := true, laidLooks := .later }
def FnExactParseProgramCardSaid : Prop := Claim7.holds Tryd.pinned (.plain (OpenSpec.ofChange fnExactParseProgramSpec)) fnExactParseProgramCard

/-- THE TIED CARD OF 'laws.FnListings'. -/
def fnListingsCard : Claim7 := { stood := { row := fnListingsRow, standIns := [], harness := (true, "1fec0fc6c348d66b3cfe79c2cb63a174d0b4f3d0c5ec6ee6f93da20d7e0570e2"), looks := true }, kinds := [], alts := [], laidByText := true, laidKinds := [.data, .data, .data, .sentinel, .sentinel, .listed, .data], laidTests := true, laidLooks := .later }
def FnListingsCardSaid : Prop := Claim7.holds Tryd.pinned (.plain (OpenSpec.ofChange fnListingsSpec)) fnListingsCard

/-- THE SECOND FORM's CARD OF 'laws.FnExactSplitFields'. -/
def fnExactSplitFieldsUptoCard : Claim7 := { stood := { row := fnExactSplitFieldsUptoRow, standIns := [], harness := (true, "1fec0fc6c348d66b3cfe79c2cb63a174d0b4f3d0c5ec6ee6f93da20d7e0570e2"), looks := true }, kinds := [], alts := [], laidByText := true, laidKinds := [.listed, .data], laidTests := true, laidLooks := .later }
def FnExactSplitFieldsUptoCardSaid : Prop := Claim7.holds Tryd.pinned (.plain (OpenSpec.upto fnExactSplitFieldsSpec)) fnExactSplitFieldsUptoCard

/-- THE SECOND FORM's CARD OF 'laws.FnExactFormatIns'. -/
def fnExactFormatInsUptoCard : Claim7 := { stood := { row := fnExactFormatInsUptoRow, standIns := [], harness := (true, "1fec0fc6c348d66b3cfe79c2cb63a174d0b4f3d0c5ec6ee6f93da20d7e0570e2"), looks := true }, kinds := [], alts := [], laidByText := true, laidKinds := [.data, .data, .data], laidTests := true, laidLooks := .later }
def FnExactFormatInsUptoCardSaid : Prop := Claim7.holds Tryd.pinned (.plain (OpenSpec.upto fnExactFormatInsSpec)) fnExactFormatInsUptoCard

/-- THE SECOND FORM's CARD OF 'laws.FnExactFormatProgram'. -/
def fnExactFormatProgramUptoCard : Claim7 := { stood := { row := fnExactFormatProgramUptoRow, standIns := [], harness := (true, "1fec0fc6c348d66b3cfe79c2cb63a174d0b4f3d0c5ec6ee6f93da20d7e0570e2"), looks := true }, kinds := [], alts := [], laidByText := true, laidKinds := [.data, .data, .data], laidTests := true, laidLooks := .later }
def FnExactFormatProgramUptoCardSaid : Prop := Claim7.holds Tryd.pinned (.plain (OpenSpec.upto fnExactFormatProgramSpec)) fnExactFormatProgramUptoCard

/-- THE SECOND FORM's CARD OF 'laws.FnFieldsAgain'. -/
def fnFieldsAgainUptoCard : Claim7 := { stood := { row := fnFieldsAgainUptoRow, standIns := [], harness := (true, "1fec0fc6c348d66b3cfe79c2cb63a174d0b4f3d0c5ec6ee6f93da20d7e0570e2"), looks := true }, kinds := [], alts := [], laidByText := true, laidKinds := [.data, .data, .data, .listed, .data], laidTests := true, laidLooks := .later }
def FnFieldsAgainUptoCardSaid : Prop := Claim7.holds Tryd.pinned (.plain (OpenSpec.upto fnFieldsAgainSpec)) fnFieldsAgainUptoCard

/-- THE SECOND FORM's CARD OF 'laws.FnExactParseUint'. -/
def fnExactParseUintUptoCard : Claim7 := { stood := { row := fnExactParseUintUptoRow, standIns := [], harness := (true, "1fec0fc6c348d66b3cfe79c2cb63a174d0b4f3d0c5ec6ee6f93da20d7e0570e2"), looks := true }, kinds := [], alts := [], laidByText := true, laidKinds := [.data, .data, .data, .sentinel, .sentinel], laidTests := true, laidLooks := .later }
def FnExactParseUintUptoCardSaid : Prop := Claim7.holds Tryd.pinned (.plain (OpenSpec.upto fnExactParseUintSpec)) fnExactParseUintUptoCard

/-- THE SECOND FORM's CARD OF 'laws.FnNumbers'. -/
def fnNumbersUptoCard : Claim7 := { stood := { row := fnNumbersUptoRow, standIns := [], harness := (true, "1fec0fc6c348d66b3cfe79c2cb63a174d0b4f3d0c5ec6ee6f93da20d7e0570e2"), looks := true }, kinds := [], alts := [], laidByText := true, laidKinds := [.data, .data, .data, .sentinel, .sentinel], laidTests := true, laidLooks := .later }
def FnNumbersUptoCardSaid : Prop := Claim7.holds Tryd.pinned (.plain (OpenSpec.upto fnNumbersSpec)) fnNumbersUptoCard

/-- THE SECOND FORM's CARD OF 'laws.FnExactParseIns'. -/
def fnExactParseInsUptoCard : Claim7 := { stood := { row := fnExactParseInsUptoRow, standIns := [], harness := (true, "1fec0fc6c348d66b3cfe79c2cb63a174d0b4f3d0c5ec6ee6f93da20d7e0570e2"), looks := true }, kinds := [], alts := [], laidByText := true, laidKinds := [.data, .data, .data, .sentinel, .sentinel, .listed, .data], laidTests := true, laidLooks := .later }
def FnExactParseInsUptoCardSaid : Prop := Claim7.holds Tryd.pinned (.plain (OpenSpec.upto fnExactParseInsSpec)) fnExactParseInsUptoCard

/-- THE SECOND FORM's CARD OF 'laws.FnExactParseProgram'. -/
def fnExactParseProgramUptoCard : Claim7 := { stood := { row := fnExactParseProgramUptoRow, standIns := [], harness := (true, "1fec0fc6c348d66b3cfe79c2cb63a174d0b4f3d0c5ec6ee6f93da20d7e0570e2"), looks := true }, kinds := [], alts := [], laidByText := true, laidKinds := [.data, .data, .data, .sentinel, .sentinel, .listed, .data], laidTests := true, laidLooks := .later }
def FnExactParseProgramUptoCardSaid : Prop := Claim7.holds Tryd.pinned (.plain (OpenSpec.upto fnExactParseProgramSpec)) fnExactParseProgramUptoCard

/-- THE SECOND FORM's CARD OF 'laws.FnListings'. -/
def fnListingsUptoCard : Claim7 := { stood := { row := fnListingsUptoRow, standIns := [], harness := (true, "1fec0fc6c348d66b3cfe79c2cb63a174d0b4f3d0c5ec6ee6f93da20d7e0570e2"), looks := true }, kinds := [], alts := [], laidByText := true, laidKinds := [.data, .data, .data, .sentinel, .sentinel, .listed, .data], laidTests := true, laidLooks := .later }
def FnListingsUptoCardSaid : Prop := Claim7.holds Tryd.pinned (.plain (OpenSpec.upto fnListingsSpec)) fnListingsUptoCard
end Rows
end Go.Proofs.YtionemdnfhcfpaaDoor
