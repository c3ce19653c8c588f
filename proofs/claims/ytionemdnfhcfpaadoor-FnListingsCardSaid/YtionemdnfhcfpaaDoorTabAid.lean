/- What the library's listed variables hold, that it stays while new memory is made, and how a row's list gives it. No condition. -/
import Derived.Test.YtionemdnfhcfpaaDoorProg
import Derived.Lib.LaidTab
import Derived.Lib.ItoaNum
import Derived.Lib.Space
import Derived.Below
import Derived.Stop.LaidErr
import Derived.ProofKit
import Derived.OpenShut
import Derived.LaidMore
import Derived.MakeChecks
set_option linter.unusedVariables false
namespace Go.Proofs.YtionemdnfhcfpaaDoor.Tabs
open Go Go.RowKit
theorem var_stays {P : Program} {n : String} {cs : Array Value} {w w' : World} (hb : Below w.heap.size w w') (h : w.var? P n = some cs) : w'.var? P n = some cs := by
  unfold World.var? at h ⊢
  cases hg : P.globalNamed n with
  | none => simp [hg] at h
  | some g =>
    rw [hg] at h
    simp only [Option.bind_some] at h ⊢
    have hlt : g < w.heap.size := by
      rcases Nat.lt_or_ge g w.heap.size with h' | h'
      · exact h'
      · rw [Array.getElem?_eq_none h'] at h; cases h
    rw [hb.block g hlt]
    exact h
def TP (w : World) : Prop := Lib.TabIs Tryd.prog w "internal/strconv.uint64pow10" .u64 Lib.pow10Tab
theorem TP.stays {w w' : World} (h : TP w) (hb : Below w.heap.size w w') : TP w' := var_stays hb h
theorem gTP : Tryd.prog.globalNamed "internal/strconv.uint64pow10" = some 4 := by kernel_rfl
theorem yTP : (Tryd.prog.globals[4]?).map (·.type) = some 147 := by kernel_rfl
theorem uTP : Tryd.prog.underlying 147 = some (.array 20 130) := by kernel_rfl
theorem eTP : Tryd.prog.underlying 130 = some (.int .u64) := by kernel_rfl
theorem cTP : Tryd.prog.cellsOf 130 = 1 := by kernel_rfl
theorem dTP : Tryd.prog.cellsOf 147 = 20 := by kernel_rfl
theorem TP.of {d : DataW Unit} {r : List (String × DataW Unit)} {W : World} (hd : d = Lib.tabData .u64 Lib.pow10Tab) (h : laidMet Tryd.prog (("internal/strconv.uint64pow10", d) :: r) W) : TP W := by
  subst hd
  exact Lib.tabIs_of_head gTP yTP uTP eTP cTP dTP h
def TA (w : World) : Prop := Lib.TabIs Tryd.prog w "strings.asciiSpace" .u8 Lib.asciiSpaceTab
theorem TA.stays {w w' : World} (h : TA w) (hb : Below w.heap.size w w') : TA w' := var_stays hb h
theorem gTA : Tryd.prog.globalNamed "strings.asciiSpace" = some 0 := by kernel_rfl
theorem yTA : (Tryd.prog.globals[0]?).map (·.type) = some 83 := by kernel_rfl
theorem uTA : Tryd.prog.underlying 83 = some (.array 256 5) := by kernel_rfl
theorem eTA : Tryd.prog.underlying 5 = some (.int .u8) := by kernel_rfl
theorem cTA : Tryd.prog.cellsOf 5 = 1 := by kernel_rfl
theorem dTA : Tryd.prog.cellsOf 83 = 256 := by kernel_rfl
theorem TA.of {d : DataW Unit} {r : List (String × DataW Unit)} {W : World} (hd : d = Lib.tabData .u8 Lib.asciiSpaceTab) (h : laidMet Tryd.prog (("strings.asciiSpace", d) :: r) W) : TA W := by
  subst hd
  exact Lib.tabIs_of_head gTA yTA uTA eTA cTA dTA h
theorem starE : "*" ++ "errors.errorString" = "*errors.errorString" := by decide
theorem rowE (u : TypeId) (h : Tryd.prog.typeName? 3 u = some "*errors.errorString") : u = 151 :=
  typeName_ptr_named (nm := "errors.errorString") (by rw [starE]; kernel_rfl) (by kernel_rfl) (by decide) u (by rw [starE]; exact h)
theorem cE : Tryd.prog.cellsOf 153 = 1 := by kernel_rfl
theorem dE : Tryd.prog.cellsOf 9 = 1 := by kernel_rfl
def TS (w : World) : Prop := ∃ tp p, w.var? Tryd.prog "strconv.ErrSyntax" = some #[.iface tp p]
theorem TS.stays {w w' : World} (h : TS w) (hb : Below w.heap.size w w') : TS w' := by
  obtain ⟨tp, p, h⟩ := h
  exact ⟨tp, p, var_stays hb h⟩
theorem gTS : Tryd.prog.globalNamed "strconv.ErrSyntax" = some 2 := by kernel_rfl
theorem yTS : (Tryd.prog.globals[2]?).map (·.type) = some 71 := by kernel_rfl
theorem TS.of {t : List UInt8} {r : List (String × DataW Unit)} {W : World} (h : laidMet Tryd.prog (("strconv.ErrSyntax", .iface "*errors.errorString" (.ptr (.agg [.lit (.string t)]))) :: r) W) : TS W := by
  obtain ⟨a0, s0, hv0, -, -, -⟩ := laid_sentinel h gTS yTS Tryd.underlying71 rowE Tryd.underlying151 Tryd.underlying153 rfl rfl Tryd.underlying9 cE dE
  exact ⟨_, _, hv0⟩
def TR (w : World) : Prop := ∃ tp p, w.var? Tryd.prog "strconv.ErrRange" = some #[.iface tp p]
theorem TR.stays {w w' : World} (h : TR w) (hb : Below w.heap.size w w') : TR w' := by
  obtain ⟨tp, p, h⟩ := h
  exact ⟨tp, p, var_stays hb h⟩
theorem gTR : Tryd.prog.globalNamed "strconv.ErrRange" = some 3 := by kernel_rfl
theorem yTR : (Tryd.prog.globals[3]?).map (·.type) = some 71 := by kernel_rfl
theorem TR.of {t : List UInt8} {r : List (String × DataW Unit)} {W : World} (h : laidMet Tryd.prog (("strconv.ErrRange", .iface "*errors.errorString" (.ptr (.agg [.lit (.string t)]))) :: r) W) : TR W := by
  obtain ⟨a0, s0, hv0, -, -, -⟩ := laid_sentinel h gTR yTR Tryd.underlying71 rowE Tryd.underlying151 Tryd.underlying153 rfl rfl Tryd.underlying9 cE dE
  exact ⟨_, _, hv0⟩
def TE (w : World) : Prop := TS w ∧ TR w
theorem TE.stays {w w' : World} (h : TE w) (hb : Below w.heap.size w w') : TE w' := ⟨h.1.stays hb, h.2.stays hb⟩
end Go.Proofs.YtionemdnfhcfpaaDoor.Tabs
