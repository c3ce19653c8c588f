/- What the library's listed variables hold, that it stays while new memory is made, and how a row's list gives it. No condition. -/
import Derived.Test.YtomehbmijdjjfaaDoorProg
import Derived.Lib.LaidTab
import Derived.Lib.ItoaNum
import Derived.Lib.Space
import Derived.Below
import Derived.Stop.LaidErr
import Derived.ProofKit
import Derived.OpenShut
import Derived.LaidMore
import Derived.MakeChecks
set_option linter.unusedVariables false
namespace Go.Proofs.YtomehbmijdjjfaaDoor.Tabs
open Go Go.RowKit
theorem var_stays {P : Program} {n : String} {cs : Array Value} {w w' : World} (hb : Below w.heap.size w w') (h : w.var? P n = some cs) : w'.var? P n = some cs := by
  unfold World.var? at h ⊢
  cases hg : P.globalNamed n with
  | none => simp [hg] at h
  | some g =>
    rw [hg] at h
    simp only [Option.bind_some] at h ⊢
    have hlt : g < w.heap.size := by
      rcases Nat.lt_or_ge g w.heap.size with h' | h'
      · exact h'
      · rw [Array.getElem?_eq_none h'] at h; cases h
    rw [hb.block g hlt]
    exact h
def TP (w : World) : Prop := Lib.TabIs Tryd.prog w "internal/strconv.uint64pow10" .u64 Lib.pow10Tab
theorem TP.stays {w w' : World} (h : TP w) (hb : Below w.heap.size w w') : TP w' := var_stays hb h
theorem gTP : Tryd.prog.globalNamed "internal/strconv.uint64pow10" = some 0 := by kernel_rfl
theorem yTP : (Tryd.prog.globals[0]?).map (·.type) = some 51 := by kernel_rfl
theorem uTP : Tryd.prog.underlying 51 = some (.array 20 44) := by kernel_rfl
theorem eTP : Tryd.prog.underlying 44 = some (.int .u64) := by kernel_rfl
theorem cTP : Tryd.prog.cellsOf 44 = 1 := by kernel_rfl
theorem dTP : Tryd.prog.cellsOf 51 = 20 := by kernel_rfl
theorem TP.of {d : DataW Unit} {r : List (String × DataW Unit)} {W : World} (hd : d = Lib.tabData .u64 Lib.pow10Tab) (h : laidMet Tryd.prog (("internal/strconv.uint64pow10", d) :: r) W) : TP W := by
  subst hd
  exact Lib.tabIs_of_head gTP yTP uTP eTP cTP dTP h
end Go.Proofs.YtomehbmijdjjfaaDoor.Tabs
