/-
  WHAT THE ROWS' CONDITION GIVES: the table of the powers of ten holds what the program's text lays (out of the listed variables); and the world of the witness: the program's own initialisation meets that condition.
-/
import Derived.Test.YtimjodgnlahclaaDoorRows
import Derived.Test.YtimjodgnlahclaaDoorExt0
import Derived.ProofKit
import Derived.LaidMore
import Derived.OpenShut
import Derived.Stop.Joined
import Derived.Stop.LaidErr
import Derived.Lib.LaidTab
namespace Go.Proofs.YtimjodgnlahclaaDoor.G
open Go.ChangeShapes Go.WideShapes Go.ChangeAt Go.RowKit

theorem own : ownKnob Tryd.prog.godebug = none := by kernel_rfl
theorem laidOut : laidOutB Tryd.prog = true := by kernel_rfl
def laids : List (String × DataW Unit) := Rows.statementFollowsRow.laid
theorem door_met (os : Os) (args : Array Value) : laidMetH Tryd.prog laids ((World.doorLaid Tryd.prog 4000 os).forCall (fun _ _ => 0) ⟨#[], args, []⟩).memory :=
  laidMetH_of_parts3 (fuel := 8) (laidMet_of_run' 8 (by kernel_rfl) (by kernel_rfl)) (by kernel_rfl) (by kernel_rfl)
theorem typeG : (Tryd.prog.globals[1]?).map (·.type) = some 109 := by kernel_rfl
theorem glob_of_laid {W : World} (h : laidMetH Tryd.prog laids W) : Glob W := by
  rw [MakeChecks.laidMetH_plain _ _ _ (by kernel_rfl)] at h
  have h' : laidMet Tryd.prog Rows.statementFollowsRow.laid W := h
  unfold Rows.statementFollowsRow at h'
  have h2 := laidMet.tail (laidMet.tail (h'))
  have hz : (Rows.laid_internal_strconv_uint64pow10 : DataW Unit) = Lib.tabData .u64 Lib.pow10Tab := by rfl
  rw [hz] at h2
  exact Lib.tabIs_of_head globNamed typeG Tryd.underlying109 Tryd.underlying52 (by kernel_rfl) (by kernel_rfl) h2
end Go.Proofs.YtimjodgnlahclaaDoor.G
