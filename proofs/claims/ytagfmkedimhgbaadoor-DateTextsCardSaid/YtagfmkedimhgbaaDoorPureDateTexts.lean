/-
  The day with any text: the program agrees with the reference, and the text of the day that is returned is the text that was read; for every text.
-/
import Derived.Test.YtagfmkedimhgbaaDoorDc
import Derived.Test.YtagfmkedimhgbaaDoorTypes
namespace Go.Proofs.YtagfmkedimhgbaaDoor.Pure
set_option linter.unusedVariables false
open Go.RowKit Go.Proofs.YtagfmkedimhgbaaDoor.G Go.Proofs.YtagfmkedimhgbaaDoorW.PrintWords Go.Proofs.YtagfmkedimhgbaaDoorW.PrintLast Go.Proofs.YtagfmkedimhgbaaDoorW.PrintMore

def corebanklaw04_DateTexts.Good : Prop := ∀ (x0 : ByteArray), x0.size ≤ 140737488351232 → ∃ k, corebanklaw04_DateTexts.f k x0 = some true
theorem DateTexts : corebanklaw04_DateTexts.Good := by
  intro s _
  refine Ev.rounds (g := fun k => corebanklaw04_DateTexts.f k s) ?_
  unfold corebanklaw04_DateTexts.f
  refine Ev.bind (parse_ev s) ?_
  refine Ev.bind (rparse_ev s) ?_
  refine Ev.pos rfl ?_
  refine Ev.pos rfl ?_
  by_cases h : (parseV s).2 = 0
  · refine Ev.pos h ?_
    refine Ev.bind (format_ev _) ?_
    refine Ev.pos (by rw [format_parse s h]) ?_
    exact live_end
  · refine Ev.neg h ?_
    exact live_end

end Go.Proofs.YtagfmkedimhgbaaDoor.Pure
