/-
  The day after any number of months: the program agrees with the reference, for every three numbers of 64 bits.
-/
import Derived.Test.YtagfmkedimhgbaaDoorDc
import Derived.Test.YtagfmkedimhgbaaDoorTypes
namespace Go.Proofs.YtagfmkedimhgbaaDoor.Pure
set_option linter.unusedVariables false
open Go.RowKit Go.Proofs.YtagfmkedimhgbaaDoor.G Go.Proofs.YtagfmkedimhgbaaDoorW.PrintWords Go.Proofs.YtagfmkedimhgbaaDoorW.PrintLast Go.Proofs.YtagfmkedimhgbaaDoorW.PrintMore

def corebanklaw04_DateMonths.Good : Prop := ∀ (x0 : Int) (x1 : Int) (x2 : Int), (Lit.int .i64 x0).wf = true → (Lit.int .i64 x1).wf = true → (Lit.int .i64 x2).wf = true → ∃ k, corebanklaw04_DateMonths.f k x0 x1 x2 = some true
theorem DateMonths : corebanklaw04_DateMonths.Good := by
  intro day n c _ _ _
  refine Ev.rounds (g := fun k => corebanklaw04_DateMonths.f k day n c) ?_
  unfold corebanklaw04_DateMonths.f
  refine Ev.bind (add_ev day n c) ?_
  refine Ev.bind (radd_ev day n c) ?_
  refine Ev.pos rfl ?_
  refine Ev.pos rfl ?_
  exact live_end

end Go.Proofs.YtagfmkedimhgbaaDoor.Pure
