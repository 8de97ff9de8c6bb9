/-
  The day with any civil date: the program agrees with the reference, for every three numbers of 64 bits.
-/
import Derived.Test.YtagfmkedimhgbaaDoorDc
import Derived.Test.YtagfmkedimhgbaaDoorTypes
namespace Go.Proofs.YtagfmkedimhgbaaDoor.Pure
set_option linter.unusedVariables false
open Go.RowKit Go.Proofs.YtagfmkedimhgbaaDoor.G Go.Proofs.YtagfmkedimhgbaaDoorW.PrintWords Go.Proofs.YtagfmkedimhgbaaDoorW.PrintLast Go.Proofs.YtagfmkedimhgbaaDoorW.PrintMore

def corebanklaw04_DateDays.Good : Prop := ∀ (x0 : Int) (x1 : Int) (x2 : Int), (Lit.int .i64 x0).wf = true → (Lit.int .i64 x1).wf = true → (Lit.int .i64 x2).wf = true → ∃ k, corebanklaw04_DateDays.f k x0 x1 x2 = some true
theorem DateDays : corebanklaw04_DateDays.Good := by
  intro y m d _ _ hd
  have h := wf64 hd
  refine Ev.rounds (g := fun k => corebanklaw04_DateDays.f k y m d) ?_
  unfold corebanklaw04_DateDays.f
  refine Ev.bind (day_ev y m d h.1 h.2) ?_
  refine Ev.bind (rday_ev y m d h.1 h.2) ?_
  refine Ev.pos rfl ?_
  refine Ev.pos rfl ?_
  exact live_end

end Go.Proofs.YtagfmkedimhgbaaDoor.Pure
