/-
  Civil dates, weekdays, ends of months, texts and leap years: the program agrees with the reference, for every two numbers of 64 bits.
-/
import Derived.Test.YtagfmkedimhgbaaDoorDc
import Derived.Test.YtagfmkedimhgbaaDoorTypes
namespace Go.Proofs.YtagfmkedimhgbaaDoor.Pure
set_option linter.unusedVariables false
open Go.RowKit Go.Proofs.YtagfmkedimhgbaaDoor.G Go.Proofs.YtagfmkedimhgbaaDoorW.PrintWords Go.Proofs.YtagfmkedimhgbaaDoorW.PrintLast Go.Proofs.YtagfmkedimhgbaaDoorW.PrintMore

def corebanklaw04_DateCivils.Good : Prop := ∀ (x0 : Int) (x1 : Int), (Lit.int .i64 x0).wf = true → (Lit.int .i64 x1).wf = true → ∃ k, corebanklaw04_DateCivils.f k x0 x1 = some true
theorem DateCivils : corebanklaw04_DateCivils.Good := by
  intro day year _ _
  refine Ev.rounds (g := fun k => corebanklaw04_DateCivils.f k day year) ?_
  unfold corebanklaw04_DateCivils.f
  refine Ev.bind (civil_ev day) ?_
  refine Ev.bind (rcivil_ev day) ?_
  refine Ev.pos rfl ?_
  refine Ev.pos rfl ?_
  refine Ev.pos rfl ?_
  simp only [valid_ev, rvalid_ev, weekday_ev, rweekday_ev, leap_ev, rleap_ev, Option.bind_some]
  refine Ev.pos (by simp) ?_
  refine Ev.pos trivial ?_
  refine Ev.bind (monthend_ev day) ?_
  refine Ev.bind (rmonthend_ev day) ?_
  refine Ev.pos rfl ?_
  refine Ev.bind (format_ev day) ?_
  refine Ev.bind (rformat_ev day) ?_
  refine Ev.pos rfl ?_
  refine Ev.pos (by simp) ?_
  exact live_end

end Go.Proofs.YtagfmkedimhgbaaDoor.Pure
