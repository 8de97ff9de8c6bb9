/-
  The shard of any account, for any number of shards: the program's answer is the reference's, for every two numbers of 64 bits.
-/
import Derived.Test.YtgpiglejdacelaaDoorSc
import Derived.Test.YtgpiglejdacelaaDoorTypes
namespace Go.Proofs.YtgpiglejdacelaaDoor.Pure
open Go.RowKit Go.Proofs.YtgpiglejdacelaaDoor.G Go.Proofs.YtgpiglejdacelaaDoorW.PrintWords Go.Proofs.YtgpiglejdacelaaDoorW.PrintLast Go.Proofs.YtgpiglejdacelaaDoorW.PrintMore

def corebanklaw50_ShardNumbers.Good : Prop := ∀ (x0 : Int) (x1 : Int), (Lit.int .i64 x0).wf = true → (Lit.int .i64 x1).wf = true → ∃ k, corebanklaw50_ShardNumbers.f k x0 x1 = some true
theorem ShardNumbers : corebanklaw50_ShardNumbers.Good := by
  intro a n ha _
  have h := wf64 ha
  refine Ev.rounds (g := fun k => corebanklaw50_ShardNumbers.f k a n) ?_
  unfold corebanklaw50_ShardNumbers.f
  refine Ev.bind (of_ev a n h.1 h.2) ?_
  refine Ev.bind (rof_ev a n h.1 h.2) ?_
  refine Ev.pos rfl ?_
  exact live_end

end Go.Proofs.YtgpiglejdacelaaDoor.Pure
