/-
  The tasks of any number of shards, the next task and the check of any state of an end of day: the program's answers are the reference's, for every state and number.
-/
import Derived.Test.YtgpiglejdacelaaDoorSc
import Derived.Test.YtgpiglejdacelaaDoorGx9
import Derived.Test.YtgpiglejdacelaaDoorTypes
namespace Go.Proofs.YtgpiglejdacelaaDoor.Pure
open Go.RowKit Go.Proofs.YtgpiglejdacelaaDoor.G Go.Proofs.YtgpiglejdacelaaDoorW.PrintWords Go.Proofs.YtgpiglejdacelaaDoorW.PrintLast Go.Proofs.YtgpiglejdacelaaDoorW.PrintMore

def corebanklaw50_ShardTasks.Good : Prop := ∀ (x0 : S32) (x1 : Int), ok32 x0 → (Lit.int .i64 x1).wf = true → ∃ k, corebanklaw50_ShardTasks.f k x0.f0 x0.f1 x0.f2 x0.f3 x1 = some true
theorem tasks_le (n : Int) : (tasksV n).length ≤ 65 := by
  by_cases h : 1 ≤ n ∧ n ≤ 8
  · have := tasks_len n h; omega
  · unfold tasksV; rw [tasks_none n h]; decide
theorem loop_ev (L : List S36) (hl : L.length ≤ 1000) (a : Bool) (i n r : Int) : ∀ (d j : Nat), j + d = L.length → Ev (fun k => corebanklaw50_ShardTasks.l0 k L L (j : Int) a i n r) true
  | 0, j, hd => by
    refine Ev.step (f := fun k => (shard_Next.f k a i n r).bind fun bt243 => ((corebankref50_Next.f k a i n r).bind fun bt247 => (if (bt243.1 == bt247.1 && (bt243.2.1 == bt247.2.1)) = true then (if (bt243.2.2 == bt247.2.2) = true then ((shard_Check.f k a i n r).bind fun t251 => ((corebankref50_Check.f k a i n r).bind fun t252 => (if t251 = t252 then ((corebanklaw50_live.f k).bind fun t253 => (some t253)) else (some false)))) else (some false)) else (some false)))) (fun k => by simp only [corebanklaw50_ShardTasks.l0]; rw [if_neg (by omega)]) ?_
    refine Ev.bind (next_ev a i n r) ?_
    refine Ev.bind (rnext_ev a i n r) ?_
    refine Ev.pos (by simp) ?_
    refine Ev.pos (by simp) ?_
    refine Ev.bind (check_ev a i n r) ?_
    refine Ev.bind (rcheck_ev a i n r) ?_
    refine Ev.pos rfl ?_
    exact live_end
  | d + 1, j, hd => Ev.step (f := fun k => corebanklaw50_ShardTasks.l0 k L L ((j + 1 : Nat) : Int) a i n r) (fun k => by
      simp only [corebanklaw50_ShardTasks.l0]; rw [if_pos (by omega), if_pos (by omega), if_pos (by omega), if_neg (by simp), wrapn (by omega) (by omega)]; rfl) (loop_ev L hl a i n r d (j + 1) (by omega))
theorem ShardTasks : corebanklaw50_ShardTasks.Good := by
  intro x n _ _
  refine Ev.rounds (g := fun k => corebanklaw50_ShardTasks.f k x.f0 x.f1 x.f2 x.f3 n) ?_
  unfold corebanklaw50_ShardTasks.f
  refine Ev.bind (tasks_ev n) ?_
  refine Ev.bind (rtasks_ev n) ?_
  refine Ev.pos rfl ?_
  exact loop_ev _ (by have := tasks_le n; omega) _ _ _ _ _ 0 (Nat.zero_add _)

end Go.Proofs.YtgpiglejdacelaaDoor.Pure
