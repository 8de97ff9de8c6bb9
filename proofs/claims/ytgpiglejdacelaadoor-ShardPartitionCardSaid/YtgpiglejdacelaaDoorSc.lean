/-
  SHARDS, PLAIN: the examples that each statement requires hold.
-/
import Derived.Test.YtgpiglejdacelaaDoorSb
namespace Go.Proofs.YtgpiglejdacelaaDoor.G
open Go.RowKit Go.Proofs.YtgpiglejdacelaaDoorW.PrintWords Go.Proofs.YtgpiglejdacelaaDoorW.PrintLast Go.Proofs.YtgpiglejdacelaaDoorW.PrintMore

theorem Ev.pos {α : Type} {c : Prop} [Decidable c] {A B : Nat → Option α} {r : α} (h : c) (e : Ev A r) : Ev (fun k => if c then A k else B k) r := Ev.congr (fun _ => if_pos h) e
theorem Ev.neg {α : Type} {c : Prop} [Decidable c] {A B : Nat → Option α} {r : α} (h : ¬ c) (e : Ev B r) : Ev (fun k => if c then A k else B k) r := Ev.congr (fun _ => if_neg h) e

theorem live_ev : Ev (fun k => corebanklaw50_live.f k) true := by
  have e0 : rd_T36 (tasksV 2) 0 = ⟨1, 0⟩ := by kernel_rfl
  have e1 : rd_T36 (tasksV 2) 1 = ⟨1, 1⟩ := by kernel_rfl
  have e2 : rd_T36 (tasksV 2) 16 = ⟨9, 0⟩ := by kernel_rfl
  have el : (tasksV 2).length = 17 := by kernel_rfl
  have n1 : nextV true 17 2 = (0, 0, false) := by kernel_rfl
  have n2 : nextV true 16 2 = (9, 0, true) := by kernel_rfl
  have c1 : checkV false 0 0 0 = 0 := by kernel_rfl
  have c2 : checkV true 0 0 0 = 1 := by kernel_rfl
  have hs := split_ev [1000] 1 (by decide) (fun x hx => by simp at hx; omega)
  rw [if_pos (by decide)] at hs
  unfold corebanklaw50_live.f
  refine Ev.bind (tasks_ev 2) ?_
  refine Ev.bind (next_ev true 17 2 0) ?_
  refine Ev.bind (next_ev true 16 2 0) ?_
  rw [e0, e1, e2, el, n1, n2]
  refine Ev.pos (by decide) ?_
  refine Ev.pos (by decide) ?_
  refine Ev.pos (by decide) ?_
  refine Ev.pos (by decide) ?_
  refine Ev.pos (by decide) ?_
  refine Ev.pos (by decide) ?_
  refine Ev.pos (by decide) ?_
  refine Ev.neg (by decide) ?_
  refine Ev.pos (by decide) ?_
  refine Ev.pos (by decide) ?_
  refine Ev.bind hs ?_
  refine Ev.pos (by rw [spl_len]; rfl) ?_
  refine Ev.bind (check_ev false 0 0 0) ?_
  rw [c1]
  refine Ev.pos rfl ?_
  refine Ev.bind (check_ev true 0 0 0) ?_
  rw [c2]
  exact Ev.now _
theorem live_end : Ev (fun k => (corebanklaw50_live.f k).bind fun t => some t) true := Ev.bind live_ev (Ev.now _)
end Go.Proofs.YtgpiglejdacelaaDoor.G
