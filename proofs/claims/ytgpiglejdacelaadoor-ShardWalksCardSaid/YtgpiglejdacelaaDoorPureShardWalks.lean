/-
  Counting from 0 on finds each task of a number of shards once, in order of the stages, and the last one is that of the last stage; a state is right as long as there is a task.
-/
import Derived.Test.YtgpiglejdacelaaDoorSc
import Derived.Test.YtgpiglejdacelaaDoorGx10
import Derived.Test.YtgpiglejdacelaaDoorTypes
namespace Go.Proofs.YtgpiglejdacelaaDoor.Pure
set_option linter.unusedVariables false
set_option linter.unusedSectionVars false
open Go.RowKit Go.Proofs.YtgpiglejdacelaaDoor.G Go.Proofs.YtgpiglejdacelaaDoorW.PrintWords Go.Proofs.YtgpiglejdacelaaDoorW.PrintLast Go.Proofs.YtgpiglejdacelaaDoorW.PrintMore

def corebanklaw50_ShardWalks.Good : Prop := ∀ (x0 : Int) (x1 : Int), (Lit.int .u8 x0).wf = true → (Lit.int .u8 x1).wf = true → ∃ k, corebanklaw50_ShardWalks.f k x0 x1 = some true

def lastS (n : Int) (i : Nat) : S36 := if i = 0 then ⟨0, 0⟩ else rd_T36 (tasksV n) ((i - 1 : Nat) : Int)
def fine (n : Int) (i : Nat) : Bool :=
  let t := rd_T36 (tasksV n) (i : Int)
  let p := lastS n i
  decide (0 ≤ t.f1) && decide (t.f1 < n) && (i == 0 || (decide (p.f0 ≤ t.f0) && (decide (p.f0 ≠ t.f0) || decide (p.f1 < t.f1))))
theorem all_fine (n : Int) (h : 1 ≤ n ∧ n ≤ 8) : ((List.range (8 * n + 1).toNat).all (fine n)) = true :=
  eight (P := fun n => ((List.range (8 * n + 1).toNat).all (fine n)) = true) (by kernel_rfl) (by kernel_rfl) (by kernel_rfl) (by kernel_rfl) (by kernel_rfl) (by kernel_rfl) (by kernel_rfl) (by kernel_rfl) n h
theorem last_is (n : Int) (h : 1 ≤ n ∧ n ≤ 8) : ((lastS n (8 * n + 1).toNat).f0 == 9 && ((lastS n (8 * n + 1).toNat).f1 == 0)) = true :=
  eight (P := fun n => ((lastS n (8 * n + 1).toNat).f0 == 9 && ((lastS n (8 * n + 1).toNat).f1 == 0)) = true) (by kernel_rfl) (by kernel_rfl) (by kernel_rfl) (by kernel_rfl) (by kernel_rfl) (by kernel_rfl) (by kernel_rfl) (by kernel_rfl) n h
theorem walk_ev (n r : Int) (h : 1 ≤ n ∧ n ≤ 8) (hr : 0 ≤ r) (q : Int) : ∀ (d i : Nat), i + d = (8 * n + 1).toNat → ∀ q : Int,
    Ev (fun k => corebanklaw50_ShardWalks.l0 k n (i : Int) true q n r (lastS n i).f0 (lastS n i).f1) true
  | 0, i, hd, q => by
    obtain rfl : i = (8 * n + 1).toNat := by omega
    have hlen := tasks_len n h
    have hw : wrap64 (wrap64 (8 * n) + 1) = 8 * n + 1 := by rw [wrapn (i := 8 * n) (by omega) (by omega), wrapn (by omega) (by omega)]
    have hnx : nextV true (8 * n + 1) n = (0, 0, false) := by
      unfold nextV; rw [if_pos rfl, if_neg (by omega), if_pos (by omega)]
    have hck : checkV true (8 * n + 1) n r = 1 := by
      unfold checkV; rw [hnx]; rfl
    refine Ev.step (f := fun k => (shard_Next.f k true (8 * n + 1) n r).bind fun bt256 => (if ((lastS n (8 * n + 1).toNat).f0 == 9 && ((lastS n (8 * n + 1).toNat).f1 == 0)) = true then (if bt256.2.2 = true then (some false) else ((shard_Check.f k true (8 * n + 1) n r).bind fun t260 => (if t260 = 1 then ((corebanklaw50_live.f k).bind fun t261 => (some t261)) else (some false)))) else (some false))) (fun k => by
      simp only [corebanklaw50_ShardWalks.l0]; rw [hw, if_neg (by omega)]) ?_
    refine Ev.bind (next_ev true (8 * n + 1) n r) ?_
    refine Ev.pos (last_is n h) ?_
    rw [hnx]
    refine Ev.neg (by decide) ?_
    refine Ev.bind (check_ev true (8 * n + 1) n r) ?_
    refine Ev.pos hck ?_
    exact live_end
  | d + 1, i, hd, q => by
    have hlen := tasks_len n h
    have hw : wrap64 (wrap64 (8 * n) + 1) = 8 * n + 1 := by rw [wrapn (i := 8 * n) (by omega) (by omega), wrapn (by omega) (by omega)]
    have hnx : nextV true (i : Int) n = ((rd_T36 (tasksV n) (i : Int)).f0, (rd_T36 (tasksV n) (i : Int)).f1, true) := by
      unfold nextV; rw [if_pos rfl, if_neg (by omega), if_neg (by omega)]
    have hck : checkV true (i : Int) n r = 0 := by
      unfold checkV; rw [hnx, if_pos rfl, if_pos rfl, if_neg (by omega)]
    have hf : fine n i = true := List.all_eq_true.1 (all_fine n h) i (by rw [List.mem_range]; omega)
    simp only [fine, Bool.and_eq_true, Bool.or_eq_true, decide_eq_true_eq, beq_iff_eq] at hf
    have hlast : lastS n (i + 1) = rd_T36 (tasksV n) (i : Int) := by unfold lastS; rw [if_neg (by omega)]; rfl
    have ih := walk_ev n r h hr q d (i + 1) (by omega) (i : Int)
    rw [hlast] at ih
    refine Ev.step (f := fun k => (shard_Next.f k true (i : Int) n r).bind fun bt262 => (if bt262.2.2 = true then ((shard_Check.f k true (i : Int) n r).bind fun t266 => (if t266 = 0 then (if bt262.2.1 < 0 then (corebanklaw50_ShardWalks.j1 k n (i : Int) true true (i : Int) n r (lastS n i).f0 (lastS n i).f1 bt262.1 bt262.2.1) else (corebanklaw50_ShardWalks.j1 k n (i : Int) (decide (bt262.2.1 ≥ n)) true (i : Int) n r (lastS n i).f0 (lastS n i).f1 bt262.1 bt262.2.1)) else (corebanklaw50_ShardWalks.j1 k n (i : Int) true true (i : Int) n r (lastS n i).f0 (lastS n i).f1 bt262.1 bt262.2.1))) else (corebanklaw50_ShardWalks.j1 k n (i : Int) true true (i : Int) n r (lastS n i).f0 (lastS n i).f1 bt262.1 bt262.2.1))) (fun k => by
      simp only [corebanklaw50_ShardWalks.l0]; rw [hw, if_pos (by omega)]) ?_
    refine Ev.bind (next_ev true (i : Int) n r) ?_
    rw [hnx]
    refine Ev.pos rfl ?_
    refine Ev.bind (check_ev true (i : Int) n r) ?_
    refine Ev.pos hck ?_
    refine Ev.neg (show ¬ (rd_T36 (tasksV n) (i : Int)).f1 < 0 by omega) ?_
    rw [show decide ((rd_T36 (tasksV n) (i : Int)).f1 ≥ n) = false by apply decide_eq_false; omega]
    refine Ev.step (f := fun k => corebanklaw50_ShardWalks.l0 k n ((i + 1 : Nat) : Int) true (i : Int) n r (rd_T36 (tasksV n) (i : Int)).f0 (rd_T36 (tasksV n) (i : Int)).f1) (fun k => ?_) ih
    simp only [corebanklaw50_ShardWalks.j1]
    rw [if_neg (by decide), wrapn (by omega) (by omega)]
    by_cases h0 : i = 0
    · subst h0; rfl
    · have h1 := hf.2.resolve_left h0
      rw [if_pos (by omega), if_neg (by omega)]
      by_cases e : (rd_T36 (tasksV n) (i : Int)).f0 = (lastS n i).f0
      · rw [if_pos e, if_neg (by have := h1.2.resolve_left (fun g => g e.symm); omega)]; rfl
      · rw [if_neg e]; rfl
theorem ShardWalks : corebanklaw50_ShardWalks.Good := by
  intro a b ha hb
  have ha' : 0 ≤ a ∧ a ≤ 255 := bounds_u8 ha
  have hb' : 0 ≤ b ∧ b ≤ 255 := bounds_u8 hb
  have hn : wrap64 (1 + Int.tmod (wrap64 a) 8) = 1 + a % 8 := by
    rw [wrapn (i := a) (by omega) (by omega), Int.tmod_eq_emod_of_nonneg ha'.1, wrapn (by omega) (by omega)]
  refine Ev.rounds (g := fun k => corebanklaw50_ShardWalks.f k a b) ?_
  unfold corebanklaw50_ShardWalks.f
  rw [hn, wrapn (i := b) (by omega) (by omega)]
  exact walk_ev (1 + a % 8) b (by omega) (by omega) 0 _ 0 (Nat.zero_add _) 0

end Go.Proofs.YtgpiglejdacelaaDoor.Pure
