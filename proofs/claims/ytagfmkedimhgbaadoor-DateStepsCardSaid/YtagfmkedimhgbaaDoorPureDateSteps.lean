/-
  The day after any day but the last one has the next day of the month, or it is the first one of the next month, and the weekday grows by one; for every number of 64 bits.
-/
import Derived.Test.YtagfmkedimhgbaaDoorDc
import Derived.Test.YtagfmkedimhgbaaDoorGx6
import Derived.Test.YtagfmkedimhgbaaDoorTypes
namespace Go.Proofs.YtagfmkedimhgbaaDoor.Pure
set_option linter.unusedVariables false
open Go.RowKit Go.Proofs.YtagfmkedimhgbaaDoor.G Go.Proofs.YtagfmkedimhgbaaDoorW.PrintWords Go.Proofs.YtagfmkedimhgbaaDoorW.PrintLast Go.Proofs.YtagfmkedimhgbaaDoorW.PrintMore

def corebanklaw04_DateSteps.Good : Prop := ∀ (x0 : Int), (Lit.int .i64 x0).wf = true → ∃ k, corebanklaw04_DateSteps.f k x0 = some true
theorem DateSteps : corebanklaw04_DateSteps.Good := by
  intro x hx
  have hw := wf64 hx
  refine Ev.rounds (g := fun k => corebanklaw04_DateSteps.f k x) ?_
  unfold corebanklaw04_DateSteps.f
  have out : ¬ (0 ≤ x ∧ x < 73048) → Ev (fun k => corebanklaw04_DateSteps.j0 k x true) true := fun h => by
    refine Ev.step (f := fun k => (corebanklaw04_live.f k).bind fun t => some t) (fun k => ?_) live_end
    simp only [corebanklaw04_DateSteps.j0, valid_ev, Option.bind_some, if_true]
    rw [if_pos]
    by_cases e : x = 73048
    · subst e; decide
    · simp only [beq_iff_eq]
      rw [show (x == 73048) = false by simpa using e]
      apply decide_eq_false; omega
  by_cases h0 : x < 0
  · exact Ev.pos h0 (out (by omega))
  refine Ev.neg h0 ?_
  by_cases h1 : x ≥ 73048
  · rw [decide_eq_true h1]; exact out (by omega)
  rw [decide_eq_false h1]
  have c := civV_is x ⟨by omega, by omega⟩
  have hl := len_in (civV x).1 (civV x).2.1 ⟨c.m0, c.m1⟩
  have hm : meV x = x - (civV x).2.2 + lenV (civV x).1 (civV x).2.1 := by unfold meV; rw [if_pos ⟨by omega, by omega⟩]
  have hw1 : wrap64 (x + 1) = x + 1 := wrapn (by omega) (by omega)
  refine Ev.step (f := fun k => ((date_Civil.f k x).bind fun bt227 => ((date_Civil.f k (x + 1)).bind fun bt230 => ((date_MonthEnd.f k x).bind fun t235 => (if t235 = x then (if bt230.2.2 = 1 then (if bt230.2.1 = (wrap64 ((Int.tmod bt227.2.1 12) + 1)) then (if bt230.1 = (wrap64 (bt227.1 + (wrap64 (Int.tdiv bt227.2.1 12)))) then ((corebanklaw04_live.f k).bind fun t236 => (some t236)) else (some false)) else (some false)) else (some false)) else (if bt230.1 = bt227.1 then (if bt230.2.1 = bt227.2.1 then (if bt230.2.2 = (wrap64 (bt227.2.2 + 1)) then ((date_MonthEnd.f k (x + 1)).bind fun t237 => ((date_MonthEnd.f k x).bind fun t238 => (if t237 = t238 then ((corebanklaw04_live.f k).bind fun t239 => (some t239)) else (some false)))) else (some false)) else (some false)) else (some false))))))) (fun k => ?_) ?_
  · simp only [corebanklaw04_DateSteps.j0, weekday_ev, Option.bind_some, hw1]
    rw [if_neg (by decide)]
    congr 1; funext b1
    congr 1; funext b2
    rw [if_pos]
    unfold wdV
    rw [if_pos ⟨by omega, by omega⟩, if_pos ⟨by omega, by omega⟩, wrapn (by omega) (by omega), Int.tmod_eq_emod_of_nonneg (by omega)]
    omega
  · refine Ev.bind (civil_ev x) ?_
    refine Ev.bind (civil_ev (x + 1)) ?_
    refine Ev.bind (monthend_ev x) ?_
    have := c.y0; have := c.y1; have := c.m0; have := c.m1; have := c.d0; have := c.d1; have hat := c.at_
    by_cases e : meV x = x
    · have ed : (civV x).2.2 = lenV (civV x).1 (civV x).2.1 := by omega
      refine Ev.pos e ?_
      by_cases em : (civV x).2.1 = 12
      · have hb := begin_next (civV x).1 c.y0 c.y1
        have hc := cum_next (civV x).1 (civV x).2.1 ⟨c.m0, c.m1⟩
        have hce := cum_end (civV x).1
        rw [em] at hc hat ed
        rw [show (12 : Int) + 1 = 13 from rfl, hce] at hc
        have hy : (civV x).1 + 1 ≤ 2199 := by
          by_cases g : 2198 < (civV x).1
          · exfalso
            have g2 : (civV x).1 = 2199 := by omega
            rw [g2, show (2199 : Int) + 1 = 2200 from rfl, show beginV 2200 = 73049 by decide] at hb
            rw [g2] at hat ed hc
            omega
          · omega
        have n : IsC (x + 1) ((civV x).1 + 1) 1 1 := ⟨by omega, hy, by omega, by omega, by omega, (by have := len_in ((civV x).1 + 1) 1 ⟨by omega, by omega⟩; omega), by rw [cum_first]; omega⟩
        rw [civV_eq n]
        refine Ev.pos rfl ?_
        refine Ev.pos (by show (1 : Int) = _; rw [em, show Int.tmod 12 12 = 0 by decide, wrapn (by omega) (by omega)]; rfl) ?_
        refine Ev.pos (by
          show (civV x).1 + 1 = _
          rw [em, show Int.tdiv 12 12 = 1 by decide, wrapn (i := 1) (by omega) (by omega), wrapn (by omega) (by omega)]) ?_
        exact live_end
      · have hc := cum_next (civV x).1 (civV x).2.1 ⟨c.m0, c.m1⟩
        have n : IsC (x + 1) (civV x).1 ((civV x).2.1 + 1) 1 := ⟨c.y0, c.y1, by omega, by omega, by omega, (by have := len_in (civV x).1 ((civV x).2.1 + 1) ⟨by omega, by omega⟩; omega), by omega⟩
        rw [civV_eq n]
        refine Ev.pos rfl ?_
        refine Ev.pos (by show (civV x).2.1 + 1 = _; rw [Int.tmod_eq_emod_of_nonneg (by omega), wrapn (by omega) (by omega)]; omega) ?_
        refine Ev.pos (by show (civV x).1 = _; rw [Int.tdiv_eq_ediv_of_nonneg (by omega), wrapn (i := (civV x).2.1 / 12) (by omega) (by omega), wrapn (by omega) (by omega)]; omega) ?_
        exact live_end
    · refine Ev.neg e ?_
      have n : IsC (x + 1) (civV x).1 (civV x).2.1 ((civV x).2.2 + 1) := ⟨c.y0, c.y1, c.m0, c.m1, by omega, by omega, by omega⟩
      have cn := civV_eq n
      refine Ev.pos (by rw [cn]) ?_
      refine Ev.pos (by rw [cn]) ?_
      refine Ev.pos (by rw [cn, wrapn (by omega) (by omega)]) ?_
      refine Ev.bind (monthend_ev (x + 1)) ?_
      refine Ev.bind (monthend_ev x) ?_
      refine Ev.pos (by
        rw [hm]; unfold meV; rw [if_pos n.valid, cn]
        show x + 1 - ((civV x).2.2 + 1) + lenV (civV x).1 (civV x).2.1 = _
        omega) ?_
      exact live_end

end Go.Proofs.YtagfmkedimhgbaaDoor.Pure
