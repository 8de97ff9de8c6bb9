/-
  A day is found again from its civil date and from its text, and months move as calendars do; for every three numbers of 64 bits.
-/
import Derived.Test.YtagfmkedimhgbaaDoorDc
import Derived.Test.YtagfmkedimhgbaaDoorGx6
import Derived.Test.YtagfmkedimhgbaaDoorTypes
namespace Go.Proofs.YtagfmkedimhgbaaDoor.Pure
set_option linter.unusedVariables false
open Go.RowKit Go.Proofs.YtagfmkedimhgbaaDoor.G Go.Proofs.YtagfmkedimhgbaaDoorW.PrintWords Go.Proofs.YtagfmkedimhgbaaDoorW.PrintLast Go.Proofs.YtagfmkedimhgbaaDoorW.PrintMore

def corebanklaw04_DateRoundTrips.Good : Prop := ∀ (x0 : Int) (x1 : Int) (x2 : Int), (Lit.int .i64 x0).wf = true → (Lit.int .i64 x1).wf = true → (Lit.int .i64 x2).wf = true → ∃ k, corebanklaw04_DateRoundTrips.f k x0 x1 x2 = some true
theorem DateRoundTrips : corebanklaw04_DateRoundTrips.Good := by
  intro x n a _ hn ha
  have wn := wf64 hn
  have wa := wf64 ha
  refine Ev.rounds (g := fun k => corebanklaw04_DateRoundTrips.f k x n a) ?_
  unfold corebanklaw04_DateRoundTrips.f
  simp only [valid_ev, Option.bind_some]
  by_cases h : 0 ≤ x ∧ x ≤ 73048
  · refine Ev.pos (decide_eq_true h) ?_
    have c := civV_is x h
    have hl := len_in (civV x).1 (civV x).2.1 ⟨c.m0, c.m1⟩
    have := c.y0; have := c.y1; have := c.m0; have := c.m1; have := c.d0; have := c.d1
    refine Ev.bind (civil_ev x) ?_
    refine Ev.bind (day_ev _ _ _ (by omega) (by omega)) ?_
    rw [dayV_is c]
    refine Ev.bind (format_ev x) ?_
    refine Ev.bind (parse_ev _) ?_
    rw [parse_format x h]
    refine Ev.pos rfl ?_
    refine Ev.pos rfl ?_
    refine Ev.pos rfl ?_
    rw [show (((x, 0) : Int × Int).2 != 0) = false from rfl]
    refine Ev.step (f := fun k => (date_AddMonths.f k x n a).bind fun bt250 => (if bt250.2 = 0 then ((date_Civil.f k bt250.1).bind fun bt252 => ((date_MonthEnd.f k bt250.1).bind fun t255 => (if (wrap64 ((wrap64 (bt252.1 * 12)) + bt252.2.1)) = (wrap64 ((wrap64 ((wrap64 ((civV x).1 * 12)) + (civV x).2.1)) + n)) then (if bt252.2.2 = (mn a (wrap64 ((wrap64 (bt252.2.2 + t255)) - bt250.1))) then ((corebanklaw04_live.f k).bind fun t256 => (some t256)) else (some false)) else (some false)))) else (if bt250.2 = 1 then (if bt250.1 = 0 then ((corebanklaw04_live.f k).bind fun t257 => (some t257)) else (some false)) else (some false)))) (fun k => by simp only [corebanklaw04_DateRoundTrips.j0]; rw [if_neg (by decide)]) ?_
    refine Ev.bind (add_ev x n a) ?_
    by_cases g : (0 ≤ x ∧ x ≤ 73048) ∧ -2400 ≤ n ∧ n ≤ 2400 ∧ 1 ≤ a ∧ a ≤ 31
    · have hm := mon_in x n h (by omega) (by omega)
      by_cases g2 : 24000 ≤ monV x n ∧ monV x n < 26400
      · have hlm := len_in (monV x n / 12) (monV x n % 12 + 1) ⟨by omega, by omega⟩
        have e : addV x n a = dayV (monV x n / 12) (monV x n % 12 + 1) (mn a (lenV (monV x n / 12) (monV x n % 12 + 1))) := by unfold addV; rw [if_pos g, if_pos g2]
        have hok : 2000 ≤ monV x n / 12 ∧ monV x n / 12 ≤ 2199 ∧ 1 ≤ monV x n % 12 + 1 ∧ monV x n % 12 + 1 ≤ 12 ∧ 1 ≤ mn a (lenV (monV x n / 12) (monV x n % 12 + 1)) ∧ mn a (lenV (monV x n / 12) (monV x n % 12 + 1)) ≤ lenV (monV x n / 12) (monV x n % 12 + 1) := by
          rw [mn_is]; omega
        have e0 : (addV x n a).2 = 0 := by rw [e]; unfold dayV; rw [if_pos hok]
        have ci : IsC (addV x n a).1 (monV x n / 12) (monV x n % 12 + 1) (mn a (lenV (monV x n / 12) (monV x n % 12 + 1))) := by rw [e]; exact is_dayV (by rw [← e]; exact e0)
        have cv := civV_eq ci
        refine Ev.pos e0 ?_
        refine Ev.bind (civil_ev _) ?_
        refine Ev.bind (monthend_ev _) ?_
        have hme : meV (addV x n a).1 = (addV x n a).1 - mn a (lenV (monV x n / 12) (monV x n % 12 + 1)) + lenV (monV x n / 12) (monV x n % 12 + 1) := by unfold meV; rw [if_pos ci.valid, cv]
        have hv := ci.valid
        rw [cv, hme]
        refine Ev.pos (by
          show wrap64 (wrap64 (monV x n / 12 * 12) + (monV x n % 12 + 1)) = _
          rw [wrapn (i := monV x n / 12 * 12) (by omega) (by omega), wrapn (i := monV x n / 12 * 12 + (monV x n % 12 + 1)) (by omega) (by omega), wrapn (i := (civV x).1 * 12) (by omega) (by omega), wrapn (i := (civV x).1 * 12 + (civV x).2.1) (by omega) (by omega), wrapn (by omega) (by omega)]
          have : monV x n = 12 * (civV x).1 + (civV x).2.1 - 1 + n := rfl
          omega) ?_
        refine Ev.pos (by
          show mn a (lenV (monV x n / 12) (monV x n % 12 + 1)) = mn a (wrap64 (wrap64 (mn a (lenV (monV x n / 12) (monV x n % 12 + 1)) + ((addV x n a).1 - mn a (lenV (monV x n / 12) (monV x n % 12 + 1)) + lenV (monV x n / 12) (monV x n % 12 + 1))) - (addV x n a).1))
          have := hok.2.2.2.2
          rw [wrapn (i := mn a (lenV (monV x n / 12) (monV x n % 12 + 1)) + ((addV x n a).1 - mn a (lenV (monV x n / 12) (monV x n % 12 + 1)) + lenV (monV x n / 12) (monV x n % 12 + 1))) (by omega) (by omega), show mn a (lenV (monV x n / 12) (monV x n % 12 + 1)) + ((addV x n a).1 - mn a (lenV (monV x n / 12) (monV x n % 12 + 1)) + lenV (monV x n / 12) (monV x n % 12 + 1)) - (addV x n a).1 = lenV (monV x n / 12) (monV x n % 12 + 1) by omega, wrapn (by omega) (by omega)]) ?_
        exact live_end
      · have e : addV x n a = (0, 1) := by unfold addV; rw [if_pos g, if_neg g2]
        rw [e]
        exact Ev.neg (by decide) (Ev.pos rfl (Ev.pos rfl live_end))
    · have e : addV x n a = (0, 1) := by unfold addV; rw [if_neg g]
      rw [e]
      exact Ev.neg (by decide) (Ev.pos rfl (Ev.pos rfl live_end))
  · refine Ev.neg (by simpa using h) ?_
    exact live_end

end Go.Proofs.YtagfmkedimhgbaaDoor.Pure
