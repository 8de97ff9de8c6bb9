/-
  StatementFollows: the statements up to a day and from the next day on follow each other, and joined are the statement of the whole.
-/
import Derived.Test.YtimjodgnlahclaaDoorPureStatementMakes
import Derived.Test.YtimjodgnlahclaaDoorWFollows
import Derived.Test.YtimjodgnlahclaaDoorFol
import Derived.Test.YtimjodgnlahclaaDoorTypes
namespace Go.Proofs.YtimjodgnlahclaaDoor.Pure
set_option linter.unusedVariables false
open Go.RowKit Go.Proofs.YtimjodgnlahclaaDoor.G Go.Proofs.YtimjodgnlahclaaDoorW.PrintWords Go.Proofs.YtimjodgnlahclaaDoorW.PrintLast Go.Proofs.YtimjodgnlahclaaDoorW.PrintMore
theorem makeV_bad (ac : List S57) (js : List S54) (id no a b : Int) (h : foundF id ac = false) : makeV ac js id no a b = (0, 0, 0, 0, 0, 0, [], 11) := by
  unfold makeV; rw [if_neg (by simp [h])]
theorem makeV_out (ac : List S57) (js : List S54) (id no a b : Int) (h : foundF id ac = true) (h2 : ¬ (1 ≤ no ∧ (0 ≤ a ∧ a ≤ 73048) ∧ (0 ≤ b ∧ b ≤ 73048) ∧ a ≤ b)) : makeV ac js id no a b = (0, 0, 0, 0, 0, 0, [], 1) := by
  unfold makeV; rw [if_pos h, if_neg h2]
theorem makeV_in (ac : List S57) (js : List S54) (id no a b : Int) (h : foundF id ac = true) (h2 : 1 ≤ no ∧ (0 ≤ a ∧ a ≤ 73048) ∧ (0 ≤ b ∧ b ≤ 73048) ∧ a ≤ b) : makeV ac js id no a b = (id, no, a, b, ofF id (upTo (a - 1) js) 0, ofF id (upTo b js) 0, lineF id a b js, 0) := by
  unfold makeV; rw [if_pos h, if_pos h2]
def corebanklaw45_StatementFollows.Good : Prop := ∀ (x0 : S33) (x1 : S35) (x2 : Int), ok33 x0 → ok35 x1 → (Lit.int .i64 x2).wf = true → ∃ k, corebanklaw45_StatementFollows.f k x0.f0 x0.f1 x0.f2 x0.f3.f0 x0.f3.f1 x0.f3.f2 x0.f3.f3 x0.f3.f4 x0.f3.f5 x0.f3.f6 x0.f3.f7 x0.f3.f8 x0.f3.f9 x0.f3.f10 x0.f3.f11 x0.f3.f12 x0.f3.f13 x0.f4 x0.f5 x0.f6 x0.f7 x0.f8 x1.f0 x1.f1 x1.f2 x1.f3 x2 = some true
theorem StatementFollows : corebanklaw45_StatementFollows.Good := by
  rintro ⟨o0, o1, o2, ⟨p0, p1, p2, p3, p4, p5, p6, p7, p8, p9, p10, p11, p12, p13⟩, o3, ac, js, o4, o5⟩ ⟨id, no, a, b⟩ m ⟨_, _, _, _, _, _, ⟨_, hjs⟩, _⟩ ⟨_, _, _, hwb⟩ hwm
  obtain ⟨b1, b2⟩ := wf64 hwb
  obtain ⟨m1, m2⟩ := wf64 hwm
  simp only at hjs b1 b2
  refine Ev.rounds (g := fun k => corebanklaw45_StatementFollows.f k o0 o1 o2 p0 p1 p2 p3 p4 p5 p6 p7 p8 p9 p10 p11 p12 p13 o3 ac js o4 o5 id no a b m) ?_
  unfold corebanklaw45_StatementFollows.f
  obtain ⟨r, hr, hb⟩ := few_ev o0 o1 o2 p0 p1 p2 p3 p4 p5 p6 p7 p8 p9 p10 p11 p12 p13 o3 ac js o4 o5
  refine .bind hr ?_
  cases r with
  | false => exact Ev.neg (by decide) (.now _)
  | true =>
    refine Ev.pos rfl ?_
    obtain ⟨hac, hjl⟩ := hb rfl
    by_cases t0 : id < 1000
    · exact Ev.pos t0 (.now _)
    by_cases t1 : no < 1
    · exact Ev.neg t0 (Ev.pos t1 (.now _))
    by_cases t2 : no ≥ 4611686018427387904
    · exact Ev.neg t0 (Ev.neg t1 (Ev.pos t2 (.now _)))
    by_cases t3 : m < a
    · exact Ev.neg t0 (Ev.neg t1 (Ev.neg t2 (Ev.pos t3 (.now _))))
    by_cases t4 : m ≥ b
    · exact Ev.neg t0 (Ev.neg t1 (Ev.neg t2 (Ev.neg t3 (Ev.pos t4 (.now _)))))
    refine Ev.neg t0 (Ev.neg t1 (Ev.neg t2 (Ev.neg t3 (Ev.neg t4 (Ev.pos hjl ?_)))))
    obtain ⟨u, hu, hus⟩ := down_ev js hjl
    refine .bind hu ?_
    cases u with
    | true => exact Ev.pos rfl (.now _)
    | false =>
      refine Ev.neg (by decide) (.bind (numL_ev js hjl) ?_)
      have hsort := nums_sorted 0 js (hus rfl)
      have hs : small (nums 0 js) := ⟨by rw [nums_len]; omega, fun e he => by
        obtain ⟨y, hy, h8, _⟩ := nums_legs 0 js e he
        obtain ⟨_, _, _, _, _, _, _, _, ⟨h9, _⟩, _⟩ := hjs y hy
        rw [h8]; omega⟩
      have w1 : wrap64 (no + 1) = no + 1 := wrapn (by omega) (by omega)
      have w2 : wrap64 (m + 1) = m + 1 := wrapn (by omega) (by omega)
      rw [w1, w2]
      refine .bind (make_ev o0 o1 o2 p0 p1 p2 p3 p4 p5 p6 p7 p8 p9 p10 p11 p12 p13 o3 ac (nums 0 js) o4 o5 id no a m hs) ?_
      refine .bind (make_ev o0 o1 o2 p0 p1 p2 p3 p4 p5 p6 p7 p8 p9 p10 p11 p12 p13 o3 ac (nums 0 js) o4 o5 id (no + 1) (m + 1) b hs) ?_
      refine .bind (make_ev o0 o1 o2 p0 p1 p2 p3 p4 p5 p6 p7 p8 p9 p10 p11 p12 p13 o3 ac (nums 0 js) o4 o5 id no a b hs) ?_
      obtain ⟨t, ht, hf⟩ := rfind_loop id o0 o1 o2 p0 p1 p2 p3 p4 p5 p6 p7 p8 p9 p10 p11 p12 p13 o3 ac (nums 0 js) o4 o5 (by omega) ac.length 0 (by omega)
      rw [List.drop_zero] at hf
      have hfind : Ev (fun k => corebankref24_Find.f k o0 o1 o2 p0 p1 p2 p3 p4 p5 p6 p7 p8 p9 p10 p11 p12 p13 o3 ac (nums 0 js) o4 o5 id) t := ht
      cases hfo : foundF id ac with
      | false =>
        rw [makeV_bad ac _ id no a m hfo]
        refine Ev.neg (by simp) (.bind hfind ?_)
        rw [hf, hfo]
        exact Ev.neg (by decide) (.now _)
      | true =>
        by_cases hin : 0 ≤ a ∧ b ≤ 73048
        · rw [makeV_in ac _ id no a m hfo ⟨by omega, ⟨by omega, by omega⟩, ⟨by omega, by omega⟩, by omega⟩, makeV_in ac _ id (no + 1) (m + 1) b hfo ⟨by omega, ⟨by omega, by omega⟩, ⟨by omega, by omega⟩, by omega⟩, makeV_in ac _ id no a b hfo ⟨by omega, ⟨by omega, by omega⟩, ⟨by omega, by omega⟩, by omega⟩]
          have l1 := lineF_len id a m (nums 0 js)
          have l2 := lineF_len id (m + 1) b (nums 0 js)
          have l3 := lineF_len id a b (nums 0 js)
          rw [nums_len] at l1 l2 l3
          refine Ev.pos ⟨rfl, rfl⟩ (Ev.pos ⟨rfl, by simp only; omega, by simp only; omega⟩ ?_)
          have hfol : statement_Follows.f id no a m (ofF id (upTo (a - 1) (nums 0 js)) 0) (ofF id (upTo m (nums 0 js)) 0) (lineF id a m (nums 0 js)) id (no + 1) (m + 1) b (ofF id (upTo (m + 1 - 1) (nums 0 js)) 0) (ofF id (upTo b (nums 0 js)) 0) (lineF id (m + 1) b (nums 0 js)) = some true := by
            unfold statement_Follows.f
            rw [if_pos rfl, if_neg (by omega), if_pos w1.symm, if_neg (by omega), if_pos w2.symm, show m + 1 - 1 = m by omega]
            simp
          refine .bind (g := fun _ => _) (by rw [hfol]; exact .now _) (Ev.pos rfl ?_)
          refine .bind (made_ok id no a m js hjl (by omega) (by omega) ⟨by omega, by omega⟩ ⟨by omega, by omega⟩ (by omega)) ?_
          refine .bind (made_ok id (no + 1) (m + 1) b js hjl (by omega) (by omega) ⟨by omega, by omega⟩ ⟨by omega, by omega⟩ (by omega)) ?_
          refine .bind (made_ok id no a b js hjl (by omega) (by omega) ⟨by omega, by omega⟩ ⟨by omega, by omega⟩ (by omega)) ?_
          refine Ev.pos ⟨rfl, rfl, rfl⟩ ?_
          have hsp := lineF_split id a m b (by omega) (by omega) (nums 0 js) hsort
          simp only
          rw [← hsp]
          exact same_ev _ _ _ _ _ _ _ (by omega)
        · have hbad : Ev (fun k => (corebankref24_Find.f k o0 o1 o2 p0 p1 p2 p3 p4 p5 p6 p7 p8 p9 p10 p11 p12 p13 o3 ac (nums 0 js) o4 o5 id).bind fun g => if g.2.2.2.2.2.2.2 = true then (if a < 0 then some true else if b > 73048 then some true else none) else some true) true := by
            refine .bind hfind ?_
            rw [hf, hfo]
            refine Ev.pos rfl ?_
            by_cases d1 : a < 0
            · exact Ev.pos d1 (.now _)
            · exact Ev.neg d1 (Ev.pos (by omega) (.now _))
          by_cases h1 : 1 ≤ no ∧ (0 ≤ a ∧ a ≤ 73048) ∧ (0 ≤ m ∧ m ≤ 73048) ∧ a ≤ m
          · rw [makeV_out ac _ id (no + 1) (m + 1) b hfo (by omega)]
            exact Ev.neg (fun e => absurd e.2 (by decide)) hbad
          · rw [makeV_out ac _ id no a m hfo h1]
            exact Ev.neg (fun e => absurd e.1 (by decide)) hbad
end Go.Proofs.YtimjodgnlahclaaDoor.Pure
