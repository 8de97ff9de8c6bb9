/-
  Make: the program and the reference come to one statement or one error, for any books of at most 20 accounts and 60 entries of at most 20 legs, and any numbers.
-/
import Derived.Test.YtimjodgnlahclaaDoorGx10
import Derived.Test.YtimjodgnlahclaaDoorMk
import Derived.Test.YtimjodgnlahclaaDoorTypes
namespace Go.Proofs.YtimjodgnlahclaaDoor.Pure
set_option linter.unusedVariables false
open Go.RowKit Go.Proofs.YtimjodgnlahclaaDoor.G Go.Proofs.YtimjodgnlahclaaDoorW.PrintWords Go.Proofs.YtimjodgnlahclaaDoorW.PrintLast Go.Proofs.YtimjodgnlahclaaDoorW.PrintMore

theorem few_loop (o0 o1 o2 : OV) (p0 p1 p2 p3 p4 p5 p6 p7 p8 p9 p10 p11 p12 p13 : Int) (o3 : OV) (ac : List S57) (js : List S54) (o4 o5 : OV) (hl : js.length ≤ 60) : ∀ (c i : Nat), i + c = js.length →
    ∃ r, Ev (fun k => corebanklaw45_few.l0 k (i : Int) o0 o1 o2 p0 p1 p2 p3 p4 p5 p6 p7 p8 p9 p10 p11 p12 p13 o3 ac js o4 o5) r
  | 0, i, h => ⟨true, .step (fun k => by simp only [corebanklaw45_few.l0]; rw [if_neg (by omega)]) (.now _)⟩
  | c + 1, i, h => by
    by_cases g : ((rd_T54 js (i : Int)).f8.length : Int) > 20
    · exact ⟨false, .step (fun k => by simp only [corebanklaw45_few.l0]; rw [if_pos (by omega), if_pos (by omega), if_pos g]) (.now _)⟩
    · by_cases g2 : ((rd_T54 js (i : Int)).f7.size : Int) > 200
      · exact ⟨false, .step (fun k => by simp only [corebanklaw45_few.l0]; rw [if_pos (by omega), if_pos (by omega), if_neg g, if_pos g2]) (.now _)⟩
      · obtain ⟨r, hr⟩ := few_loop o0 o1 o2 p0 p1 p2 p3 p4 p5 p6 p7 p8 p9 p10 p11 p12 p13 o3 ac js o4 o5 hl c (i + 1) (by omega)
        exact ⟨r, .step (fun k => by simp only [corebanklaw45_few.l0]; rw [if_pos (by omega), if_pos (by omega), if_neg g, if_neg g2, wrapn (i := (i : Int) + 1) (by omega) (by omega)]; rfl) hr⟩
/-- Books that are few have at most 20 accounts and 60 entries. -/
theorem few_ev (o0 o1 o2 : OV) (p0 p1 p2 p3 p4 p5 p6 p7 p8 p9 p10 p11 p12 p13 : Int) (o3 : OV) (ac : List S57) (js : List S54) (o4 o5 : OV) :
    ∃ r, Ev (fun k => corebanklaw45_few.f k o0 o1 o2 p0 p1 p2 p3 p4 p5 p6 p7 p8 p9 p10 p11 p12 p13 o3 ac js o4 o5) r ∧ (r = true → ac.length ≤ 20 ∧ js.length ≤ 60) := by
  have hb : Ev (fun k => corebanklaw45_few.j0 k true o0 o1 o2 p0 p1 p2 p3 p4 p5 p6 p7 p8 p9 p10 p11 p12 p13 o3 ac js o4 o5) false := .step (fun k => by simp only [corebanklaw45_few.j0, if_true]) (.now _)
  unfold corebanklaw45_few.f
  by_cases g : (ac.length : Int) > 20
  · exact ⟨false, Ev.pos g hb, fun h => by cases h⟩
  · by_cases g2 : (js.length : Int) > 60
    · exact ⟨false, Ev.neg g (by rw [decide_eq_true g2]; exact hb), fun h => by cases h⟩
    · obtain ⟨r, hr⟩ := few_loop o0 o1 o2 p0 p1 p2 p3 p4 p5 p6 p7 p8 p9 p10 p11 p12 p13 o3 ac js o4 o5 (by omega) js.length 0 (by omega)
      exact ⟨r, Ev.neg g (by rw [decide_eq_false g2]; exact .step (fun k => by simp only [corebanklaw45_few.j0]; rw [if_neg (by decide)]; rfl) hr), fun _ => ⟨by omega, by omega⟩⟩
def corebanklaw45_StatementMakes.Good : Prop := ∀ (x0 : S33) (x1 : S35), ok33 x0 → ok35 x1 → ∃ k, corebanklaw45_StatementMakes.f k x0.f0 x0.f1 x0.f2 x0.f3.f0 x0.f3.f1 x0.f3.f2 x0.f3.f3 x0.f3.f4 x0.f3.f5 x0.f3.f6 x0.f3.f7 x0.f3.f8 x0.f3.f9 x0.f3.f10 x0.f3.f11 x0.f3.f12 x0.f3.f13 x0.f4 x0.f5 x0.f6 x0.f7 x0.f8 x1.f0 x1.f1 x1.f2 x1.f3 = some true
theorem StatementMakes : corebanklaw45_StatementMakes.Good := by
  rintro ⟨o0, o1, o2, ⟨p0, p1, p2, p3, p4, p5, p6, p7, p8, p9, p10, p11, p12, p13⟩, o3, ac, js, o4, o5⟩ ⟨id, no, a, b⟩ ⟨_, _, _, _, _, _, ⟨_, hjs⟩, _⟩ _
  simp only at hjs
  refine Ev.rounds (g := fun k => corebanklaw45_StatementMakes.f k o0 o1 o2 p0 p1 p2 p3 p4 p5 p6 p7 p8 p9 p10 p11 p12 p13 o3 ac js o4 o5 id no a b) ?_
  have hlive : Ev (fun _ : Nat => (corebanklaw45_Lives.f).bind fun t => some t) true := .now true
  unfold corebanklaw45_StatementMakes.f
  obtain ⟨r, hr, hb⟩ := few_ev o0 o1 o2 p0 p1 p2 p3 p4 p5 p6 p7 p8 p9 p10 p11 p12 p13 o3 ac js o4 o5
  refine .bind hr ?_
  cases r with
  | false => exact Ev.neg (by decide) hlive
  | true =>
    refine Ev.pos rfl ?_
    obtain ⟨hac, hjl⟩ := hb rfl
    have hs : small js := ⟨by omega, fun e he => by
      obtain ⟨_, _, _, _, _, _, _, _, ⟨h8, _⟩, _⟩ := hjs e he
      omega⟩
    refine .bind (make_ev o0 o1 o2 p0 p1 p2 p3 p4 p5 p6 p7 p8 p9 p10 p11 p12 p13 o3 ac js o4 o5 id no a b hs) ?_
    refine .bind (rmake_ev o0 o1 o2 p0 p1 p2 p3 p4 p5 p6 p7 p8 p9 p10 p11 p12 p13 o3 ac js o4 o5 id no a b hs (by omega)) ?_
    have hl : (makeV ac js id no a b).2.2.2.2.2.2.1.length ≤ 9000000000000000000 := by
      have := lineF_len id a b js
      unfold makeV
      split
      · split
        · simp only; omega
        · simp
      · simp
    refine .bind (same_ev _ _ _ _ _ _ _ hl) ?_
    refine Ev.pos rfl (Ev.pos rfl hlive)
end Go.Proofs.YtimjodgnlahclaaDoor.Pure
