/-
  StatementOthers: an entry none of whose legs is the account's, put ahead of the journal, leaves the account's statement as it was.
-/
import Derived.Test.YtimjodgnlahclaaDoorPureStatementMakes
import Derived.Test.YtimjodgnlahclaaDoorWOthers
import Derived.Test.YtimjodgnlahclaaDoorMk
import Derived.Test.YtimjodgnlahclaaDoorTypes
namespace Go.Proofs.YtimjodgnlahclaaDoor.Pure
set_option linter.unusedVariables false
open Go.RowKit Go.Proofs.YtimjodgnlahclaaDoor.G Go.Proofs.YtimjodgnlahclaaDoorW.PrintWords Go.Proofs.YtimjodgnlahclaaDoorW.PrintLast Go.Proofs.YtimjodgnlahclaaDoorW.PrintMore

theorem others_ev (id : Int) (ls : List S62) (hl : ls.length ≤ 9000000000000000000) : ∀ (c i : Nat), i + c = ls.length → Ev (fun k => othersLegs k id ls (i : Int)) (hasF id (ls.drop i))
  | 0, i, h => by
    rw [List.drop_eq_nil_of_le (by omega)]
    exact .step (fun k => by simp only [othersLegs]; rw [if_neg (by omega)]; rfl) (.now _)
  | c + 1, i, h => by
    rw [drop62 ls i (by omega)]
    generalize hx : rd_T62 ls (i : Int) = x
    by_cases g : x.f0 = id
    · refine .step (f := fun _ => some true) (fun k => ?_) ?_
      · simp only [othersLegs, hx]
        rw [if_pos (by omega), if_pos (by omega), if_pos g]
      · rw [show hasF id (x :: ls.drop (i + 1)) = true by simp [hasF, g]]; exact .now _
    · have r := others_ev id ls hl c (i + 1) (by omega)
      refine .step (f := fun k => othersLegs k id ls ((i + 1 : Nat) : Int)) (fun k => ?_) ?_
      · simp only [othersLegs, hx]
        rw [if_pos (by omega), if_pos (by omega), if_neg g, wrapn (i := (i : Int) + 1) (by omega) (by omega)]; rfl
      · rw [show hasF id (x :: ls.drop (i + 1)) = hasF id (ls.drop (i + 1)) by simp [hasF, g]]; exact r
theorem mvF_none (id : Int) : ∀ (xs : List S62) (n : Int), hasF id xs = false → mvF id xs n = n
  | [], n, h => rfl
  | x :: xs, n, h => by
    simp only [hasF, List.any_cons, Bool.or_eq_false_iff, decide_eq_false_iff_not] at h
    simp only [mvF]
    rw [if_neg h.1]
    exact mvF_none id xs n h.2
theorem ofF_skip (id d : Int) (e : S54) (js : List S54) (h : hasF id e.f8 = false) : ofF id (upTo d (e :: js)) 0 = ofF id (upTo d js) 0 := by
  by_cases g : e.f1 ≤ d
  · rw [upTo_in g]
    simp only [ofF]
    rw [mvF_none id _ _ h, show wrap64 (0 + 0) = 0 by unfold wrap64; omega]
  · rw [upTo_out g]
theorem makeV_skip (ac : List S57) (e : S54) (js : List S54) (id no a b : Int) (h : hasF id e.f8 = false) : makeV ac (e :: js) id no a b = makeV ac js id no a b := by
  unfold makeV
  rw [ofF_skip id _ e js h, ofF_skip id _ e js h, show lineF id a b (e :: js) = lineF id a b js by simp [lineF, h]]
def corebanklaw45_StatementOthers.Good : Prop := ∀ (x0 : S33) (x1 : S35) (x2 : S54), ok33 x0 → ok35 x1 → ok54 x2 → ∃ k, corebanklaw45_StatementOthers.f k x0.f0 x0.f1 x0.f2 x0.f3.f0 x0.f3.f1 x0.f3.f2 x0.f3.f3 x0.f3.f4 x0.f3.f5 x0.f3.f6 x0.f3.f7 x0.f3.f8 x0.f3.f9 x0.f3.f10 x0.f3.f11 x0.f3.f12 x0.f3.f13 x0.f4 x0.f5 x0.f6 x0.f7 x0.f8 x1.f0 x1.f1 x1.f2 x1.f3 x2.f0 x2.f1 x2.f2 x2.f3 x2.f4 x2.f5 x2.f6 x2.f7 x2.f8 x2.f9 = some true
theorem StatementOthers : corebanklaw45_StatementOthers.Good := by
  rintro ⟨o0, o1, o2, ⟨p0, p1, p2, p3, p4, p5, p6, p7, p8, p9, p10, p11, p12, p13⟩, o3, ac, js, o4, o5⟩ ⟨id, no, a, b⟩ ⟨e0, e1, e2, e3, e4, e5, e6, e7, ls, e9⟩ ⟨_, _, _, _, _, _, ⟨_, hjs⟩, _⟩ _ ⟨_, _, _, _, _, _, _, _, ⟨hls, _⟩, _⟩
  simp only at hjs hls
  refine Ev.rounds (g := fun k => corebanklaw45_StatementOthers.f k o0 o1 o2 p0 p1 p2 p3 p4 p5 p6 p7 p8 p9 p10 p11 p12 p13 o3 ac js o4 o5 id no a b e0 e1 e2 e3 e4 e5 e6 e7 ls e9) ?_
  unfold corebanklaw45_StatementOthers.f
  obtain ⟨r, hr, hb⟩ := few_ev o0 o1 o2 p0 p1 p2 p3 p4 p5 p6 p7 p8 p9 p10 p11 p12 p13 o3 ac js o4 o5
  refine .bind hr ?_
  cases r with
  | false => exact Ev.neg (by decide) (.now _)
  | true =>
    refine Ev.pos rfl ?_
    obtain ⟨hac, hjl⟩ := hb rfl
    by_cases g : (ls.length : Int) > 20
    · exact Ev.pos g (.now _)
    · refine Ev.neg g ?_
      have ho := others_ev id ls (by omega) ls.length 0 (by omega)
      rw [List.drop_zero] at ho
      refine .bind (g := fun k => othersLegs k id ls 0) ho ?_
      cases h : hasF id ls with
      | true => exact Ev.pos rfl (.now _)
      | false =>
        refine Ev.neg (by decide) (Ev.pos hjl ?_)
        have hj8 : ∀ e ∈ js, e.f8.length ≤ 9000000000000000000 := fun e he => by
          obtain ⟨_, _, _, _, _, _, _, _, ⟨h8, _⟩, _⟩ := hjs e he
          omega
        have hs : small js := ⟨by omega, hj8⟩
        have hs2 : small ((⟨e0, e1, e2, e3, e4, e5, e6, e7, ls, e9⟩ : S54) :: js) := ⟨by simp; omega, fun e he => by
          rcases List.mem_cons.1 he with rfl | he
          · simp only; omega
          · exact hj8 e he⟩
        refine .bind (make_ev o0 o1 o2 p0 p1 p2 p3 p4 p5 p6 p7 p8 p9 p10 p11 p12 p13 o3 ac js o4 o5 id no a b hs) ?_
        refine .bind (make_ev o0 o1 o2 p0 p1 p2 p3 p4 p5 p6 p7 p8 p9 p10 p11 p12 p13 o3 ac _ o4 o5 id no a b hs2) ?_
        rw [makeV_skip ac _ js id no a b h]
        have hl : (makeV ac js id no a b).2.2.2.2.2.2.1.length ≤ 9000000000000000000 := by
          have := lineF_len id a b js
          unfold makeV
          split
          · split
            · simp only; omega
            · simp
          · simp
        exact Ev.pos rfl (same_ev _ _ _ _ _ _ _ hl)
end Go.Proofs.YtimjodgnlahclaaDoor.Pure
