/-
  The checks of a statement and of its successor: the program agrees with the reference, for any two statements of at most 80 lines.
-/
import Derived.Test.YtimjodgnlahclaaDoorGx8
import Derived.Test.YtimjodgnlahclaaDoorPl
import Derived.Test.YtimjodgnlahclaaDoorTypes
namespace Go.Proofs.YtimjodgnlahclaaDoor.Pure
set_option linter.unusedVariables false
open Go.RowKit Go.Proofs.YtimjodgnlahclaaDoor.G Go.Proofs.YtimjodgnlahclaaDoorW.PrintWords Go.Proofs.YtimjodgnlahclaaDoorW.PrintLast Go.Proofs.YtimjodgnlahclaaDoorW.PrintMore

theorem check_same (ls : List S66) (a0 a1 a2 a3 a4 a5 : Int) : ∀ (k : Nat) (s p0 p1 p2 i : Int) (p3 : ByteArray), 0 ≤ p0 →
    statement_Check.l0 k s ls (ls.length : Int) i a0 a1 a2 a3 a4 a5 ls p0 p1 p2 p3 = corebankref45_Check.l0 k s p0 i a0 a1 a2 a3 a4 a5 ls
  | 0, _, _, _, _, _, _, _ => rfl
  | k + 1, s, p0, p1, p2, i, p3, hp => by
    simp only [statement_Check.l0, corebankref45_Check.l0]
    by_cases h1 : i < (ls.length : Int)
    · rw [if_pos h1, if_pos h1]
      by_cases h2 : 0 ≤ i
      · rw [if_pos h2, if_pos h2, if_pos h1]
        by_cases h3 : (rd_T66 ls i).f0 ≤ p0
        · rw [if_pos h3]
          split
          · rfl
          · split
            · rfl
            · rfl
        · rw [if_neg h3, if_neg (by simp only [Bool.and_eq_true, beq_iff_eq]; intro h; omega), if_neg (by omega), if_neg h3]
          split
          · rfl
          · split
            · rfl
            · exact check_same ls a0 a1 a2 a3 a4 a5 k _ _ _ _ _ _ (by omega)
      · rw [if_neg h2, if_pos h1, if_neg h2]
    · rw [if_neg h1, if_neg h1]
theorem check_eq (k : Nat) (a0 a1 a2 a3 a4 a5 : Int) (ls : List S66) : statement_Check.f k a0 a1 a2 a3 a4 a5 ls = corebankref45_Check.f k a0 a1 a2 a3 a4 a5 ls := by
  have hj : ∀ b, statement_Check.j0 k b a0 a1 a2 a3 a4 a5 ls = corebankref45_Check.j0 k b a0 a1 a2 a3 a4 a5 ls := by
    intro b
    cases k with
    | zero => rfl
    | succ k => simp only [statement_Check.j0, corebankref45_Check.j0]; rw [check_same _ _ _ _ _ _ _ _ _ _ _ _ _ _ (Int.le_refl 0)]
  unfold statement_Check.f corebankref45_Check.f
  simp only [hj]
  rfl
theorem rcheck_loop (ls : List S66) (hl : ls.length * 40 ≤ 140737488351232) (a0 a1 a2 a3 a4 a5 : Int) : ∀ (d : Nat) (i s p0 : Int), 0 ≤ i → i + d = ls.length → ∃ r, Ev (fun k => corebankref45_Check.l0 k s p0 i a0 a1 a2 a3 a4 a5 ls) r
  | 0, i, s, p0, h0, h => by
    by_cases e : s = a5
    · exact ⟨0, .step (fun k => by simp only [corebankref45_Check.l0]; rw [if_neg (by omega), if_pos e]) (.now 0)⟩
    · exact ⟨25, .step (fun k => by simp only [corebankref45_Check.l0]; rw [if_neg (by omega), if_neg e]) (.now 25)⟩
  | d + 1, i, s, p0, h0, h => by
    by_cases h3 : (rd_T66 ls i).f0 ≤ p0
    · exact ⟨25, .step (fun k => by simp only [corebankref45_Check.l0]; rw [if_pos (by omega), if_pos h0, if_pos h3]) (.now 25)⟩
    · by_cases h4 : (rd_T66 ls i).f1 < a2
      · exact ⟨25, .step (fun k => by simp only [corebankref45_Check.l0]; rw [if_pos (by omega), if_pos h0, if_neg h3, if_pos h4]) (.now 25)⟩
      · by_cases h5 : (rd_T66 ls i).f1 > a3
        · exact ⟨25, .step (fun k => by simp only [corebankref45_Check.l0]; rw [if_pos (by omega), if_pos h0, if_neg h3, if_neg h4, if_pos h5]) (.now 25)⟩
        · obtain ⟨r, hr⟩ := rcheck_loop ls hl a0 a1 a2 a3 a4 a5 d (i + 1) (wrap64 (s + (rd_T66 ls i).f2)) (rd_T66 ls i).f0 (by omega) (by omega)
          exact ⟨r, .step (fun k => by simp only [corebankref45_Check.l0]; rw [if_pos (by omega), if_pos h0, if_neg h3, if_neg h4, if_neg h5, wrapn (i := i + 1) (by omega) (by omega)]) hr⟩
theorem valid_now (n : Int) : ∃ b, corebankref04_Valid.f n = some b := by unfold corebankref04_Valid.f; split <;> exact ⟨_, rfl⟩
theorem rcheck_ev (ls : List S66) (hl : ls.length * 40 ≤ 140737488351232) (a0 a1 a2 a3 a4 a5 : Int) : ∃ r, Ev (fun k => corebankref45_Check.f k a0 a1 a2 a3 a4 a5 ls) r := by
  obtain ⟨r0, h0⟩ := rcheck_loop ls hl a0 a1 a2 a3 a4 a5 ls.length 0 a4 0 (Int.le_refl 0) (by omega)
  have hj : ∀ b, ∃ r, Ev (fun k => corebankref45_Check.j0 k b a0 a1 a2 a3 a4 a5 ls) r := by
    intro b
    cases b with
    | true => exact ⟨1, .step (fun k => by simp only [corebankref45_Check.j0, if_true]) (.now 1)⟩
    | false => exact ⟨r0, .step (fun k => by simp only [corebankref45_Check.j0]; rw [if_neg (by decide)]) h0⟩
  unfold corebankref45_Check.f
  obtain ⟨b2, e2⟩ := valid_now a2
  obtain ⟨b3, e3⟩ := valid_now a3
  simp only [e2, e3, Option.bind_some]
  split
  · exact hj true
  · split
    · exact hj true
    · split
      · split
        · exact hj _
        · exact hj true
      · exact hj true
theorem check_ev (ls : List S66) (hl : ls.length * 40 ≤ 140737488351232) (a0 a1 a2 a3 a4 a5 : Int) : ∃ r, Ev (fun k => statement_Check.f k a0 a1 a2 a3 a4 a5 ls) r ∧ Ev (fun k => corebankref45_Check.f k a0 a1 a2 a3 a4 a5 ls) r := by
  obtain ⟨r, h⟩ := rcheck_ev ls hl a0 a1 a2 a3 a4 a5
  exact ⟨r, .congr (fun k => check_eq k a0 a1 a2 a3 a4 a5 ls) h, h⟩
theorem follows_eq (a0 a1 a2 a3 a4 a5 : Int) (l : List S66) (b0 b1 b2 b3 b4 b5 : Int) (m : List S66) (h1 : (Lit.int .i64 a1).wf = true) (h2 : (Lit.int .i64 a3).wf = true) (h3 : (Lit.int .i64 b1).wf = true) (h4 : (Lit.int .i64 b2).wf = true) :
    ∃ r, statement_Follows.f a0 a1 a2 a3 a4 a5 l b0 b1 b2 b3 b4 b5 m = some r ∧ corebankref45_Follows.f a0 a1 a2 a3 a4 a5 l b0 b1 b2 b3 b4 b5 m = some r := by
  obtain ⟨h1, h1'⟩ := wf64 h1
  obtain ⟨h2, h2'⟩ := wf64 h2
  obtain ⟨h3, h3'⟩ := wf64 h3
  obtain ⟨h4, h4'⟩ := wf64 h4
  have w : ∀ a b : Int, -9223372036854775808 ≤ a → a ≤ 9223372036854775807 → -9223372036854775808 ≤ b → b ≤ 9223372036854775807 → ¬ a = 9223372036854775807 → (b = wrap64 (a + 1) ↔ (b > a ∧ wrap64 (b - 1) = a)) := by
    intro a b _ _ _ _ _
    rw [wrapn (by omega) (by omega)]
    constructor
    · intro e; exact ⟨by omega, by rw [wrapn (by omega) (by omega)]; omega⟩
    · rintro ⟨h, e⟩; rw [wrapn (by omega) (by omega)] at e; omega
  unfold statement_Follows.f corebankref45_Follows.f
  by_cases e0 : b0 = a0
  · rw [if_pos e0, if_pos e0.symm]
    by_cases e1 : a1 = 9223372036854775807
    · rw [if_pos e1, if_neg (by omega)]; exact ⟨_, rfl, rfl⟩
    · rw [if_neg e1]
      by_cases e2 : b1 = wrap64 (a1 + 1)
      · obtain ⟨g1, g2⟩ := (w a1 b1 h1 h1' h3 h3' e1).1 e2
        rw [if_pos e2, if_pos g1, if_pos g2]
        by_cases e3 : a3 = 9223372036854775807
        · rw [if_pos e3, if_neg (by omega)]; exact ⟨_, rfl, rfl⟩
        · rw [if_neg e3]
          by_cases e4 : b2 = wrap64 (a3 + 1)
          · obtain ⟨g3, g4⟩ := (w a3 b2 h2 h2' h4 h4' e3).1 e4
            rw [if_pos e4, if_pos g3, if_pos g4]
            exact ⟨_, rfl, by rw [show (a5 == b4) = (b4 == a5) from BEq.comm]⟩
          · rw [if_neg e4]
            by_cases g3 : b2 > a3
            · rw [if_pos g3, if_neg (fun g4 => e4 ((w a3 b2 h2 h2' h4 h4' e3).2 ⟨g3, g4⟩))]; exact ⟨_, rfl, rfl⟩
            · rw [if_neg g3]; exact ⟨_, rfl, rfl⟩
      · rw [if_neg e2]
        by_cases g1 : b1 > a1
        · rw [if_pos g1, if_neg (fun g2 => e2 ((w a1 b1 h1 h1' h3 h3' e1).2 ⟨g1, g2⟩))]; exact ⟨_, rfl, rfl⟩
        · rw [if_neg g1]; exact ⟨_, rfl, rfl⟩
  · rw [if_neg e0, if_neg (fun e => e0 e.symm)]; exact ⟨_, rfl, rfl⟩
theorem short_loop (ls : List S66) (hl : ls.length * 40 ≤ 140737488351232) (a0 a1 a2 a3 a4 a5 : Int) : ∀ (d : Nat) (i : Int), 0 ≤ i → i + d = ls.length → ∃ r, Ev (fun k => corebanklaw45_short.l0 k i a0 a1 a2 a3 a4 a5 ls) r
  | 0, i, h0, h => ⟨true, .step (fun k => by simp only [corebanklaw45_short.l0]; rw [if_neg (by omega)]) (.now true)⟩
  | d + 1, i, h0, h => by
    by_cases h3 : ((rd_T66 ls i).f3.size : Int) > 200
    · exact ⟨false, .step (fun k => by simp only [corebanklaw45_short.l0]; rw [if_pos (by omega), if_pos h0, if_pos h3]) (.now false)⟩
    · obtain ⟨r, hr⟩ := short_loop ls hl a0 a1 a2 a3 a4 a5 d (i + 1) (by omega) (by omega)
      exact ⟨r, .step (fun k => by simp only [corebanklaw45_short.l0]; rw [if_pos (by omega), if_pos h0, if_neg h3, wrapn (i := i + 1) (by omega) (by omega)]) hr⟩
theorem short_ev (ls : List S66) (hl : ls.length * 40 ≤ 140737488351232) (a0 a1 a2 a3 a4 a5 : Int) : ∃ r, Ev (fun k => corebanklaw45_short.f k a0 a1 a2 a3 a4 a5 ls) r := by
  unfold corebanklaw45_short.f
  split
  · exact ⟨_, .now false⟩
  · exact short_loop ls hl a0 a1 a2 a3 a4 a5 ls.length 0 (Int.le_refl 0) (by omega)

def corebanklaw45_StatementChecks.Good : Prop := ∀ (x0 : S40) (x1 : S40), ok40 x0 → ok40 x1 → ∃ k, corebanklaw45_StatementChecks.f k x0.f0 x0.f1 x0.f2 x0.f3 x0.f4 x0.f5 x0.f6 x1.f0 x1.f1 x1.f2 x1.f3 x1.f4 x1.f5 x1.f6 = some true
theorem StatementChecks : corebanklaw45_StatementChecks.Good := by
  rintro ⟨a0, a1, a2, a3, a4, a5, l⟩ ⟨b0, b1, b2, b3, b4, b5, m⟩ ⟨h0, h1, h2, h3, h4, h5, h6, h7⟩ ⟨g0, g1, g2, g3, g4, g5, g6, g7⟩
  simp only at h0 h1 h2 h3 h4 h5 h6 g0 g1 g2 g3 g4 g5 g6
  refine Ev.rounds (g := fun k => corebanklaw45_StatementChecks.f k a0 a1 a2 a3 a4 a5 l b0 b1 b2 b3 b4 b5 m) ?_
  have hj : ∀ b, Ev (fun k => corebanklaw45_StatementChecks.j0 k b a0 a1 a2 a3 a4 a5 l b0 b1 b2 b3 b4 b5 m) true := by
    intro b
    cases b with
    | true => exact .step (fun k => by simp only [corebanklaw45_StatementChecks.j0, if_true]; rfl) (.now true)
    | false =>
      refine .step (fun k => by simp only [corebanklaw45_StatementChecks.j0]; rw [if_neg (by decide)]) ?_
      obtain ⟨r, e1, e2⟩ := check_ev l h6 a0 a1 a2 a3 a4 a5
      obtain ⟨q, e3, e4⟩ := follows_eq a0 a1 a2 a3 a4 a5 l b0 b1 b2 b3 b4 b5 m h1 h3 g1 g2
      refine .bind e1 (.bind e2 ?_)
      simp only [e3, e4, Option.bind_some, if_true, beq_self_eq_true]
      exact .now true
  unfold corebanklaw45_StatementChecks.f
  obtain ⟨r1, e1⟩ := short_ev l h6 a0 a1 a2 a3 a4 a5
  refine .bind e1 ?_
  cases r1 with
  | true =>
    obtain ⟨r2, e2⟩ := short_ev m g6 b0 b1 b2 b3 b4 b5
    simp only [if_true]
    exact .bind e2 (hj _)
  | false =>
    simp only [Bool.false_eq_true, if_false]
    exact hj true
end Go.Proofs.YtimjodgnlahclaaDoor.Pure
