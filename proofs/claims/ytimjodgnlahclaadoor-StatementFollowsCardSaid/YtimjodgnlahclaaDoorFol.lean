/-
  STATEMENTS THAT FOLLOW, PLAIN: sums modulo 2^64, the lines of a journal sorted by day, the numbered journal. (Under way: not a part of any claim yet.)
-/
import Derived.Test.YtimjodgnlahclaaDoorMk
import Derived.Test.YtimjodgnlahclaaDoorWFollows
namespace Go.Proofs.YtimjodgnlahclaaDoor.Pure
set_option linter.unusedVariables false
open Go.RowKit Go.Proofs.YtimjodgnlahclaaDoor.G Go.Proofs.YtimjodgnlahclaaDoorW.PrintWords Go.Proofs.YtimjodgnlahclaaDoorW.PrintLast Go.Proofs.YtimjodgnlahclaaDoorW.PrintMore

theorem wrap_add (x y : Int) : wrap64 (wrap64 x + y) = wrap64 (x + y) := by unfold wrap64; omega
def msum (id : Int) : List S54 → Int
  | [] => 0
  | e :: es => mvF id e.f8 0 + msum id es
theorem ofF_eq (id : Int) : ∀ (es : List S54) (n : Int), wrap64 n = n → ofF id es n = wrap64 (n + msum id es)
  | [], n, h => by simp only [ofF, msum, Int.add_zero]; exact h.symm
  | e :: es, n, h => by
    simp only [ofF, msum]
    rw [ofF_eq id es _ (by unfold wrap64; omega), wrap_add, Int.add_assoc]
/-- The sum of the lines' amounts. -/
def lsum : List S66 → Int
  | [] => 0
  | x :: xs => x.f2 + lsum xs
theorem mvF_no (id : Int) : ∀ (xs : List S62) (n : Int), hasF id xs = false → mvF id xs n = n
  | [], n, h => rfl
  | x :: xs, n, h => by
    simp only [hasF, List.any_cons, Bool.or_eq_false_iff, decide_eq_false_iff_not] at h
    simp only [mvF]
    rw [if_neg h.1]
    exact mvF_no id xs n h.2
/-- What stands up to b is what stands ahead of a and the lines from a to b. -/
theorem split_sum (id a b : Int) (hab : a ≤ b) : ∀ es : List S54, msum id (upTo b es) = msum id (upTo (a - 1) es) + lsum (lineF id a b es)
  | [] => rfl
  | e :: es => by
    have ih := split_sum id a b hab es
    by_cases g1 : e.f1 ≤ b
    · rw [upTo_in g1]
      by_cases g2 : e.f1 ≤ a - 1
      · rw [upTo_in g2, show lineF id a b (e :: es) = lineF id a b es by simp only [lineF]; rw [if_neg (by omega)]]
        simp only [msum]; omega
      · rw [upTo_out g2]
        cases g3 : hasF id e.f8 with
        | true =>
          rw [show lineF id a b (e :: es) = ⟨e.f0, e.f1, mvF id e.f8 0, e.f7⟩ :: lineF id a b es by simp only [lineF]; rw [if_pos ⟨by omega, g1, g3⟩]]
          simp only [msum, lsum]; omega
        | false =>
          rw [show lineF id a b (e :: es) = lineF id a b es by simp only [lineF]; rw [if_neg (by simp [g3])]]
          simp only [msum]
          rw [mvF_no id _ _ g3]; omega
    · rw [upTo_out g1, upTo_out (by omega), show lineF id a b (e :: es) = lineF id a b es by simp only [lineF]; rw [if_neg (by omega)]]
      exact ih
/-- Sorted by day. -/
def Sorted : List S54 → Prop
  | [] => True
  | e :: es => (∀ x ∈ es, e.f1 ≤ x.f1) ∧ Sorted es
theorem lineF_late (id a b : Int) : ∀ es : List S54, (∀ x ∈ es, b < x.f1) → lineF id a b es = []
  | [], h => rfl
  | e :: es, h => by
    simp only [lineF]
    rw [if_neg (by have := h e (by simp); omega)]
    exact lineF_late id a b es (fun x hx => h x (by simp [hx]))
theorem lineF_split (id a m b : Int) (h1 : a ≤ m) (h2 : m < b) : ∀ es : List S54, Sorted es → lineF id a b es = lineF id a m es ++ lineF id (m + 1) b es
  | [], h => rfl
  | e :: es, h => by
    have ih := lineF_split id a m b h1 h2 es h.2
    by_cases g : e.f1 ≤ m
    · simp only [lineF]
      rw [if_neg (c := m + 1 ≤ e.f1 ∧ e.f1 ≤ b ∧ hasF id e.f8 = true) (by omega), ih]
      by_cases c : a ≤ e.f1 ∧ e.f1 ≤ m ∧ hasF id e.f8 = true
      · rw [if_pos c, if_pos ⟨c.1, by omega, c.2.2⟩]; rfl
      · rw [if_neg c, if_neg (fun k => c ⟨k.1, g, k.2.2⟩)]
    · have hl : lineF id a m (e :: es) = [] := lineF_late id a m _ (fun x hx => by
        rcases List.mem_cons.1 hx with rfl | hx
        · omega
        · have := h.1 x hx; omega)
      have hl2 : lineF id a m es = [] := lineF_late id a m _ (fun x hx => by have := h.1 x hx; omega)
      rw [hl, List.nil_append]
      rw [hl2, List.nil_append] at ih
      simp only [lineF, ih]
      by_cases c : a ≤ e.f1 ∧ e.f1 ≤ b ∧ hasF id e.f8 = true
      · rw [if_pos c, if_pos ⟨by omega, c.2.1, c.2.2⟩]
      · rw [if_neg c, if_neg (fun k => c ⟨by omega, k.2.1, k.2.2⟩)]
/-- The entries numbered from i + 1 on. -/
def nums : Nat → List S54 → List S54
  | _, [] => []
  | i, e :: es => { e with f0 := ((i + 1 : Nat) : Int) } :: nums (i + 1) es
theorem nums_len : ∀ (i : Nat) (es : List S54), (nums i es).length = es.length
  | _, [] => rfl
  | i, e :: es => by simp only [nums, List.length_cons, nums_len (i + 1) es]
theorem nums_legs : ∀ (i : Nat) (es : List S54) (x : S54), x ∈ nums i es → ∃ e ∈ es, x.f8 = e.f8 ∧ x.f1 = e.f1
  | _, [], x, h => by simp [nums] at h
  | i, e :: es, x, h => by
    simp only [nums] at h
    rcases List.mem_cons.1 h with rfl | h
    · exact ⟨e, by simp, rfl, rfl⟩
    · obtain ⟨y, hy, h1⟩ := nums_legs (i + 1) es x h
      exact ⟨y, by simp [hy], h1⟩
theorem nums_sorted : ∀ (i : Nat) (es : List S54), Sorted es → Sorted (nums i es)
  | _, [], _ => trivial
  | i, e :: es, h => by
    refine ⟨fun x hx => ?_, nums_sorted (i + 1) es h.2⟩
    obtain ⟨y, hy, _, h2⟩ := nums_legs (i + 1) es x hx
    have := h.1 y hy
    simp only; omega
theorem set_take {α : Type} (xs : List α) (i : Nat) (x : α) (h : i < xs.length) : (xs.set i x).take (i + 1) = xs.take i ++ [x] := by
  apply List.ext_getElem?
  intro j
  rcases Nat.lt_trichotomy j i with g | g | g
  · rw [List.getElem?_take, if_pos (by omega), List.getElem?_set_ne (by omega), List.getElem?_append_left (by rw [List.length_take]; omega), List.getElem?_take, if_pos g]
  · subst g
    rw [List.getElem?_take, if_pos (by omega), List.getElem?_set_self h, List.getElem?_append_right (by rw [List.length_take]; omega)]
    rw [List.length_take, show j - min j xs.length = 0 by omega]; rfl
  · rw [List.getElem?_take, if_neg (by omega), List.getElem?_eq_none (by rw [List.length_append, List.length_take]; simp; omega)]
theorem set_drop {α : Type} (xs : List α) (i : Nat) (x : α) : (xs.set i x).drop (i + 1) = xs.drop (i + 1) := by
  apply List.ext_getElem?
  intro j
  rw [List.getElem?_drop, List.getElem?_drop, List.getElem?_set_ne (by omega)]
theorem numL_loop : ∀ (c i : Nat) (xs : List S54), xs.length ≤ 60 → i + c = xs.length → Ev (fun k => numL k xs (i : Int)) (xs.take i ++ nums i (xs.drop i))
  | 0, i, xs, hl, h => by
    rw [List.drop_eq_nil_of_le (by omega), List.take_of_length_le (by omega)]
    simp only [nums, List.append_nil]
    exact .step (fun k => by simp only [numL]; rw [if_neg (by omega)]) (.now _)
  | c + 1, i, xs, hl, h => by
    have r := numL_loop c (i + 1) (xs.set i { rd_T54 xs (i : Int) with f0 := ((i + 1 : Nat) : Int) }) (by rw [List.length_set]; exact hl) (by rw [List.length_set]; omega)
    rw [set_take _ _ _ (by omega), set_drop] at r
    refine .step (f := fun k => numL k (xs.set i { rd_T54 xs (i : Int) with f0 := ((i + 1 : Nat) : Int) }) ((i + 1 : Nat) : Int)) (fun k => ?_) ?_
    · simp only [numL]
      rw [if_pos (by omega), if_pos (by omega), wrapn (i := (i : Int) + 1) (by omega) (by omega)]; rfl
    · rw [drop54 xs i (by omega)]
      simp only [nums]
      rw [List.append_assoc] at r
      exact r
theorem numL_ev (xs : List S54) (hl : xs.length ≤ 60) : Ev (fun k => numL k xs 0) (nums 0 xs) := by
  have r := numL_loop xs.length 0 xs hl (by omega)
  simpa using r
theorem sorted_of (xs : List S54) (h : ∀ j : Nat, j + 1 < xs.length → (rd_T54 xs (j : Int)).f1 ≤ (rd_T54 xs ((j + 1 : Nat) : Int)).f1) : ∀ (c i : Nat), i + c = xs.length → Sorted (xs.drop i)
  | 0, i, e => by rw [List.drop_eq_nil_of_le (by omega)]; trivial
  | c + 1, i, e => by
    have ih := sorted_of xs h c (i + 1) (by omega)
    rw [drop54 xs i (by omega)]
    refine ⟨fun x hx => ?_, ih⟩
    cases c with
    | zero => rw [List.drop_eq_nil_of_le (by omega)] at hx; cases hx
    | succ c =>
      have h1 := h i (by omega)
      rw [drop54 xs (i + 1) (by omega)] at hx ih
      rcases List.mem_cons.1 hx with rfl | hx
      · exact h1
      · have := ih.1 x hx; omega
theorem down_loop (xs : List S54) (hl : xs.length ≤ 60) : ∀ (c i : Nat), i + 1 + c = xs.length → ∃ u, Ev (fun k => downL k xs ((i + 1 : Nat) : Int)) u ∧ (u = false → ∀ j : Nat, i ≤ j → j + 1 < xs.length → (rd_T54 xs (j : Int)).f1 ≤ (rd_T54 xs ((j + 1 : Nat) : Int)).f1)
  | 0, i, h => ⟨false, .step (fun k => by simp only [downL]; rw [if_neg (by omega)]) (.now _), fun _ j h1 h2 => by omega⟩
  | c + 1, i, h => by
    have hw : wrap64 (((i + 1 : Nat) : Int) - 1) = (i : Int) := by rw [wrapn (by omega) (by omega)]; omega
    by_cases g : (rd_T54 xs ((i + 1 : Nat) : Int)).f1 < (rd_T54 xs (i : Int)).f1
    · exact ⟨true, .step (f := fun _ => some true) (fun k => by simp only [downL, hw]; rw [if_pos (by omega), if_pos (by omega), if_pos g]) (.now _), fun e => by cases e⟩
    · obtain ⟨u, h1, h2⟩ := down_loop xs hl c (i + 1) (by omega)
      refine ⟨u, .step (fun k => ?_) h1, fun e j h3 h4 => ?_⟩
      · simp only [downL, hw]
        rw [if_pos (by omega), if_pos (by omega), if_neg g, wrapn (i := ((i + 1 : Nat) : Int) + 1) (by omega) (by omega)]; rfl
      · by_cases e2 : j = i
        · subst e2; omega
        · exact h2 e j (by omega) h4
theorem down_ev (xs : List S54) (hl : xs.length ≤ 60) : ∃ u, Ev (fun k => downL k xs 1) u ∧ (u = false → Sorted xs) := by
  by_cases h0 : xs.length = 0
  · exact ⟨false, .step (fun k => by simp only [downL]; rw [if_neg (by omega)]) (.now _), fun _ => by rw [List.eq_nil_of_length_eq_zero h0]; trivial⟩
  · obtain ⟨u, h1, h2⟩ := down_loop xs hl (xs.length - 1) 0 (by omega)
    refine ⟨u, h1, fun e => ?_⟩
    have := sorted_of xs (fun j hj => h2 e j (by omega) hj) xs.length 0 (by omega)
    rwa [List.drop_zero] at this
/-! ### Check -/
/-- Lines whose ids grow from above p, with days from a to b. -/
def Lined (a b : Int) : Int → List S66 → Prop
  | _, [] => True
  | p, x :: xs => p < x.f0 ∧ a ≤ x.f1 ∧ x.f1 ≤ b ∧ Lined a b x.f0 xs
theorem lined_nums (id a b : Int) : ∀ (i : Nat) (p : Int) (es : List S54), p ≤ (i : Int) → Lined a b p (lineF id a b (nums i es))
  | i, p, [], h => trivial
  | i, p, e :: es, h => by
    simp only [nums, lineF]
    split
    · rename_i c
      exact ⟨by simp only; omega, c.1, c.2.1, lined_nums id a b (i + 1) _ es (by simp only; omega)⟩
    · exact lined_nums id a b (i + 1) p es (by omega)
theorem wrap_id (s : Int) : wrap64 (wrap64 s) = wrap64 s := by unfold wrap64; omega
theorem check_loop (id no a b op cl : Int) (ls : List S66) (hl : ls.length ≤ 1000) : ∀ (c i : Nat) (s p0 p1 p2 : Int) (p3 : ByteArray), i + c = ls.length → Lined a b p0 (ls.drop i) → 0 ≤ p0 → wrap64 s = s → wrap64 (s + lsum (ls.drop i)) = cl →
    Ev (fun k => statement_Check.l0 k s ls (ls.length : Int) (i : Int) id no a b op cl ls p0 p1 p2 p3) 0
  | 0, i, s, p0, p1, p2, p3, h, hL, h0, hw, hs => by
    rw [List.drop_eq_nil_of_le (by omega)] at hs
    simp only [lsum, Int.add_zero] at hs
    exact .step (fun k => by simp only [statement_Check.l0]; rw [if_neg (by omega), if_pos (by omega)]) (.now _)
  | c + 1, i, s, p0, p1, p2, p3, h, hL, h0, hw, hs => by
    rw [drop66_ ls i (by omega)] at hL hs
    obtain ⟨l1, l2, l3, hL⟩ := hL
    simp only [lsum] at hs
    have r := check_loop id no a b op cl ls hl c (i + 1) (wrap64 (s + (rd_T66 ls (i : Int)).f2)) (rd_T66 ls (i : Int)).f0 (rd_T66 ls (i : Int)).f1 (rd_T66 ls (i : Int)).f2 (rd_T66 ls (i : Int)).f3 (by omega) hL (by omega) (wrap_id _) (by rw [wrap_add, Int.add_assoc]; exact hs)
    refine .step (fun k => ?_) r
    simp only [statement_Check.l0]
    have hne : ((rd_T66 ls (i : Int)).f0 == p0) = false := beq_eq_false_iff_ne.mpr (by omega)
    rw [if_pos (by omega), if_pos (by omega), if_pos (by omega), if_neg (by rw [hne]; simp), if_neg (by omega), if_neg (by omega), if_neg (by omega), if_neg (by omega), wrapn (i := (i : Int) + 1) (by omega) (by omega)]
    rfl
theorem check_ok (id no a b op cl : Int) (ls : List S66) (hl : ls.length ≤ 1000) (h1 : 1000 ≤ id) (h2 : 1 ≤ no) (h3 : 0 ≤ a ∧ a ≤ 73048) (h4 : 0 ≤ b ∧ b ≤ 73048) (h5 : a ≤ b) (hL : Lined a b 0 ls) (hw : wrap64 op = op) (hs : wrap64 (op + lsum ls) = cl) :
    Ev (fun k => statement_Check.f k id no a b op cl ls) 0 := by
  unfold statement_Check.f
  simp only [vday, Option.bind_some]
  rw [decide_eq_true h3, decide_eq_true h4]
  refine Ev.neg (by omega) (Ev.neg (by omega) (Ev.pos rfl (Ev.pos rfl ?_)))
  rw [decide_eq_false (show ¬ a > b by omega)]
  have r := check_loop id no a b op cl ls hl ls.length 0 op 0 0 0 ⟨#[]⟩ (by omega) (by rw [List.drop_zero]; exact hL) (by omega) hw (by rw [List.drop_zero]; exact hs)
  exact .step (fun k => by simp only [statement_Check.j0]; rw [if_neg (by decide)]; rfl) r
/-- A made statement checks. -/
theorem made_ok (id no a b : Int) (js : List S54) (hl : js.length ≤ 60) (h1 : 1000 ≤ id) (h2 : 1 ≤ no) (h3 : 0 ≤ a ∧ a ≤ 73048) (h4 : 0 ≤ b ∧ b ≤ 73048) (h5 : a ≤ b) :
    Ev (fun k => statement_Check.f k id no a b (ofF id (upTo (a - 1) (nums 0 js)) 0) (ofF id (upTo b (nums 0 js)) 0) (lineF id a b (nums 0 js))) 0 := by
  have h0 : wrap64 0 = 0 := by unfold wrap64; omega
  refine check_ok id no a b _ _ _ (by have := lineF_len id a b (nums 0 js); rw [nums_len] at this; omega) h1 h2 h3 h4 h5 (lined_nums id a b 0 0 js (by omega)) ?_ ?_
  · rw [ofF_eq _ _ _ h0, wrap_id]
  · rw [ofF_eq _ _ _ h0, ofF_eq _ _ _ h0, wrap_add, split_sum id a b h5]
    congr 1; omega
end Go.Proofs.YtimjodgnlahclaaDoor.Pure
