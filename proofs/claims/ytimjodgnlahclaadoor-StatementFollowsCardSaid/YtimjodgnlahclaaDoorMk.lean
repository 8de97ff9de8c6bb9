/-
  STATEMENTS, PLAIN: the program's Make and the reference's come to one statement (or one error): sums of movements of the entries before, and up to, a day; the lines of the entries between.
-/
import Derived.Test.YtimjodgnlahclaaDoorPl
import Derived.Test.YtimjodgnlahclaaDoorGx4
import Derived.Test.YtimjodgnlahclaaDoorGx5
import Derived.Test.YtimjodgnlahclaaDoorGx6
import Derived.Test.YtimjodgnlahclaaDoorGx9
import Derived.Test.YtimjodgnlahclaaDoorTypes
namespace Go.Proofs.YtimjodgnlahclaaDoor.G
open Go.RowKit Go.Proofs.YtimjodgnlahclaaDoorW.PrintWords Go.Proofs.YtimjodgnlahclaaDoorW.PrintLast Go.Proofs.YtimjodgnlahclaaDoorW.PrintMore
set_option linter.unusedVariables false
set_option linter.unusedSimpArgs false

theorem drop62 (xs : List S62) (k : Nat) (h : k < xs.length) : xs.drop k = rd_T62 xs (k : Int) :: xs.drop (k + 1) := by
  rw [List.drop_eq_getElem_cons h]
  unfold rd_T62
  rw [Int.toNat_natCast, List.getD_eq_getElem?_getD, List.getElem?_eq_getElem h]; rfl
theorem drop54 (xs : List S54) (k : Nat) (h : k < xs.length) : xs.drop k = rd_T54 xs (k : Int) :: xs.drop (k + 1) := by
  rw [List.drop_eq_getElem_cons h]
  unfold rd_T54
  rw [Int.toNat_natCast, List.getD_eq_getElem?_getD, List.getElem?_eq_getElem h]; rfl
theorem drop57 (xs : List S57) (k : Nat) (h : k < xs.length) : xs.drop k = rd_T57 xs (k : Int) :: xs.drop (k + 1) := by
  rw [List.drop_eq_getElem_cons h]
  unfold rd_T57
  rw [Int.toNat_natCast, List.getD_eq_getElem?_getD, List.getElem?_eq_getElem h]; rfl
theorem drop66_ (xs : List S66) (k : Nat) (h : k < xs.length) : xs.drop k = rd_T66 xs (k : Int) :: xs.drop (k + 1) := by
  rw [List.drop_eq_getElem_cons h]
  unfold rd_T66
  rw [Int.toNat_natCast, List.getD_eq_getElem?_getD, List.getElem?_eq_getElem h]; rfl
/-- Minus the sum of the legs of an account. -/
def mvF (id : Int) : List S62 → Int → Int
  | [], n => n
  | x :: xs, n => if x.f0 = id then mvF id xs (wrap64 (n - x.f1)) else mvF id xs n
def hasF (id : Int) (xs : List S62) : Bool := xs.any fun x => decide (x.f0 = id)
theorem wrap_in (n : Int) : -9223372036854775808 ≤ wrap64 n ∧ wrap64 n ≤ 9223372036854775807 := by unfold wrap64; omega
theorem mvF_in (id : Int) : ∀ (xs : List S62) (n : Int), -9223372036854775808 ≤ n ∧ n ≤ 9223372036854775807 → -9223372036854775808 ≤ mvF id xs n ∧ mvF id xs n ≤ 9223372036854775807
  | [], n, h => h
  | x :: xs, n, h => by
    simp only [mvF]
    split
    · exact mvF_in id xs _ (wrap_in _)
    · exact mvF_in id xs n h
theorem moved_loop (id : Int) (ls : List S62) (hl : ls.length ≤ 9000000000000000000) : ∀ (c i : Nat) (n : Int) (b : Bool), i + c = ls.length →
    Ev (fun k => statement_moved.l0 k id n b ls (ls.length : Int) (i : Int)) (mvF id (ls.drop i) n, b || hasF id (ls.drop i))
  | 0, i, n, b, h => by
    rw [List.drop_eq_nil_of_le (by omega)]
    refine .step (fun k => by simp only [statement_moved.l0]; rw [if_neg (by omega)]) ?_
    simp only [mvF, hasF, List.any_nil, Bool.or_false]
    exact .now _
  | c + 1, i, n, b, h => by
    rw [drop62 ls i (by omega)]
    generalize hx : rd_T62 ls (i : Int) = x
    by_cases g : x.f0 = id
    · have e := moved_loop id ls hl c (i + 1) (wrap64 (n - x.f1)) true (by omega)
      refine .step (f := fun k => statement_moved.l0 k id (wrap64 (n - x.f1)) true ls (ls.length : Int) ((i + 1 : Nat) : Int)) (fun k => ?_) ?_
      · simp only [statement_moved.l0, hx]
        rw [if_pos (by omega), if_pos (by omega), if_pos (by omega), if_pos g, wrapn (i := (i : Int) + 1) (by omega) (by omega)]; rfl
      · simp only [mvF, hasF, List.any_cons]
        rw [if_pos g, decide_eq_true g]
        simpa using e
    · have e := moved_loop id ls hl c (i + 1) n b (by omega)
      refine .step (f := fun k => statement_moved.l0 k id n b ls (ls.length : Int) ((i + 1 : Nat) : Int)) (fun k => ?_) ?_
      · simp only [statement_moved.l0, hx]
        rw [if_pos (by omega), if_pos (by omega), if_pos (by omega), if_neg g, wrapn (i := (i : Int) + 1) (by omega) (by omega)]; rfl
      · simp only [mvF, hasF, List.any_cons]
        rw [if_neg g, decide_eq_false g, Bool.false_or]
        exact e
theorem moved_ev (e : S54) (hl : e.f8.length ≤ 9000000000000000000) (id : Int) : Ev (fun k => statement_moved.f k e.f0 e.f1 e.f2 e.f3 e.f4 e.f5 e.f6 e.f7 e.f8 e.f9 id) (mvF id e.f8 0, hasF id e.f8) := by
  have h := moved_loop id e.f8 hl e.f8.length 0 0 false (by omega)
  show Ev (fun k => statement_moved.l0 k id 0 false e.f8 (e.f8.length : Int) 0) _
  simpa using h
theorem rmoved_loop (id : Int) (e : S54) (hl : e.f8.length ≤ 9000000000000000000) : ∀ (c i : Nat) (n : Int), i + c = e.f8.length →
    Ev (fun k => corebankref21_moved.l0 k id n (i : Int) e.f0 e.f1 e.f2 e.f3 e.f4 e.f5 e.f6 e.f7 e.f8 e.f9) (mvF id (e.f8.drop i) n)
  | 0, i, n, h => by
    rw [List.drop_eq_nil_of_le (by omega)]
    exact .step (fun k => by simp only [corebankref21_moved.l0]; rw [if_neg (by omega)]; rfl) (.now _)
  | c + 1, i, n, h => by
    rw [drop62 e.f8 i (by omega)]
    generalize hx : rd_T62 e.f8 (i : Int) = x
    by_cases g : x.f0 = id
    · have r := rmoved_loop id e hl c (i + 1) (wrap64 (n - x.f1)) (by omega)
      refine .step (f := fun k => corebankref21_moved.l0 k id (wrap64 (n - x.f1)) ((i + 1 : Nat) : Int) e.f0 e.f1 e.f2 e.f3 e.f4 e.f5 e.f6 e.f7 e.f8 e.f9) (fun k => ?_) ?_
      · simp only [corebankref21_moved.l0, hx]
        rw [if_pos (by omega), if_pos (by omega), if_pos g, wrapn (i := (i : Int) + 1) (by omega) (by omega)]; rfl
      · simp only [mvF]; rw [if_pos g]; exact r
    · have r := rmoved_loop id e hl c (i + 1) n (by omega)
      refine .step (f := fun k => corebankref21_moved.l0 k id n ((i + 1 : Nat) : Int) e.f0 e.f1 e.f2 e.f3 e.f4 e.f5 e.f6 e.f7 e.f8 e.f9) (fun k => ?_) ?_
      · simp only [corebankref21_moved.l0, hx]
        rw [if_pos (by omega), if_pos (by omega), if_neg g, wrapn (i := (i : Int) + 1) (by omega) (by omega)]; rfl
      · simp only [mvF]; rw [if_neg g]; exact r
theorem rmoved_ev (e : S54) (hl : e.f8.length ≤ 9000000000000000000) (id : Int) : Ev (fun k => corebankref21_moved.f k e.f0 e.f1 e.f2 e.f3 e.f4 e.f5 e.f6 e.f7 e.f8 e.f9 id) (mvF id e.f8 0) := by
  have h := rmoved_loop id e hl e.f8.length 0 0 (by omega)
  show Ev (fun k => corebankref21_moved.l0 k id 0 0 e.f0 e.f1 e.f2 e.f3 e.f4 e.f5 e.f6 e.f7 e.f8 e.f9) _
  simpa using h
theorem moves_loop (id : Int) (e : S54) (hl : e.f8.length ≤ 9000000000000000000) : ∀ (c i : Nat), i + c = e.f8.length →
    Ev (fun k => corebankref45_moves.l0 k id (i : Int) e.f0 e.f1 e.f2 e.f3 e.f4 e.f5 e.f6 e.f7 e.f8 e.f9) (hasF id (e.f8.drop i))
  | 0, i, h => by
    rw [List.drop_eq_nil_of_le (by omega)]
    exact .step (fun k => by simp only [corebankref45_moves.l0]; rw [if_neg (by omega)]; rfl) (.now _)
  | c + 1, i, h => by
    rw [drop62 e.f8 i (by omega)]
    generalize hx : rd_T62 e.f8 (i : Int) = x
    by_cases g : x.f0 = id
    · refine .step (f := fun _ => some true) (fun k => ?_) ?_
      · simp only [corebankref45_moves.l0, hx]
        rw [if_pos (by omega), if_pos (by omega), if_pos g]
      · rw [show hasF id (x :: e.f8.drop (i + 1)) = true by simp [hasF, g]]; exact .now _
    · have r := moves_loop id e hl c (i + 1) (by omega)
      refine .step (f := fun k => corebankref45_moves.l0 k id ((i + 1 : Nat) : Int) e.f0 e.f1 e.f2 e.f3 e.f4 e.f5 e.f6 e.f7 e.f8 e.f9) (fun k => ?_) ?_
      · simp only [corebankref45_moves.l0, hx]
        rw [if_pos (by omega), if_pos (by omega), if_neg g, wrapn (i := (i : Int) + 1) (by omega) (by omega)]; rfl
      · rw [show hasF id (x :: e.f8.drop (i + 1)) = hasF id (e.f8.drop (i + 1)) by simp [hasF, g]]; exact r
theorem moves_ev (e : S54) (hl : e.f8.length ≤ 9000000000000000000) (id : Int) : Ev (fun k => corebankref45_moves.f k e.f0 e.f1 e.f2 e.f3 e.f4 e.f5 e.f6 e.f7 e.f8 e.f9 id) (hasF id e.f8) := by
  have h := moves_loop id e hl e.f8.length 0 (by omega)
  show Ev (fun k => corebankref45_moves.l0 k id 0 e.f0 e.f1 e.f2 e.f3 e.f4 e.f5 e.f6 e.f7 e.f8 e.f9) _
  simpa using h
/-! ### sums over entries -/
def ofF (id : Int) : List S54 → Int → Int
  | [], n => n
  | e :: es, n => ofF id es (wrap64 (n + mvF id e.f8 0))
def small (js : List S54) : Prop := js.length ≤ 1000 ∧ ∀ e ∈ js, e.f8.length ≤ 9000000000000000000
theorem small.at {js : List S54} (h : small js) {i : Nat} (hi : i < js.length) : (rd_T54 js (i : Int)).f8.length ≤ 9000000000000000000 := by
  refine h.2 _ ?_
  have : rd_T54 js (i : Int) ∈ js.drop i := by rw [drop54 js i hi]; simp
  exact List.mem_of_mem_drop this
theorem of_loop (id : Int) (js : List S54) (hj : small js) : ∀ (c i : Nat) (n : Int), i + c = js.length → Ev (fun k => corebankref21_Of.l0 k js id n (i : Int)) (ofF id (js.drop i) n)
  | 0, i, n, h => by
    rw [List.drop_eq_nil_of_le (by omega)]
    exact .step (fun k => by simp only [corebankref21_Of.l0]; rw [if_neg (by omega)]; rfl) (.now _)
  | c + 1, i, n, h => by
    have hb := hj.at (i := i) (by omega)
    have hlen := hj.1
    rw [drop54 js i (by omega)]
    generalize hx : rd_T54 js (i : Int) = x at hb ⊢
    have r := of_loop id js hj c (i + 1) (wrap64 (n + mvF id x.f8 0)) (by omega)
    refine .step (f := fun k => _) (fun k => by simp only [corebankref21_Of.l0, hx]; rw [if_pos (by omega), if_pos (by omega)]) ?_
    refine .bind (rmoved_ev x hb id) ?_
    rw [wrapn (i := (i : Int) + 1) (by omega) (by omega)]
    exact r
theorem of_ev (id : Int) (js : List S54) (hj : small js) : Ev (fun k => corebankref21_Of.f k js id) (ofF id js 0) := by
  have h := of_loop id js hj js.length 0 0 (by omega)
  show Ev (fun k => corebankref21_Of.l0 k js id 0 0) _
  simpa using h
def upTo (day : Int) (js : List S54) : List S54 := js.filter fun e => decide (e.f1 ≤ day)
theorem upTo_in {day : Int} {x : S54} {xs : List S54} (h : x.f1 ≤ day) : upTo day (x :: xs) = x :: upTo day xs := by simp [upTo, h]
theorem upTo_out {day : Int} {x : S54} {xs : List S54} (h : ¬ x.f1 ≤ day) : upTo day (x :: xs) = upTo day xs := by simp [upTo, h]
theorem before_loop (day : Int) (js : List S54) (hj : small js) : ∀ (c i : Nat) (out : List S54), i + c = js.length → out.length ≤ i → Ev (fun k => corebankref45_before.l0 k js day out (i : Int)) (out ++ upTo day (js.drop i))
  | 0, i, out, h, ho => by
    rw [List.drop_eq_nil_of_le (by omega)]
    refine .step (fun k => by simp only [corebankref45_before.l0]; rw [if_neg (by omega)]) ?_
    simp only [upTo, List.filter_nil, List.append_nil]
    exact .now _
  | c + 1, i, out, h, ho => by
    have hlen := hj.1
    rw [drop54 js i (by omega)]
    generalize hx : rd_T54 js (i : Int) = x
    by_cases g : x.f1 ≤ day
    · have r := before_loop day js hj c (i + 1) (out ++ [x]) (by omega) (by simp; omega)
      refine .step (f := fun k => corebankref45_before.l0 k js day (out ++ [x]) ((i + 1 : Nat) : Int)) (fun k => ?_) ?_
      · simp only [corebankref45_before.l0, hx]
        rw [if_pos (by omega), if_pos (by omega), if_pos g, if_pos (by omega), wrapn (i := (i : Int) + 1) (by omega) (by omega)]; rfl
      · rw [show upTo day (x :: js.drop (i + 1)) = x :: upTo day (js.drop (i + 1)) by simp [upTo, g], show out ++ x :: upTo day (js.drop (i + 1)) = (out ++ [x]) ++ upTo day (js.drop (i + 1)) by simp]
        exact r
    · have r := before_loop day js hj c (i + 1) out (by omega) (by omega)
      refine .step (f := fun k => corebankref45_before.l0 k js day out ((i + 1 : Nat) : Int)) (fun k => ?_) ?_
      · simp only [corebankref45_before.l0, hx]
        rw [if_pos (by omega), if_pos (by omega), if_neg g, wrapn (i := (i : Int) + 1) (by omega) (by omega)]; rfl
      · rw [show upTo day (x :: js.drop (i + 1)) = upTo day (js.drop (i + 1)) by simp [upTo, g]]
        exact r
theorem before_ev (day : Int) (js : List S54) (hj : small js) : Ev (fun k => corebankref45_before.f k js day) (upTo day js) := by
  have h := before_loop day js hj js.length 0 [] (by omega) (by simp)
  show Ev (fun k => corebankref45_before.l0 k js day [] 0) _
  simpa using h
/-! ### lines -/
def lineF (id from_ to_ : Int) : List S54 → List S66
  | [] => []
  | e :: es => if from_ ≤ e.f1 ∧ e.f1 ≤ to_ ∧ hasF id e.f8 = true then ⟨e.f0, e.f1, mvF id e.f8 0, e.f7⟩ :: lineF id from_ to_ es else lineF id from_ to_ es
theorem lineF_len (id a b : Int) : ∀ es, (lineF id a b es).length ≤ es.length
  | [] => Nat.le_refl _
  | e :: es => by
    have := lineF_len id a b es
    simp only [lineF]; split <;> simp only [List.length_cons] <;> omega
/-- What the program's loop comes to, from an entry on. -/
theorem make_loop (id a b q0 q1 q2 q3 : Int) (hab : a ≤ b) (js : List S54) (hj : small js) : ∀ (c i : Nat) (op cl : Int) (ls : List S66), i + c = js.length → ls.length ≤ i →
    Ev (fun k => statement_Make.l0 k id a b js (js.length : Int) (i : Int) q0 q1 q2 q3 op cl ls) (q0, q1, q2, q3, ofF id (upTo (a - 1) (js.drop i)) op, ofF id (upTo b (js.drop i)) cl, ls ++ lineF id a b (js.drop i), 0)
  | 0, i, op, cl, ls, h, ho => by
    rw [List.drop_eq_nil_of_le (by omega)]
    refine .step (fun k => by simp only [statement_Make.l0]; rw [if_neg (by omega)]) ?_
    simp only [upTo, List.filter_nil, lineF, ofF, List.append_nil]
    exact .now _
  | c + 1, i, op, cl, ls, h, ho => by
    have hlen := hj.1
    have hb := hj.at (i := i) (by omega)
    rw [drop54 js i (by omega)]
    generalize hx : rd_T54 js (i : Int) = x at hb ⊢
    have hw : wrap64 ((i : Int) + 1) = ((i + 1 : Nat) : Int) := by rw [wrapn (by omega) (by omega)]; rfl
    refine .step (f := fun k => _) (fun k => by simp only [statement_Make.l0, hx, hw]; rw [if_pos (by omega), if_pos (by omega), if_pos (by omega)]) ?_
    refine .bind (moved_ev x hb id) ?_
    by_cases g1 : x.f1 > b
    · refine Ev.pos g1 ?_
      have r := make_loop id a b q0 q1 q2 q3 hab js hj c (i + 1) op cl ls (by omega) (by omega)
      rw [upTo_out (day := a - 1) (by omega), upTo_out (day := b) (by omega),
        show lineF id a b (x :: js.drop (i + 1)) = lineF id a b (js.drop (i + 1)) by simp only [lineF]; rw [if_neg (by omega)]]
      exact r
    · refine Ev.neg g1 ?_
      have e2 : upTo b (x :: js.drop (i + 1)) = x :: upTo b (js.drop (i + 1)) := upTo_in (by omega)
      by_cases g2 : x.f1 < a
      · refine Ev.pos g2 ?_
        have r := make_loop id a b q0 q1 q2 q3 hab js hj c (i + 1) (wrap64 (op + mvF id x.f8 0)) (wrap64 (cl + mvF id x.f8 0)) ls (by omega) (by omega)
        rw [e2, upTo_in (day := a - 1) (by omega), show lineF id a b (x :: js.drop (i + 1)) = lineF id a b (js.drop (i + 1)) by simp only [lineF]; rw [if_neg (by omega)]]
        exact r
      · refine Ev.neg g2 ?_
        have e1 : upTo (a - 1) (x :: js.drop (i + 1)) = upTo (a - 1) (js.drop (i + 1)) := upTo_out (by omega)
        cases g3 : hasF id x.f8 with
        | true =>
          refine Ev.pos (by simp) (Ev.pos (by omega) ?_)
          have r := make_loop id a b q0 q1 q2 q3 hab js hj c (i + 1) op (wrap64 (cl + mvF id x.f8 0)) (ls ++ [⟨x.f0, x.f1, mvF id x.f8 0, x.f7⟩]) (by omega) (by simp; omega)
          rw [e1, e2, show lineF id a b (x :: js.drop (i + 1)) = ⟨x.f0, x.f1, mvF id x.f8 0, x.f7⟩ :: lineF id a b (js.drop (i + 1)) by simp only [lineF]; rw [if_pos ⟨by omega, by omega, g3⟩]]
          rw [List.append_assoc] at r
          exact r
        | false =>
          refine Ev.neg (by simp) ?_
          have r := make_loop id a b q0 q1 q2 q3 hab js hj c (i + 1) op (wrap64 (cl + mvF id x.f8 0)) ls (by omega) (by omega)
          rw [e1, e2, show lineF id a b (x :: js.drop (i + 1)) = lineF id a b (js.drop (i + 1)) by simp only [lineF]; rw [if_neg (by simp [g3])]]
          exact r
theorem rmake_loop (id a b q0 q1 q2 q3 op cl : Int) (o0 o1 o2 : OV) (p0 p1 p2 p3 p4 p5 p6 p7 p8 p9 p10 p11 p12 p13 : Int) (o3 : OV) (ac : List S57) (o4 o5 : OV) (js : List S54) (hj : small js) : ∀ (c i : Nat) (ls : List S66), i + c = js.length → ls.length ≤ i →
    Ev (fun k => corebankref45_Make.l0 k id a b (i : Int) o0 o1 o2 p0 p1 p2 p3 p4 p5 p6 p7 p8 p9 p10 p11 p12 p13 o3 ac js o4 o5 q0 q1 q2 q3 op cl ls) (q0, q1, q2, q3, op, cl, ls ++ lineF id a b (js.drop i), 0)
  | 0, i, ls, h, ho => by
    rw [List.drop_eq_nil_of_le (by omega)]
    refine .step (fun k => by simp only [corebankref45_Make.l0]; rw [if_neg (by omega)]) ?_
    simp only [lineF, List.append_nil]
    exact .now _
  | c + 1, i, ls, h, ho => by
    have hlen := hj.1
    have hb := hj.at (i := i) (by omega)
    have hw : wrap64 ((i : Int) + 1) = ((i + 1 : Nat) : Int) := by rw [wrapn (by omega) (by omega)]; rfl
    have hone : (js.take (i + 1)).drop i = [rd_T54 js (i : Int)] := by
      rw [List.drop_take, drop54 js i (by omega), show i + 1 - i = 1 by omega]; rfl
    rw [drop54 js i (by omega)]
    generalize hx : rd_T54 js (i : Int) = x at hb hone ⊢
    have skip : ¬ (a ≤ x.f1 ∧ x.f1 ≤ b ∧ hasF id x.f8 = true) → Ev (fun k => corebankref45_Make.l0 k id a b ((i + 1 : Nat) : Int) o0 o1 o2 p0 p1 p2 p3 p4 p5 p6 p7 p8 p9 p10 p11 p12 p13 o3 ac js o4 o5 q0 q1 q2 q3 op cl ls) (q0, q1, q2, q3, op, cl, ls ++ lineF id a b (x :: js.drop (i + 1)), 0) := fun hn => by
      have r := rmake_loop id a b q0 q1 q2 q3 op cl o0 o1 o2 p0 p1 p2 p3 p4 p5 p6 p7 p8 p9 p10 p11 p12 p13 o3 ac o4 o5 js hj c (i + 1) ls (by omega) (by omega)
      rw [show lineF id a b (x :: js.drop (i + 1)) = lineF id a b (js.drop (i + 1)) by simp only [lineF]; rw [if_neg hn]]
      exact r
    refine .step (f := fun k => _) (fun k => by simp only [corebankref45_Make.l0, hx, hw]; rw [if_pos (by omega), if_pos (by omega)]) ?_
    by_cases g1 : x.f1 ≥ a
    · refine Ev.pos g1 ?_
      by_cases g2 : x.f1 ≤ b
      · refine Ev.pos g2 ?_
        refine .bind (moves_ev x hb id) ?_
        cases g3 : hasF id x.f8 with
        | true =>
          refine Ev.pos (by simp) (Ev.pos (by omega) (Ev.pos (by omega) ?_))
          have ho1 := of_ev id [x] ⟨by simp, fun e he => by simp at he; subst he; exact hb⟩
          have hval : ofF id [x] 0 = mvF id x.f8 0 := by
            simp only [ofF, Int.zero_add]
            have := mvF_in id x.f8 0 (by omega)
            exact wrapn this.1 this.2
          rw [hval] at ho1
          simp only [Int.toNat_natCast, hone]
          refine .bind ho1 (Ev.pos (by omega) ?_)
          have r := rmake_loop id a b q0 q1 q2 q3 op cl o0 o1 o2 p0 p1 p2 p3 p4 p5 p6 p7 p8 p9 p10 p11 p12 p13 o3 ac o4 o5 js hj c (i + 1) (ls ++ [⟨x.f0, x.f1, mvF id x.f8 0, x.f7⟩]) (by omega) (by simp; omega)
          rw [show lineF id a b (x :: js.drop (i + 1)) = ⟨x.f0, x.f1, mvF id x.f8 0, x.f7⟩ :: lineF id a b (js.drop (i + 1)) by simp only [lineF]; rw [if_pos ⟨by omega, by omega, g3⟩]]
          rw [List.append_assoc] at r
          exact r
        | false => exact Ev.neg (by simp) (skip (by simp [g3]))
      · exact Ev.neg g2 (skip (by omega))
    · exact Ev.neg g1 (skip (by omega))
/-! ### the account -/
def foundF (id : Int) (ac : List S57) : Bool := ac.any fun x => decide (x.f0 = id)
theorem findI_cases (id : Int) : ∀ (xs : List S57) (i : Int), 0 ≤ i → (findI id xs i = -1 ∧ foundF id xs = false) ∨ (i ≤ findI id xs i ∧ findI id xs i < i + xs.length ∧ foundF id xs = true)
  | [], i, h => .inl ⟨rfl, rfl⟩
  | x :: xs, i, h => by
    simp only [findI, foundF, List.any_cons, List.length_cons]
    by_cases g : x.f0 = id
    · rw [if_pos g]; exact .inr ⟨by omega, by omega, by simp [g]⟩
    · rw [if_neg g]
      rcases findI_cases id xs (i + 1) (by omega) with ⟨h1, h2⟩ | ⟨h1, h2, h3⟩
      · exact .inl ⟨h1, by rw [decide_eq_false g, Bool.false_or]; exact h2⟩
      · exact .inr ⟨by omega, by omega, by rw [decide_eq_false g, Bool.false_or]; exact h3⟩
theorem find_ev (o0 o1 o2 : OV) (p0 p1 p2 p3 p4 p5 p6 p7 p8 p9 p10 p11 p12 p13 : Int) (o3 : OV) (ac : List S57) (js : List S54) (o4 o5 : OV) (id : Int) :
    ∃ t, account_Find.f o0 o1 o2 p0 p1 p2 p3 p4 p5 p6 p7 p8 p9 p10 p11 p12 p13 o3 ac js o4 o5 id = some t ∧ t.2.2.2.2.2.2.2 = foundF id ac := by
  unfold account_Find.f account_index.f
  simp only [Option.bind_some]
  rcases findI_cases id ac 0 (by omega) with ⟨h1, h2⟩ | ⟨h1, h2, h3⟩
  · rw [h1, if_pos (by omega)]; exact ⟨_, rfl, h2.symm⟩
  · rw [if_neg (by omega), if_pos h1, if_pos (by omega)]; exact ⟨_, rfl, h3.symm⟩
theorem rfind_loop (id : Int) (o0 o1 o2 : OV) (p0 p1 p2 p3 p4 p5 p6 p7 p8 p9 p10 p11 p12 p13 : Int) (o3 : OV) (ac : List S57) (js : List S54) (o4 o5 : OV) (hl : ac.length ≤ 9000000000000000000) : ∀ (c i : Nat), i + c = ac.length →
    ∃ t, Ev (fun k => corebankref24_Find.l0 k id (i : Int) o0 o1 o2 p0 p1 p2 p3 p4 p5 p6 p7 p8 p9 p10 p11 p12 p13 o3 ac js o4 o5) t ∧ t.2.2.2.2.2.2.2 = foundF id (ac.drop i)
  | 0, i, h => by
    rw [List.drop_eq_nil_of_le (by omega)]
    exact ⟨_, .step (fun k => by simp only [corebankref24_Find.l0]; rw [if_neg (by omega)]) (.now _), rfl⟩
  | c + 1, i, h => by
    rw [drop57 ac i (by omega)]
    generalize hx : rd_T57 ac (i : Int) = x
    by_cases g : x.f0 = id
    · exact ⟨_, .step (fun k => by simp only [corebankref24_Find.l0, hx]; rw [if_pos (by omega), if_pos (by omega), if_pos g]) (.now _), by simp [foundF, g]⟩
    · obtain ⟨t, h1, h2⟩ := rfind_loop id o0 o1 o2 p0 p1 p2 p3 p4 p5 p6 p7 p8 p9 p10 p11 p12 p13 o3 ac js o4 o5 hl c (i + 1) (by omega)
      refine ⟨t, .step (fun k => by simp only [corebankref24_Find.l0, hx]; rw [if_pos (by omega), if_pos (by omega), if_neg g, wrapn (i := (i : Int) + 1) (by omega) (by omega)]; rfl) h1, ?_⟩
      rw [h2]; simp [foundF, g]
/-- What both come to. -/
def makeV (ac : List S57) (js : List S54) (id no a b : Int) : Int × Int × Int × Int × Int × Int × List S66 × Int :=
  if foundF id ac = true then (if 1 ≤ no ∧ (0 ≤ a ∧ a ≤ 73048) ∧ (0 ≤ b ∧ b ≤ 73048) ∧ a ≤ b then (id, no, a, b, ofF id (upTo (a - 1) js) 0, ofF id (upTo b js) 0, lineF id a b js, 0) else (0, 0, 0, 0, 0, 0, [], 1)) else (0, 0, 0, 0, 0, 0, [], 11)
theorem vday (a : Int) : date_Valid.f a = some (decide (0 ≤ a ∧ a ≤ 73048)) := by
  unfold date_Valid.f
  by_cases h : a ≥ 0
  · rw [if_pos h]; congr 1; simp; omega
  · rw [if_neg h]; congr 1; simp; omega
theorem rvday (a : Int) : corebankref04_Valid.f a = some (decide (0 ≤ a ∧ a ≤ 73048)) := vday a
theorem make_ev (o0 o1 o2 : OV) (p0 p1 p2 p3 p4 p5 p6 p7 p8 p9 p10 p11 p12 p13 : Int) (o3 : OV) (ac : List S57) (js : List S54) (o4 o5 : OV) (id no a b : Int) (hj : small js) :
    Ev (fun k => statement_Make.f k o0 o1 o2 p0 p1 p2 p3 p4 p5 p6 p7 p8 p9 p10 p11 p12 p13 o3 ac js o4 o5 id no a b) (makeV ac js id no a b) := by
  unfold statement_Make.f makeV
  obtain ⟨t, h1, h2⟩ := find_ev o0 o1 o2 p0 p1 p2 p3 p4 p5 p6 p7 p8 p9 p10 p11 p12 p13 o3 ac js o4 o5 id
  simp only [h1, vday, Option.bind_some, h2]
  have hbad : Ev (fun k => statement_Make.j0 k id no a b true o0 o1 o2 p0 p1 p2 p3 p4 p5 p6 p7 p8 p9 p10 p11 p12 p13 o3 ac js o4 o5) (0, 0, 0, 0, 0, 0, [], 1) := .step (fun k => by simp only [statement_Make.j0, if_true]) (.now _)
  cases hf : foundF id ac with
  | false => exact Ev.neg (by simp) (.now _)
  | true =>
    refine Ev.pos rfl ?_
    rw [if_pos rfl]
    by_cases g1 : no < 1
    · rw [if_neg (by omega)]; exact Ev.pos g1 hbad
    · refine Ev.neg g1 ?_
      by_cases g2 : 0 ≤ a ∧ a ≤ 73048
      · refine Ev.pos (decide_eq_true g2) ?_
        by_cases g3 : 0 ≤ b ∧ b ≤ 73048
        · refine Ev.pos (decide_eq_true g3) ?_
          by_cases g4 : a > b
          · rw [if_neg (by omega), decide_eq_true g4]; exact hbad
          · rw [if_pos ⟨by omega, g2, g3, by omega⟩, decide_eq_false g4]
            have r := make_loop id a b id no a b (by omega) js hj js.length 0 0 0 [] (by omega) (by simp)
            rw [List.drop_zero, List.nil_append] at r
            exact .step (fun k => by simp only [statement_Make.j0]; rw [if_neg (by decide)]; rfl) r
        · rw [if_neg (by omega)]; exact Ev.neg (by simpa using g3) hbad
      · rw [if_neg (by omega)]; exact Ev.neg (by simpa using g2) hbad
theorem rmake_ev (o0 o1 o2 : OV) (p0 p1 p2 p3 p4 p5 p6 p7 p8 p9 p10 p11 p12 p13 : Int) (o3 : OV) (ac : List S57) (js : List S54) (o4 o5 : OV) (id no a b : Int) (hj : small js) (hl : ac.length ≤ 9000000000000000000) :
    Ev (fun k => corebankref45_Make.f k o0 o1 o2 p0 p1 p2 p3 p4 p5 p6 p7 p8 p9 p10 p11 p12 p13 o3 ac js o4 o5 id no a b) (makeV ac js id no a b) := by
  unfold corebankref45_Make.f makeV
  obtain ⟨t, h1, h2⟩ := rfind_loop id o0 o1 o2 p0 p1 p2 p3 p4 p5 p6 p7 p8 p9 p10 p11 p12 p13 o3 ac js o4 o5 hl ac.length 0 (by omega)
  rw [List.drop_zero] at h2
  refine .bind h1 ?_
  simp only [rvday, Option.bind_some, h2]
  have hbad : Ev (fun k => corebankref45_Make.j0 k id no a b true o0 o1 o2 p0 p1 p2 p3 p4 p5 p6 p7 p8 p9 p10 p11 p12 p13 o3 ac js o4 o5) (0, 0, 0, 0, 0, 0, [], 1) := .step (fun k => by simp only [corebankref45_Make.j0, if_true]) (.now _)
  cases hf : foundF id ac with
  | false => exact Ev.neg (by simp) (.now _)
  | true =>
    refine Ev.pos rfl ?_
    rw [if_pos rfl]
    by_cases g1 : no < 1
    · rw [if_neg (by omega)]; exact Ev.pos g1 hbad
    · refine Ev.neg g1 ?_
      by_cases g2 : 0 ≤ a ∧ a ≤ 73048
      · refine Ev.pos (decide_eq_true g2) ?_
        by_cases g3 : 0 ≤ b ∧ b ≤ 73048
        · refine Ev.pos (decide_eq_true g3) ?_
          by_cases g4 : a > b
          · rw [if_neg (by omega), decide_eq_true g4]; exact hbad
          · rw [if_pos ⟨by omega, g2, g3, by omega⟩, decide_eq_false g4]
            have hs : ∀ d, small (upTo d js) := fun d => ⟨Nat.le_trans (List.length_filter_le _ _) hj.1, fun e he => hj.2 e (List.mem_filter.1 he).1⟩
            have r := rmake_loop id a b id no a b (ofF id (upTo (a - 1) js) 0) (ofF id (upTo b js) 0) o0 o1 o2 p0 p1 p2 p3 p4 p5 p6 p7 p8 p9 p10 p11 p12 p13 o3 ac o4 o5 js hj js.length 0 [] (by omega) (by simp)
            rw [List.drop_zero, List.nil_append] at r
            refine .step (f := fun k => _) (fun k => by simp only [corebankref45_Make.j0]; rw [if_neg (by decide), wrapn (i := a - 1) (by omega) (by omega)]) ?_
            exact .bind (before_ev (a - 1) js hj) (.bind (of_ev id _ (hs _)) (.bind (before_ev b js hj) (.bind (of_ev id _ (hs _)) r)))
        · rw [if_neg (by omega)]; exact Ev.neg (by simpa using g3) hbad
      · rw [if_neg (by omega)]; exact Ev.neg (by simpa using g2) hbad
/-! ### equal statements -/
theorem same_loop (a0 a1 a2 a3 a4 a5 : Int) (ls : List S66) (hl : ls.length ≤ 9000000000000000000) : ∀ (c i : Nat), i + c = ls.length → Ev (fun k => corebankref45_Same.l0 k (i : Int) a0 a1 a2 a3 a4 a5 ls a0 a1 a2 a3 a4 a5 ls) true
  | 0, i, h => .step (fun k => by simp only [corebankref45_Same.l0]; rw [if_neg (by omega)]) (.now _)
  | c + 1, i, h => by
    have r := same_loop a0 a1 a2 a3 a4 a5 ls hl c (i + 1) (by omega)
    refine .step (fun k => ?_) r
    simp only [corebankref45_Same.l0]
    rw [if_pos (by omega), if_pos (by omega), if_pos (by omega), if_neg (by simp), wrapn (i := (i : Int) + 1) (by omega) (by omega)]
    rfl
theorem same_ev (a0 a1 a2 a3 a4 a5 : Int) (ls : List S66) (hl : ls.length ≤ 9000000000000000000) : Ev (fun k => corebankref45_Same.f k a0 a1 a2 a3 a4 a5 ls a0 a1 a2 a3 a4 a5 ls) true := by
  unfold corebankref45_Same.f
  simp only [if_true, bne_self_eq_false]
  exact .step (fun k => by simp only [corebankref45_Same.j0]; rw [if_neg (by decide)]; rfl) (same_loop a0 a1 a2 a3 a4 a5 ls hl ls.length 0 (by omega))
end Go.Proofs.YtimjodgnlahclaaDoor.G
