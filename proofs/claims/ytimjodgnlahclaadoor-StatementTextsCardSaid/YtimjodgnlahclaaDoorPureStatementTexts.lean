/-
  The text of a statement: the program agrees with the reference, for any statement of at most 80 lines with texts of at most 200 bytes, and any number of places.
-/
import Derived.Test.YtimjodgnlahclaaDoorGx11
import Derived.Test.YtimjodgnlahclaaDoorDm
import Derived.Test.YtimjodgnlahclaaDoorPureStatementChecks
namespace Go.Proofs.YtimjodgnlahclaaDoor.Pure
set_option linter.unusedVariables false
open Go.RowKit Go.Proofs.YtimjodgnlahclaaDoor.G Go.Proofs.YtimjodgnlahclaaDoorW.PrintWords Go.Proofs.YtimjodgnlahclaaDoorW.PrintLast Go.Proofs.YtimjodgnlahclaaDoorW.PrintMore

theorem fmt_size (d : Int) : (fmtV d).size ≤ 10 := by
  unfold fmtV
  split
  · simp only [ByteArray.size_append]; exact (show 4 + 1 + 2 + 1 + 2 ≤ 10 by decide)
  · decide
noncomputable def lineV (d : Int) (x : S66) : ByteArray := fmtV x.f1 ++ ⟨#[32]⟩ ++ (mfV x.f2 d).1 ++ ⟨#[32]⟩ ++ x.f3 ++ ⟨#[10]⟩
noncomputable def linesV (d : Int) : List S66 → ByteArray → ByteArray
  | [], out => out
  | x :: xs, out => linesV d xs (out ++ lineV d x)
def badV (d : Int) (xs : List S66) : Bool := xs.any fun x => (mfV x.f2 d).2 != 0
theorem line_size (d : Int) (x : S66) (h : x.f3.size ≤ 200) : (lineV d x).size ≤ 240 := by
  have h1 := fmt_size x.f1
  have h2 := mf_size x.f2 d
  unfold lineV
  simp only [ByteArray.size_append]
  have : (⟨#[32]⟩ : ByteArray).size = 1 := rfl
  have : (⟨#[10]⟩ : ByteArray).size = 1 := rfl
  omega
theorem lines_size (d : Int) : ∀ (xs : List S66) (out : ByteArray), (∀ x ∈ xs, x.f3.size ≤ 200) → (linesV d xs out).size ≤ out.size + 240 * xs.length
  | [], out, _ => by simp [linesV]
  | x :: xs, out, h => by
    have h1 := line_size d x (h x (by simp))
    have h2 := lines_size d xs (out ++ lineV d x) (fun y hy => h y (by simp [hy]))
    rw [ByteArray.size_append] at h2
    simp only [linesV, List.length_cons]
    omega
/-- Words put into a line. -/
theorem lineOf3 (a b c : ByteArray) : lineOf [a, b, c] = (a ++ ⟨#[32]⟩ ++ b ++ ⟨#[32]⟩ ++ c ++ ⟨#[10]⟩).data.toList := by
  simp [lineOf, Lib.join]
theorem lineOf2 (a b : ByteArray) : lineOf [a, b] = (a ++ ⟨#[32]⟩ ++ b ++ ⟨#[10]⟩).data.toList := by
  simp [lineOf, Lib.join]
theorem lineOf4 (a b c e : ByteArray) : lineOf [a, b, c, e] = (a ++ ⟨#[32]⟩ ++ b ++ ⟨#[32]⟩ ++ c ++ ⟨#[32]⟩ ++ e ++ ⟨#[10]⟩).data.toList := by
  simp [lineOf, Lib.join]
theorem putO_eq (out x : ByteArray) (xs : List ByteArray) (e : lineOf xs = x.data.toList) (h : out.size + x.size ≤ 140737488355328) : putO out.data.toList xs = some (out ++ x).data.toList := by
  unfold putO
  rw [e, if_pos (by simp only [Array.length_toList]; exact h)]
  simp
theorem lines_ev (d : Int) : ∀ (xs : List S66) (out : ByteArray) (v : Bool), (∀ x ∈ xs, x.f3.size ≤ 200) → out.size + 240 * xs.length ≤ 1000000 → Ev (fun k => linesF k d xs out.data.toList v) ((linesV d xs out).data.toList, v || badV d xs)
  | [], out, v, _, _ => by simp only [linesF, linesV, badV, List.any_nil, Bool.or_false]; exact .now _
  | x :: xs, out, v, h, hs => by
    have h1 := line_size d x (h x (by simp))
    simp only [List.length_cons] at hs
    have e := lines_ev d xs (out ++ lineV d x) (v || ((mfV x.f2 d).2 != 0)) (fun y hy => h y (by simp [hy])) (by rw [ByteArray.size_append]; omega)
    have hp := putO_eq out (lineV d x) [fmtV x.f1, (mfV x.f2 d).1, x.f3] (lineOf3 _ _ _) (by omega)
    simp only [linesF]
    refine .bind (format_ev x.f1) (.bind (money_ev x.f2 d) ?_)
    simp only [hp, Option.bind_some]
    rw [show (linesV d (x :: xs) out) = linesV d xs (out ++ lineV d x) from rfl, show badV d (x :: xs) = (((mfV x.f2 d).2 != 0) || badV d xs) from by simp [badV], ← Bool.or_assoc]
    exact e
noncomputable def headV (a0 a1 a2 a3 a4 d : Int) : ByteArray :=
  ((⟨#[115, 116, 97, 116, 101, 109, 101, 110, 116]⟩ : ByteArray) ++ ⟨#[32]⟩ ++ num a1.toNat ++ ⟨#[32]⟩ ++ ⟨#[97, 99, 99, 111, 117, 110, 116]⟩ ++ ⟨#[32]⟩ ++ num a0.toNat ++ ⟨#[10]⟩) ++ (fmtV a2 ++ ⟨#[32]⟩ ++ ⟨#[116, 111]⟩ ++ ⟨#[32]⟩ ++ fmtV a3 ++ ⟨#[10]⟩) ++ ((⟨#[111, 112, 101, 110, 105, 110, 103]⟩ : ByteArray) ++ ⟨#[32]⟩ ++ (mfV a4 d).1 ++ ⟨#[10]⟩)
noncomputable def endV (a5 d : Int) : ByteArray := (⟨#[99, 108, 111, 115, 105, 110, 103]⟩ : ByteArray) ++ ⟨#[32]⟩ ++ (mfV a5 d).1 ++ ⟨#[10]⟩
/-- What both texts come to behind a statement that is accepted. -/
noncomputable def textV (a0 a1 a2 a3 a4 a5 d : Int) (ls : List S66) : ByteArray × Int :=
  if (mfV a4 d).2 = 0 ∧ badV d ls = false ∧ (mfV a5 d).2 = 0 then (linesV d ls (headV a0 a1 a2 a3 a4 d) ++ endV a5 d, 0) else (⟨#[]⟩, 1)
theorem mf_cases (a d : Int) : (mfV a d).2 = 0 ∨ (mfV a d).2 = 1 := by unfold mfV; split <;> simp
theorem mf_bad {a d : Int} (h : ¬ (mfV a d).2 = 0) : mfV a d = (⟨#[]⟩, 1) := by
  unfold mfV at h ⊢; split at h
  · exact absurd rfl h
  · rename_i g; rw [if_neg g]
theorem mf_range {a d : Int} (h : ¬ (0 ≤ d ∧ d ≤ 4)) : mfV a d = (⟨#[]⟩, 1) := if_neg (fun g => h g.2)
theorem num_wide {n : Nat} (h : n ≤ 9223372036854775807) : (num n).size ≤ 21 := by
  have := txt_size (n : Int) (by omega) (by omega)
  rw [txt_num (by omega)] at this
  exact this
/-! ### the program -/
theorem text_ev (a0 a1 a2 a3 a4 a5 d : Int) (ls : List S66) (h0 : 0 ≤ a0 ∧ a0 ≤ 9223372036854775807) (h1 : 0 ≤ a1 ∧ a1 ≤ 9223372036854775807) (hl : ls.length ≤ 80) (ht : ∀ x ∈ ls, x.f3.size ≤ 200) (hc : Ev (fun k => statement_Check.f k a0 a1 a2 a3 a4 a5 ls) 0) :
    Ev (fun k => statement_Text.f k a0 a1 a2 a3 a4 a5 ls d) (textV a0 a1 a2 a3 a4 a5 d ls) := by
  unfold statement_Text.f
  refine .bind hc (Ev.neg (by simp) ?_)
  by_cases hd : 0 ≤ d ∧ d ≤ 4
  · refine Ev.neg (by omega) (Ev.neg (by omega) ?_)
    have i1 := itoa_num a1.toNat (by omega)
    have i0 := itoa_num a0.toNat (by omega)
    rw [show ((a1.toNat : Nat) : Int) = a1 by omega] at i1
    rw [show ((a0.toNat : Nat) : Int) = a0 by omega] at i0
    have s1 := num_wide (n := a1.toNat) (by omega)
    have s0 := num_wide (n := a0.toNat) (by omega)
    have f2 := fmt_size a2
    have f3 := fmt_size a3
    have m4 := mf_size a4 d
    have m5 := mf_size a5 d
    have c1 : (⟨#[32]⟩ : ByteArray).size = 1 := rfl
    have c2 : (⟨#[10]⟩ : ByteArray).size = 1 := rfl
    have c3 : (⟨#[115, 116, 97, 116, 101, 109, 101, 110, 116]⟩ : ByteArray).size = 9 := rfl
    have c4 : (⟨#[97, 99, 99, 111, 117, 110, 116]⟩ : ByteArray).size = 7 := rfl
    have c5 : (⟨#[116, 111]⟩ : ByteArray).size = 2 := rfl
    have c6 : (⟨#[111, 112, 101, 110, 105, 110, 103]⟩ : ByteArray).size = 7 := rfl
    have c7 : (⟨#[99, 108, 111, 115, 105, 110, 103]⟩ : ByteArray).size = 7 := rfl
    have p1 := putO_eq ⟨#[]⟩ _ _ (lineOf4 ⟨#[115, 116, 97, 116, 101, 109, 101, 110, 116]⟩ (num a1.toNat) ⟨#[97, 99, 99, 111, 117, 110, 116]⟩ (num a0.toNat)) (by simp only [ByteArray.size_append, c1, c2, c3, c4]; have : (⟨#[]⟩ : ByteArray).size = 0 := rfl; omega)
    rw [app_nil] at p1
    replace p1 : putO [] _ = _ := p1
    simp only [i1, i0, Option.bind_some, p1]
    refine .bind (format_ev a2) (.bind (format_ev a3) ?_)
    have p2 := putO_eq (⟨#[115, 116, 97, 116, 101, 109, 101, 110, 116]⟩ ++ ⟨#[32]⟩ ++ num a1.toNat ++ ⟨#[32]⟩ ++ ⟨#[97, 99, 99, 111, 117, 110, 116]⟩ ++ ⟨#[32]⟩ ++ num a0.toNat ++ ⟨#[10]⟩) _ _ (lineOf3 (fmtV a2) ⟨#[116, 111]⟩ (fmtV a3)) (by simp only [ByteArray.size_append, c1, c2, c3, c4, c5]; omega)
    simp only [p2, Option.bind_some]
    refine .bind (money_ev a4 d) ?_
    have p3 := putO_eq (⟨#[115, 116, 97, 116, 101, 109, 101, 110, 116]⟩ ++ ⟨#[32]⟩ ++ num a1.toNat ++ ⟨#[32]⟩ ++ ⟨#[97, 99, 99, 111, 117, 110, 116]⟩ ++ ⟨#[32]⟩ ++ num a0.toNat ++ ⟨#[10]⟩ ++ (fmtV a2 ++ ⟨#[32]⟩ ++ ⟨#[116, 111]⟩ ++ ⟨#[32]⟩ ++ fmtV a3 ++ ⟨#[10]⟩)) _ _ (lineOf2 ⟨#[111, 112, 101, 110, 105, 110, 103]⟩ (mfV a4 d).1) (by simp only [ByteArray.size_append, c1, c2, c3, c4, c5, c6]; omega)
    simp only [p3, Option.bind_some]
    have hh : (headV a0 a1 a2 a3 a4 d).size ≤ 200 := by unfold headV; simp only [ByteArray.size_append, c1, c2, c3, c4, c5, c6]; omega
    refine .bind (lines_ev d ls (headV a0 a1 a2 a3 a4 d) ((mfV a4 d).2 != 0) ht (by omega)) ?_
    refine .bind (money_ev a5 d) ?_
    have hL := lines_size d ls (headV a0 a1 a2 a3 a4 d) ht
    have p4 := putO_eq (linesV d ls (headV a0 a1 a2 a3 a4 d)) _ _ (lineOf2 ⟨#[99, 108, 111, 115, 105, 110, 103]⟩ (mfV a5 d).1) (by simp only [ByteArray.size_append, c1, c2, c7]; omega)
    simp only [p4, Option.bind_some]
    by_cases g : (mfV a4 d).2 = 0 ∧ badV d ls = false ∧ (mfV a5 d).2 = 0
    · obtain ⟨g1, g2, g3⟩ := g
      rw [show textV a0 a1 a2 a3 a4 a5 d ls = (linesV d ls (headV a0 a1 a2 a3 a4 d) ++ endV a5 d, 0) from if_pos ⟨g1, g2, g3⟩]
      refine Ev.neg (by simp [g1, g2, g3]) ?_
      exact .now _
    · rw [show textV a0 a1 a2 a3 a4 a5 d ls = (⟨#[]⟩, 1) from if_neg g]
      refine Ev.pos ?_ (.now _)
      simp only [Bool.or_eq_true, bne_iff_ne]
      by_cases g1 : (mfV a4 d).2 = 0
      · by_cases g2 : badV d ls = false
        · exact .inr (fun g3 => g ⟨g1, g2, g3⟩)
        · exact .inl (.inr (by simpa using g2))
      · exact .inl (.inl g1)
  · have hv : textV a0 a1 a2 a3 a4 a5 d ls = (⟨#[]⟩, 1) := if_neg (fun g => by rw [mf_range hd] at g; exact absurd g.1 (by decide))
    rw [hv]
    by_cases h2 : d < 0
    · exact Ev.pos h2 (.now _)
    · exact Ev.neg h2 (Ev.pos (by omega) (.now _))
/-! ### the reference -/
theorem rlines_ev (d a0 a1 a2 a3 a4 a5 : Int) (ls : List S66) (hl : ls.length ≤ 80) (ht : ∀ x ∈ ls, x.f3.size ≤ 200) : ∀ (c i : Nat) (out : ByteArray), i + c = ls.length → out.size + 240 * c ≤ 100000 →
    Ev (fun k => corebankref45_Text.l0 k d out (i : Int) a0 a1 a2 a3 a4 a5 ls) (if badV d (ls.drop i) = false ∧ (mfV a5 d).2 = 0 then (linesV d (ls.drop i) out ++ endV a5 d, 0) else (⟨#[]⟩, 1))
  | 0, i, out, h, hs => by
    have m5 := mf_size a5 d
    have hd : ls.drop i = [] := List.drop_eq_nil_of_le (by omega)
    rw [hd]
    refine .step (f := fun k => _) (fun k => by simp only [corebankref45_Text.l0]; rw [if_neg (by omega)]) ?_
    refine .bind (rmoney_ev a5 d) ?_
    by_cases g : (mfV a5 d).2 = 0
    · refine Ev.pos g ?_
      have c8 : (⟨#[99, 108, 111, 115, 105, 110, 103, 32]⟩ : ByteArray).size = 8 := rfl
      refine Ev.pos (by omega) (Ev.pos (by rw [ByteArray.size_append, c8]; omega) (Ev.pos (by rw [ByteArray.size_append, ByteArray.size_append, c8]; omega) ?_))
      rw [if_pos ⟨rfl, g⟩]
      have e : out ++ ⟨#[99, 108, 111, 115, 105, 110, 103, 32]⟩ ++ (mfV a5 d).1 ++ ⟨#[10]⟩ = linesV d [] out ++ endV a5 d := by
        unfold endV linesV
        apply ByteArray.ext
        apply Array.toList_inj.1
        simp
      rw [e]
      exact .now _
    · refine Ev.neg g ?_
      rw [if_neg (fun h => g h.2), mf_bad g]
      exact .now _
  | c + 1, i, out, h, hs => by
    have hlt : i < ls.length := by omega
    rw [drop_at66 ls i hlt]
    generalize hx : rd_T66 ls (i : Int) = x
    have hm : x ∈ ls := by
      have : x ∈ ls.drop i := by rw [drop_at66 ls i hlt, hx]; simp
      exact List.mem_of_mem_drop this
    have htx := ht x hm
    have hline := line_size d x htx
    have f1 := fmt_size x.f1
    have m2 := mf_size x.f2 d
    have c1 : (⟨#[32]⟩ : ByteArray).size = 1 := rfl
    refine .step (f := fun k => _) (fun k => by simp only [corebankref45_Text.l0]; rw [if_pos (by omega), if_pos (by omega), hx]) ?_
    refine .bind (rmoney_ev x.f2 d) ?_
    by_cases g : (mfV x.f2 d).2 = 0
    · refine Ev.pos g ?_
      refine .bind (rformat_ev x.f1) ?_
      refine Ev.pos (by omega) (Ev.pos (by rw [ByteArray.size_append]; omega) (Ev.pos (by simp only [ByteArray.size_append, c1]; omega) (Ev.pos (by simp only [ByteArray.size_append, c1]; omega) (Ev.pos (by simp only [ByteArray.size_append, c1]; omega) (Ev.pos (by simp only [ByteArray.size_append, c1]; omega) ?_)))))
      have e : out ++ fmtV x.f1 ++ ⟨#[32]⟩ ++ (mfV x.f2 d).1 ++ ⟨#[32]⟩ ++ x.f3 ++ ⟨#[10]⟩ = out ++ lineV d x := by
        unfold lineV; simp only [ba_assoc]
      rw [e, wrapn (i := (i : Int) + 1) (by omega) (by omega)]
      have r := rlines_ev d a0 a1 a2 a3 a4 a5 ls hl ht c (i + 1) (out ++ lineV d x) (by omega) (by rw [ByteArray.size_append]; omega)
      have hb : badV d (x :: ls.drop (i + 1)) = badV d (ls.drop (i + 1)) := by simp [badV, g]
      rw [hb]
      exact r
    · refine Ev.neg g ?_
      have hb : badV d (x :: ls.drop (i + 1)) = true := by simp [badV, g]
      rw [if_neg (fun h => by rw [hb] at h; exact absurd h.1 (by decide)), mf_bad g]
      exact .now _
theorem rtext_ev (a0 a1 a2 a3 a4 a5 d : Int) (ls : List S66) (h0 : 0 ≤ a0 ∧ a0 ≤ 9223372036854775807) (h1 : 0 ≤ a1 ∧ a1 ≤ 9223372036854775807) (hl : ls.length ≤ 80) (ht : ∀ x ∈ ls, x.f3.size ≤ 200) (hc : Ev (fun k => corebankref45_Check.f k a0 a1 a2 a3 a4 a5 ls) 0) :
    Ev (fun k => corebankref45_Text.f k a0 a1 a2 a3 a4 a5 ls d) (textV a0 a1 a2 a3 a4 a5 d ls) := by
  unfold corebankref45_Text.f
  refine .bind hc (Ev.pos rfl ?_)
  refine .bind (rmoney_ev a4 d) ?_
  by_cases g : (mfV a4 d).2 = 0
  · refine Ev.pos g ?_
    have i1 := rdig12_ev a1.toNat (by omega)
    have i0 := rdig12_ev a0.toNat (by omega)
    rw [show ((a1.toNat : Nat) : Int) = a1 by omega] at i1
    rw [show ((a0.toNat : Nat) : Int) = a0 by omega] at i0
    have s1 := num_wide (n := a1.toNat) (by omega)
    have s0 := num_wide (n := a0.toNat) (by omega)
    have f2 := fmt_size a2
    have f3 := fmt_size a3
    have m4 := mf_size a4 d
    have d1 : (⟨#[115, 116, 97, 116, 101, 109, 101, 110, 116, 32]⟩ : ByteArray).size = 10 := rfl
    have d2 : (⟨#[32, 97, 99, 99, 111, 117, 110, 116, 32]⟩ : ByteArray).size = 9 := rfl
    have d3 : (⟨#[10]⟩ : ByteArray).size = 1 := rfl
    have d4 : (⟨#[32, 116, 111, 32]⟩ : ByteArray).size = 4 := rfl
    have d5 : (⟨#[10, 111, 112, 101, 110, 105, 110, 103, 32]⟩ : ByteArray).size = 9 := rfl
    refine .bind i1 (Ev.pos (by omega) (Ev.pos (by simp only [ByteArray.size_append, d1]; omega) ?_))
    refine .bind i0 (Ev.pos (by simp only [ByteArray.size_append, d1, d2]; omega) (Ev.pos (by simp only [ByteArray.size_append, d1, d2]; omega) ?_))
    refine .bind (rformat_ev a2) (Ev.pos (by simp only [ByteArray.size_append, d1, d2, d3]; omega) (Ev.pos (by simp only [ByteArray.size_append, d1, d2, d3]; omega) ?_))
    refine .bind (rformat_ev a3) (Ev.pos (by simp only [ByteArray.size_append, d1, d2, d3, d4]; omega) (Ev.pos (by simp only [ByteArray.size_append, d1, d2, d3, d4]; omega) ?_))
    refine Ev.pos (by simp only [ByteArray.size_append, d1, d2, d3, d4, d5]; omega) (Ev.pos (by simp only [ByteArray.size_append, d1, d2, d3, d4, d5]; omega) ?_)
    have e : ((((((((((⟨#[115, 116, 97, 116, 101, 109, 101, 110, 116, 32]⟩ : ByteArray) ++ num a1.toNat) ++ ⟨#[32, 97, 99, 99, 111, 117, 110, 116, 32]⟩) ++ num a0.toNat) ++ ⟨#[10]⟩) ++ fmtV a2) ++ ⟨#[32, 116, 111, 32]⟩) ++ fmtV a3) ++ ⟨#[10, 111, 112, 101, 110, 105, 110, 103, 32]⟩) ++ (mfV a4 d).1) ++ ⟨#[10]⟩ = headV a0 a1 a2 a3 a4 d := by
      unfold headV
      apply ByteArray.ext
      apply Array.toList_inj.1
      simp
    rw [e]
    have hh : (headV a0 a1 a2 a3 a4 d).size ≤ 200 := by rw [← e]; simp only [ByteArray.size_append, d1, d2, d3, d4, d5]; omega
    have r := rlines_ev d a0 a1 a2 a3 a4 a5 ls hl ht ls.length 0 (headV a0 a1 a2 a3 a4 d) (by omega) (by omega)
    rw [List.drop_zero] at r
    have hv : textV a0 a1 a2 a3 a4 a5 d ls = (if badV d ls = false ∧ (mfV a5 d).2 = 0 then (linesV d ls (headV a0 a1 a2 a3 a4 d) ++ endV a5 d, 0) else (⟨#[]⟩, 1)) := by
      unfold textV
      by_cases g2 : badV d ls = false ∧ (mfV a5 d).2 = 0
      · rw [if_pos g2, if_pos ⟨g, g2⟩]
      · rw [if_neg g2, if_neg (fun h => g2 h.2)]
    rw [hv]
    exact r
  · refine Ev.neg g ?_
    rw [show textV a0 a1 a2 a3 a4 a5 d ls = (⟨#[]⟩, 1) from if_neg (fun h => g h.1), mf_bad g]
    exact .now _
/-! ### the law -/
theorem ev_one {α : Type} {g : Nat → Option α} {r q : α} (h : Ev g r) (k : Ev g q) : r = q := by
  obtain ⟨K, h⟩ := h
  obtain ⟨K', k⟩ := k
  exact Option.some.inj ((h (max K K') (by omega)).symm.trans (k (max K K') (by omega)))
theorem check_small (a0 a1 a2 a3 a4 a5 : Int) (ls : List S66) (h : a0 < 1000 ∨ a1 < 1) : Ev (fun k => corebankref45_Check.f k a0 a1 a2 a3 a4 a5 ls) 1 := by
  have hb : Ev (fun k => corebankref45_Check.j0 k true a0 a1 a2 a3 a4 a5 ls) 1 := .step (fun k => by simp only [corebankref45_Check.j0, if_true]) (.now 1)
  unfold corebankref45_Check.f
  by_cases h0 : a0 < 1000
  · exact Ev.pos h0 hb
  · exact Ev.neg h0 (Ev.pos (by omega) hb)
theorem short_true (ls : List S66) (hl : ls.length * 40 ≤ 140737488351232) (a0 a1 a2 a3 a4 a5 : Int) (h : Ev (fun k => corebanklaw45_short.f k a0 a1 a2 a3 a4 a5 ls) true) : ls.length ≤ 80 ∧ ∀ x ∈ ls, x.f3.size ≤ 200 := by
  unfold corebanklaw45_short.f at h
  by_cases g : (ls.length : Int) > 80
  · have h2 : Ev (fun _ : Nat => some false) true := .congr (fun k => (if_pos g).symm) h
    exact absurd (ev_one h2 (.now false)) (by decide)
  · have h2 : Ev (fun k => corebanklaw45_short.l0 k 0 a0 a1 a2 a3 a4 a5 ls) true := .congr (fun k => (if_neg g).symm) h
    refine ⟨by omega, ?_⟩
    have key : ∀ (c i : Nat), i + c = ls.length → Ev (fun k => corebanklaw45_short.l0 k (i : Int) a0 a1 a2 a3 a4 a5 ls) true → ∀ x ∈ ls.drop i, x.f3.size ≤ 200 := by
      intro c
      induction c with
      | zero => intro i hi _ x hx; rw [List.drop_eq_nil_of_le (by omega)] at hx; cases hx
      | succ c ih =>
        intro i hi he x hx
        have hlt : i < ls.length := by omega
        by_cases h3 : ((rd_T66 ls (i : Int)).f3.size : Int) > 200
        · have : Ev (fun k => corebanklaw45_short.l0 k (i : Int) a0 a1 a2 a3 a4 a5 ls) false := .step (fun k => by simp only [corebanklaw45_short.l0]; rw [if_pos (by omega), if_pos (by omega), if_pos h3]) (.now false)
          exact absurd (ev_one he this) (by decide)
        · have he2 : Ev (fun k => corebanklaw45_short.l0 k ((i + 1 : Nat) : Int) a0 a1 a2 a3 a4 a5 ls) true := by
            obtain ⟨K, he⟩ := he
            refine ⟨K, fun k hk => ?_⟩
            have := he (k + 1) (by omega)
            simp only [corebanklaw45_short.l0] at this
            rw [if_pos (by omega), if_pos (by omega), if_neg h3, wrapn (i := (i : Int) + 1) (by omega) (by omega)] at this
            exact this
          rw [drop_at66 ls i hlt] at hx
          rcases List.mem_cons.1 hx with rfl | hx
          · omega
          · exact ih (i + 1) (by omega) he2 x hx
    intro x hx
    exact key ls.length 0 (by omega) h2 x (by simpa using hx)
def corebanklaw45_StatementTexts.Good : Prop := ∀ (x0 : S40) (x1 : Int), ok40 x0 → (Lit.int .i64 x1).wf = true → ∃ k, corebanklaw45_StatementTexts.f k x0.f0 x0.f1 x0.f2 x0.f3 x0.f4 x0.f5 x0.f6 x1 = some true
theorem StatementTexts : corebanklaw45_StatementTexts.Good := by
  rintro ⟨a0, a1, a2, a3, a4, a5, l⟩ d ⟨h0, h1, h2, h3, h4, h5, h6, h7⟩ _
  simp only at h0 h1 h2 h3 h4 h5 h6
  refine Ev.rounds (g := fun k => corebanklaw45_StatementTexts.f k a0 a1 a2 a3 a4 a5 l d) ?_
  unfold corebanklaw45_StatementTexts.f
  have hlive : Ev (fun _ : Nat => (corebanklaw45_Lives.f).bind fun t => some t) true := .now true
  obtain ⟨b, hb⟩ := short_ev l h6 a0 a1 a2 a3 a4 a5
  refine .bind hb ?_
  cases b with
  | false => exact Ev.neg (by decide) hlive
  | true =>
    refine Ev.pos rfl ?_
    obtain ⟨hl, ht⟩ := short_true l h6 a0 a1 a2 a3 a4 a5 hb
    obtain ⟨r, e1, e2⟩ := check_ev l h6 a0 a1 a2 a3 a4 a5
    have done : ∀ t : ByteArray × Int, Ev (fun k => statement_Text.f k a0 a1 a2 a3 a4 a5 l d) t → Ev (fun k => corebankref45_Text.f k a0 a1 a2 a3 a4 a5 l d) t →
        Ev (fun k => (statement_Text.f k a0 a1 a2 a3 a4 a5 l d).bind fun p => (corebankref45_Text.f k a0 a1 a2 a3 a4 a5 l d).bind fun q => if p.1.toList = q.1.toList then (if p.2 = q.2 then (corebanklaw45_Lives.f).bind fun t => some t else some false) else some false) true :=
      fun t h1 h2 => .bind h1 (.bind h2 (Ev.pos rfl (Ev.pos rfl hlive)))
    by_cases hr : r = 0
    · subst hr
      have g0 : 1000 ≤ a0 := by
        rcases Int.lt_or_le a0 1000 with g | g
        · exact absurd (ev_one e2 (check_small a0 a1 a2 a3 a4 a5 l (.inl g))) (by decide)
        · exact g
      have g1 : 1 ≤ a1 := by
        rcases Int.lt_or_le a1 1 with g | g
        · exact absurd (ev_one e2 (check_small a0 a1 a2 a3 a4 a5 l (.inr g))) (by decide)
        · exact g
      have w0 := wf64 h0
      have w1 := wf64 h1
      exact done _ (text_ev a0 a1 a2 a3 a4 a5 d l ⟨by omega, w0.2⟩ ⟨by omega, w1.2⟩ hl ht e1) (rtext_ev a0 a1 a2 a3 a4 a5 d l ⟨by omega, w0.2⟩ ⟨by omega, w1.2⟩ hl ht e2)
    · refine done (⟨#[]⟩, r) ?_ ?_
      · unfold statement_Text.f
        exact .bind e1 (Ev.pos hr (.now _))
      · unfold corebankref45_Text.f
        exact .bind e2 (Ev.neg hr (.now _))
end Go.Proofs.YtimjodgnlahclaaDoor.Pure
