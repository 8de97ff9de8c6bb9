/- What functions of the program compute, as Lean functions, each with the walk that proves it, for every argument at which the Lean function answers. Written by gprint.py, a program of this session that drives the print of the kit; checked by Lean alone. -/
import Derived.Test.YtimjodgnlahclaaDoorGx0
import Derived.Test.YtimjodgnlahclaaDoorGx2
import Derived.Test.YtimjodgnlahclaaDoorGx3
namespace Go.Proofs.YtimjodgnlahclaaDoor.G
open Go.RowKit Go.Proofs.YtimjodgnlahclaaDoorW.PrintWords Go.Proofs.YtimjodgnlahclaaDoorW.PrintLast Go.Proofs.YtimjodgnlahclaaDoorW.PrintMore
attribute [local go_sem] max2_int min2_int max_two min_two max_three min_three max_four min_four   -- for this text's walks alone
set_option linter.unusedVariables false
set_option linter.unusedSimpArgs false

/-! ### statement_Make: function 10 -/
mutual
def statement_Make.j0 : Nat → Int → Int → Int → Int → Bool → OV → OV → OV → Int → Int → Int → Int → Int → Int → Int → Int → Int → Int → Int → Int → Int → Int → OV → List (S57) → List (S54) → OV → OV → Option (Int × Int × Int × Int × Int × Int × (List (S66)) × Int)
 | 0, _, _, _, _, _, _, _, _, _, _, _, _, _, _, _, _, _, _, _, _, _, _, _, _, _, _, _ => none
 | k + 1, x1, x2, x3, x4, x44, x132000, x132001, x132002, x132003, x132004, x132005, x132006, x132007, x132008, x132009, x132010, x132011, x132012, x132013, x132014, x132015, x132016, x132017, x132018, x132019, x132020, x132021 => if x44 = true then (some (0, 0, 0, 0, 0, 0, ([] : List (S66)), 1)) else (statement_Make.l0 k x1 x3 x4 x132019 (x132019.length : Int) 0 x1 x2 x3 x4 0 0 ([] : List (S66)))
def statement_Make.l0 : Nat → Int → Int → Int → List (S54) → Int → Int → Int → Int → Int → Int → Int → Int → List (S66) → Option (Int × Int × Int × Int × Int × Int × (List (S66)) × Int)
 | 0, _, _, _, _, _, _, _, _, _, _, _, _, _ => none
 | k + 1, x1, x3, x4, x52, x53, x54, x145000, x145001, x145002, x145003, x145004, x145005, x145006 => if x54 < x53 then (if 0 ≤ x54 then (if x54 < (x52.length : Int) then ((statement_moved.f k ((rd_T54 x52 x54).f0) ((rd_T54 x52 x54).f1) ((rd_T54 x52 x54).f2) ((rd_T54 x52 x54).f3) ((rd_T54 x52 x54).f4) ((rd_T54 x52 x54).f5) ((rd_T54 x52 x54).f6) ((rd_T54 x52 x54).f7) ((rd_T54 x52 x54).f8) ((rd_T54 x52 x54).f9) x1).bind fun bt147 => (if ((rd_T54 x52 x54).f1) > x4 then (statement_Make.l0 k x1 x3 x4 x52 x53 (wrap64 (x54 + 1)) x145000 x145001 x145002 x145003 x145004 x145005 x145006) else (if ((rd_T54 x52 x54).f1) < x3 then (statement_Make.l0 k x1 x3 x4 x52 x53 (wrap64 (x54 + 1)) x145000 x145001 x145002 x145003 (wrap64 (x145004 + bt147.1)) (wrap64 (x145005 + bt147.1)) x145006) else (if bt147.2 = true then (if x145006.length < 3518437208883 then (statement_Make.l0 k x1 x3 x4 x52 x53 (wrap64 (x54 + 1)) x145000 x145001 x145002 x145003 x145004 (wrap64 (x145005 + bt147.1)) (x145006 ++ [(⟨(rd_T54 x52 x54).f0, (rd_T54 x52 x54).f1, bt147.1, (rd_T54 x52 x54).f7⟩ : S66)])) else (none)) else (statement_Make.l0 k x1 x3 x4 x52 x53 (wrap64 (x54 + 1)) x145000 x145001 x145002 x145003 x145004 (wrap64 (x145005 + bt147.1)) x145006))))) else (none)) else (none)) else (some (x145000, x145001, x145002, x145003, x145004, x145005, x145006, 0))
end
def statement_Make.f (k : Nat) (a0_0 : OV) (a0_1 : OV) (a0_2 : OV) (a0_3 : Int) (a0_4 : Int) (a0_5 : Int) (a0_6 : Int) (a0_7 : Int) (a0_8 : Int) (a0_9 : Int) (a0_10 : Int) (a0_11 : Int) (a0_12 : Int) (a0_13 : Int) (a0_14 : Int) (a0_15 : Int) (a0_16 : Int) (a0_17 : OV) (l0_18 : List (S57)) (l0_19 : List (S54)) (a0_20 : OV) (a0_21 : OV) (a1 : Int) (a2 : Int) (a3 : Int) (a4 : Int) : Option (Int × Int × Int × Int × Int × Int × (List (S66)) × Int) := (account_Find.f a0_0 a0_1 a0_2 a0_3 a0_4 a0_5 a0_6 a0_7 a0_8 a0_9 a0_10 a0_11 a0_12 a0_13 a0_14 a0_15 a0_16 a0_17 l0_18 l0_19 a0_20 a0_21 a1).bind fun bt133 => (if bt133.2.2.2.2.2.2.2 = true then (if a2 < 1 then (statement_Make.j0 k a1 a2 a3 a4 true a0_0 a0_1 a0_2 a0_3 a0_4 a0_5 a0_6 a0_7 a0_8 a0_9 a0_10 a0_11 a0_12 a0_13 a0_14 a0_15 a0_16 a0_17 l0_18 l0_19 a0_20 a0_21) else ((date_Valid.f a3).bind fun t142 => (if t142 = true then ((date_Valid.f a4).bind fun t143 => (if t143 = true then (statement_Make.j0 k a1 a2 a3 a4 (decide (a3 > a4)) a0_0 a0_1 a0_2 a0_3 a0_4 a0_5 a0_6 a0_7 a0_8 a0_9 a0_10 a0_11 a0_12 a0_13 a0_14 a0_15 a0_16 a0_17 l0_18 l0_19 a0_20 a0_21) else (statement_Make.j0 k a1 a2 a3 a4 true a0_0 a0_1 a0_2 a0_3 a0_4 a0_5 a0_6 a0_7 a0_8 a0_9 a0_10 a0_11 a0_12 a0_13 a0_14 a0_15 a0_16 a0_17 l0_18 l0_19 a0_20 a0_21))) else (statement_Make.j0 k a1 a2 a3 a4 true a0_0 a0_1 a0_2 a0_3 a0_4 a0_5 a0_6 a0_7 a0_8 a0_9 a0_10 a0_11 a0_12 a0_13 a0_14 a0_15 a0_16 a0_17 l0_18 l0_19 a0_20 a0_21)))) else (some (0, 0, 0, 0, 0, 0, ([] : List (S66)), 11)))
theorem statement_Make.mono_l : ∀ k, (∀ y0 y1 y2 y3 y4 y5 y6 y7 y8 y9 y10 y11 y12 y13 y14 y15 y16 y17 y18 y19 y20 y21 y22 y23 y24 y25 y26, LeO (statement_Make.j0 k y0 y1 y2 y3 y4 y5 y6 y7 y8 y9 y10 y11 y12 y13 y14 y15 y16 y17 y18 y19 y20 y21 y22 y23 y24 y25 y26) (statement_Make.j0 (k + 1) y0 y1 y2 y3 y4 y5 y6 y7 y8 y9 y10 y11 y12 y13 y14 y15 y16 y17 y18 y19 y20 y21 y22 y23 y24 y25 y26)) ∧ (∀ y0 y1 y2 y3 y4 y5 y6 y7 y8 y9 y10 y11 y12, LeO (statement_Make.l0 k y0 y1 y2 y3 y4 y5 y6 y7 y8 y9 y10 y11 y12) (statement_Make.l0 (k + 1) y0 y1 y2 y3 y4 y5 y6 y7 y8 y9 y10 y11 y12))
 | 0 => ⟨fun _ _ _ _ _ _ _ _ _ _ _ _ _ _ _ _ _ _ _ _ _ _ _ _ _ _ _ r h => by simp [statement_Make.j0] at h, fun _ _ _ _ _ _ _ _ _ _ _ _ _ r h => by simp [statement_Make.l0] at h⟩
 | k + 1 => by
  obtain ⟨ih0, ih1⟩ := statement_Make.mono_l k
  refine ⟨?_, ?_⟩
  ·intro y0 y1 y2 y3 y4 y5 y6 y7 y8 y9 y10 y11 y12 y13 y14 y15 y16 y17 y18 y19 y20 y21 y22 y23 y24 y25 y26
   unfold statement_Make.j0
   repeat' first
   | (with_reducible exact ih0 _ _ _ _ _ _ _ _ _ _ _ _ _ _ _ _ _ _ _ _ _ _ _ _ _ _ _)
   | (with_reducible exact ih1 _ _ _ _ _ _ _ _ _ _ _ _ _)
   | (with_reducible exact statement_moved.mono _ _ _ _ _ _ _ _ _ _ _ _)
   | (with_reducible exact LeO.refl _)
   | (with_reducible exact LeO.none _)
   | (with_reducible refine LeO.ite ?_ ?_)
   | (with_reducible refine LeO.bind ?_ (fun _ => ?_))
   | exact ih0 _ _ _ _ _ _ _ _ _ _ _ _ _ _ _ _ _ _ _ _ _ _ _ _ _ _ _
   | exact ih1 _ _ _ _ _ _ _ _ _ _ _ _ _
   | exact statement_moved.mono _ _ _ _ _ _ _ _ _ _ _ _
   | exact LeO.none _
   | refine LeO.ite ?_ ?_
   | refine LeO.bind ?_ (fun _ => ?_)
  ·intro y0 y1 y2 y3 y4 y5 y6 y7 y8 y9 y10 y11 y12
   unfold statement_Make.l0
   repeat' first
   | (with_reducible exact ih0 _ _ _ _ _ _ _ _ _ _ _ _ _ _ _ _ _ _ _ _ _ _ _ _ _ _ _)
   | (with_reducible exact ih1 _ _ _ _ _ _ _ _ _ _ _ _ _)
   | (with_reducible exact statement_moved.mono _ _ _ _ _ _ _ _ _ _ _ _)
   | (with_reducible exact LeO.refl _)
   | (with_reducible exact LeO.none _)
   | (with_reducible refine LeO.ite ?_ ?_)
   | (with_reducible refine LeO.bind ?_ (fun _ => ?_))
   | exact ih0 _ _ _ _ _ _ _ _ _ _ _ _ _ _ _ _ _ _ _ _ _ _ _ _ _ _ _
   | exact ih1 _ _ _ _ _ _ _ _ _ _ _ _ _
   | exact statement_moved.mono _ _ _ _ _ _ _ _ _ _ _ _
   | exact LeO.none _
   | refine LeO.ite ?_ ?_
   | refine LeO.bind ?_ (fun _ => ?_)
theorem statement_Make.mono : ∀ a0 a1 a2 a3 a4 a5 a6 a7 a8 a9 a10 a11 a12 a13 a14 a15 a16 a17 a18 a19 a20 a21 a22 a23 a24 a25 k, LeO (statement_Make.f k a0 a1 a2 a3 a4 a5 a6 a7 a8 a9 a10 a11 a12 a13 a14 a15 a16 a17 a18 a19 a20 a21 a22 a23 a24 a25) (statement_Make.f (k + 1) a0 a1 a2 a3 a4 a5 a6 a7 a8 a9 a10 a11 a12 a13 a14 a15 a16 a17 a18 a19 a20 a21 a22 a23 a24 a25) := by
 intro a0 a1 a2 a3 a4 a5 a6 a7 a8 a9 a10 a11 a12 a13 a14 a15 a16 a17 a18 a19 a20 a21 a22 a23 a24 a25 k
 obtain ⟨ih0, ih1⟩ := statement_Make.mono_l k
 unfold statement_Make.f
 repeat' first
   | (with_reducible exact ih0 _ _ _ _ _ _ _ _ _ _ _ _ _ _ _ _ _ _ _ _ _ _ _ _ _ _ _)
   | (with_reducible exact ih1 _ _ _ _ _ _ _ _ _ _ _ _ _)
   | (with_reducible exact statement_moved.mono _ _ _ _ _ _ _ _ _ _ _ _)
   | (with_reducible exact LeO.refl _)
   | (with_reducible exact LeO.none _)
   | (with_reducible refine LeO.ite ?_ ?_)
   | (with_reducible refine LeO.bind ?_ (fun _ => ?_))
   | exact ih0 _ _ _ _ _ _ _ _ _ _ _ _ _ _ _ _ _ _ _ _ _ _ _ _ _ _ _
   | exact ih1 _ _ _ _ _ _ _ _ _ _ _ _ _
   | exact statement_moved.mono _ _ _ _ _ _ _ _ _ _ _ _
   | exact LeO.none _
   | refine LeO.ite ?_ ?_
   | refine LeO.bind ?_ (fun _ => ?_)

end Go.Proofs.YtimjodgnlahclaaDoor.G
