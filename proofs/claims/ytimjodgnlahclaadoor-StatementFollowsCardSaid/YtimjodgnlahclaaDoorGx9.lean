/- What functions of the program compute, as Lean functions, each with the walk that proves it, for every argument at which the Lean function answers. Written by gprint.py, a program of this session that drives the print of the kit; checked by Lean alone. -/
import Derived.Test.YtimjodgnlahclaaDoorGx0
import Derived.Test.YtimjodgnlahclaaDoorGx7
import Derived.Test.YtimjodgnlahclaaDoorGx8
namespace Go.Proofs.YtimjodgnlahclaaDoor.G
open Go.RowKit Go.Proofs.YtimjodgnlahclaaDoorW.PrintWords Go.Proofs.YtimjodgnlahclaaDoorW.PrintLast Go.Proofs.YtimjodgnlahclaaDoorW.PrintMore
attribute [local go_sem] max2_int min2_int max_two min_two max_three min_three max_four min_four   -- for this text's walks alone
set_option linter.unusedVariables false
set_option linter.unusedSimpArgs false

/-! ### corebankref45_Make: function 11 -/
mutual
def corebankref45_Make.j0 : Nat → Int → Int → Int → Int → Bool → OV → OV → OV → Int → Int → Int → Int → Int → Int → Int → Int → Int → Int → Int → Int → Int → Int → OV → List (S57) → List (S54) → OV → OV → Option (Int × Int × Int × Int × Int × Int × (List (S66)) × Int)
 | 0, _, _, _, _, _, _, _, _, _, _, _, _, _, _, _, _, _, _, _, _, _, _, _, _, _, _, _ => none
 | k + 1, x1, x2, x3, x4, x42, x178000, x178001, x178002, x178003, x178004, x178005, x178006, x178007, x178008, x178009, x178010, x178011, x178012, x178013, x178014, x178015, x178016, x178017, x178018, x178019, x178020, x178021 => if x42 = true then (some (0, 0, 0, 0, 0, 0, ([] : List (S66)), 1)) else ((corebankref45_before.f k x178019 (wrap64 (x3 - 1))).bind fun t191 => ((corebankref21_Of.f k t191 x1).bind fun t194 => ((corebankref45_before.f k x178019 x4).bind fun t195 => ((corebankref21_Of.f k t195 x1).bind fun t198 => (corebankref45_Make.l0 k x1 x3 x4 0 x178000 x178001 x178002 x178003 x178004 x178005 x178006 x178007 x178008 x178009 x178010 x178011 x178012 x178013 x178014 x178015 x178016 x178017 x178018 x178019 x178020 x178021 x1 x2 x3 x4 t194 t198 ([] : List (S66)))))))
def corebankref45_Make.l0 : Nat → Int → Int → Int → Int → OV → OV → OV → Int → Int → Int → Int → Int → Int → Int → Int → Int → Int → Int → Int → Int → Int → OV → List (S57) → List (S54) → OV → OV → Int → Int → Int → Int → Int → Int → List (S66) → Option (Int × Int × Int × Int × Int × Int × (List (S66)) × Int)
 | 0, _, _, _, _, _, _, _, _, _, _, _, _, _, _, _, _, _, _, _, _, _, _, _, _, _, _, _, _, _, _, _, _, _ => none
 | k + 1, x1, x3, x4, x15, x178000, x178001, x178002, x178003, x178004, x178005, x178006, x178007, x178008, x178009, x178010, x178011, x178012, x178013, x178014, x178015, x178016, x178017, x178018, x178019, x178020, x178021, x191000, x191001, x191002, x191003, x191004, x191005, x191006 => if x15 < (x178019.length : Int) then (if 0 ≤ x15 then (if ((rd_T54 x178019 x15).f1) ≥ x3 then (if ((rd_T54 x178019 x15).f1) ≤ x4 then ((corebankref45_moves.f k ((rd_T54 x178019 x15).f0) ((rd_T54 x178019 x15).f1) ((rd_T54 x178019 x15).f2) ((rd_T54 x178019 x15).f3) ((rd_T54 x178019 x15).f4) ((rd_T54 x178019 x15).f5) ((rd_T54 x178019 x15).f6) ((rd_T54 x178019 x15).f7) ((rd_T54 x178019 x15).f8) ((rd_T54 x178019 x15).f9) x1).bind fun t201 => (if t201 = true then (if x15 ≤ (wrap64 (x15 + 1)) then (if (wrap64 (x15 + 1)) ≤ (x178019.length : Int) then ((corebankref21_Of.f k ((x178019.take ((wrap64 (x15 + 1)) : Int).toNat).drop (x15 : Int).toNat) x1).bind fun t206 => (if x191006.length < 3518437208883 then (corebankref45_Make.l0 k x1 x3 x4 (wrap64 (x15 + 1)) x178000 x178001 x178002 x178003 x178004 x178005 x178006 x178007 x178008 x178009 x178010 x178011 x178012 x178013 x178014 x178015 x178016 x178017 x178018 x178019 x178020 x178021 x191000 x191001 x191002 x191003 x191004 x191005 (x191006 ++ [(⟨(rd_T54 x178019 x15).f0, (rd_T54 x178019 x15).f1, t206, (rd_T54 x178019 x15).f7⟩ : S66)])) else (none))) else (none)) else (none)) else (corebankref45_Make.l0 k x1 x3 x4 (wrap64 (x15 + 1)) x178000 x178001 x178002 x178003 x178004 x178005 x178006 x178007 x178008 x178009 x178010 x178011 x178012 x178013 x178014 x178015 x178016 x178017 x178018 x178019 x178020 x178021 x191000 x191001 x191002 x191003 x191004 x191005 x191006))) else (corebankref45_Make.l0 k x1 x3 x4 (wrap64 (x15 + 1)) x178000 x178001 x178002 x178003 x178004 x178005 x178006 x178007 x178008 x178009 x178010 x178011 x178012 x178013 x178014 x178015 x178016 x178017 x178018 x178019 x178020 x178021 x191000 x191001 x191002 x191003 x191004 x191005 x191006)) else (corebankref45_Make.l0 k x1 x3 x4 (wrap64 (x15 + 1)) x178000 x178001 x178002 x178003 x178004 x178005 x178006 x178007 x178008 x178009 x178010 x178011 x178012 x178013 x178014 x178015 x178016 x178017 x178018 x178019 x178020 x178021 x191000 x191001 x191002 x191003 x191004 x191005 x191006)) else (none)) else (some (x191000, x191001, x191002, x191003, x191004, x191005, x191006, 0))
end
def corebankref45_Make.f (k : Nat) (a0_0 : OV) (a0_1 : OV) (a0_2 : OV) (a0_3 : Int) (a0_4 : Int) (a0_5 : Int) (a0_6 : Int) (a0_7 : Int) (a0_8 : Int) (a0_9 : Int) (a0_10 : Int) (a0_11 : Int) (a0_12 : Int) (a0_13 : Int) (a0_14 : Int) (a0_15 : Int) (a0_16 : Int) (a0_17 : OV) (l0_18 : List (S57)) (l0_19 : List (S54)) (a0_20 : OV) (a0_21 : OV) (a1 : Int) (a2 : Int) (a3 : Int) (a4 : Int) : Option (Int × Int × Int × Int × Int × Int × (List (S66)) × Int) := (corebankref24_Find.f k a0_0 a0_1 a0_2 a0_3 a0_4 a0_5 a0_6 a0_7 a0_8 a0_9 a0_10 a0_11 a0_12 a0_13 a0_14 a0_15 a0_16 a0_17 l0_18 l0_19 a0_20 a0_21 a1).bind fun bt179 => (if bt179.2.2.2.2.2.2.2 = true then (if a2 < 1 then (corebankref45_Make.j0 k a1 a2 a3 a4 true a0_0 a0_1 a0_2 a0_3 a0_4 a0_5 a0_6 a0_7 a0_8 a0_9 a0_10 a0_11 a0_12 a0_13 a0_14 a0_15 a0_16 a0_17 l0_18 l0_19 a0_20 a0_21) else ((corebankref04_Valid.f a3).bind fun t188 => (if t188 = true then ((corebankref04_Valid.f a4).bind fun t189 => (if t189 = true then (corebankref45_Make.j0 k a1 a2 a3 a4 (decide (a3 > a4)) a0_0 a0_1 a0_2 a0_3 a0_4 a0_5 a0_6 a0_7 a0_8 a0_9 a0_10 a0_11 a0_12 a0_13 a0_14 a0_15 a0_16 a0_17 l0_18 l0_19 a0_20 a0_21) else (corebankref45_Make.j0 k a1 a2 a3 a4 true a0_0 a0_1 a0_2 a0_3 a0_4 a0_5 a0_6 a0_7 a0_8 a0_9 a0_10 a0_11 a0_12 a0_13 a0_14 a0_15 a0_16 a0_17 l0_18 l0_19 a0_20 a0_21))) else (corebankref45_Make.j0 k a1 a2 a3 a4 true a0_0 a0_1 a0_2 a0_3 a0_4 a0_5 a0_6 a0_7 a0_8 a0_9 a0_10 a0_11 a0_12 a0_13 a0_14 a0_15 a0_16 a0_17 l0_18 l0_19 a0_20 a0_21)))) else (some (0, 0, 0, 0, 0, 0, ([] : List (S66)), 11)))
theorem corebankref45_Make.mono_l : ∀ k, (∀ y0 y1 y2 y3 y4 y5 y6 y7 y8 y9 y10 y11 y12 y13 y14 y15 y16 y17 y18 y19 y20 y21 y22 y23 y24 y25 y26, LeO (corebankref45_Make.j0 k y0 y1 y2 y3 y4 y5 y6 y7 y8 y9 y10 y11 y12 y13 y14 y15 y16 y17 y18 y19 y20 y21 y22 y23 y24 y25 y26) (corebankref45_Make.j0 (k + 1) y0 y1 y2 y3 y4 y5 y6 y7 y8 y9 y10 y11 y12 y13 y14 y15 y16 y17 y18 y19 y20 y21 y22 y23 y24 y25 y26)) ∧ (∀ y0 y1 y2 y3 y4 y5 y6 y7 y8 y9 y10 y11 y12 y13 y14 y15 y16 y17 y18 y19 y20 y21 y22 y23 y24 y25 y26 y27 y28 y29 y30 y31 y32, LeO (corebankref45_Make.l0 k y0 y1 y2 y3 y4 y5 y6 y7 y8 y9 y10 y11 y12 y13 y14 y15 y16 y17 y18 y19 y20 y21 y22 y23 y24 y25 y26 y27 y28 y29 y30 y31 y32) (corebankref45_Make.l0 (k + 1) y0 y1 y2 y3 y4 y5 y6 y7 y8 y9 y10 y11 y12 y13 y14 y15 y16 y17 y18 y19 y20 y21 y22 y23 y24 y25 y26 y27 y28 y29 y30 y31 y32))
 | 0 => ⟨fun _ _ _ _ _ _ _ _ _ _ _ _ _ _ _ _ _ _ _ _ _ _ _ _ _ _ _ r h => by simp [corebankref45_Make.j0] at h, fun _ _ _ _ _ _ _ _ _ _ _ _ _ _ _ _ _ _ _ _ _ _ _ _ _ _ _ _ _ _ _ _ _ r h => by simp [corebankref45_Make.l0] at h⟩
 | k + 1 => by
  obtain ⟨ih0, ih1⟩ := corebankref45_Make.mono_l k
  refine ⟨?_, ?_⟩
  ·intro y0 y1 y2 y3 y4 y5 y6 y7 y8 y9 y10 y11 y12 y13 y14 y15 y16 y17 y18 y19 y20 y21 y22 y23 y24 y25 y26
   unfold corebankref45_Make.j0
   repeat' first
   | (with_reducible exact ih0 _ _ _ _ _ _ _ _ _ _ _ _ _ _ _ _ _ _ _ _ _ _ _ _ _ _ _)
   | (with_reducible exact ih1 _ _ _ _ _ _ _ _ _ _ _ _ _ _ _ _ _ _ _ _ _ _ _ _ _ _ _ _ _ _ _ _ _)
   | (with_reducible exact corebankref21_Of.mono _ _ _)
   | (with_reducible exact corebankref24_Find.mono _ _ _ _ _ _ _ _ _ _ _ _ _ _ _ _ _ _ _ _ _ _ _ _)
   | (with_reducible exact corebankref45_before.mono _ _ _)
   | (with_reducible exact corebankref45_moves.mono _ _ _ _ _ _ _ _ _ _ _ _)
   | (with_reducible exact LeO.refl _)
   | (with_reducible exact LeO.none _)
   | (with_reducible refine LeO.ite ?_ ?_)
   | (with_reducible refine LeO.bind ?_ (fun _ => ?_))
   | exact ih0 _ _ _ _ _ _ _ _ _ _ _ _ _ _ _ _ _ _ _ _ _ _ _ _ _ _ _
   | exact ih1 _ _ _ _ _ _ _ _ _ _ _ _ _ _ _ _ _ _ _ _ _ _ _ _ _ _ _ _ _ _ _ _ _
   | exact corebankref21_Of.mono _ _ _
   | exact corebankref24_Find.mono _ _ _ _ _ _ _ _ _ _ _ _ _ _ _ _ _ _ _ _ _ _ _ _
   | exact corebankref45_before.mono _ _ _
   | exact corebankref45_moves.mono _ _ _ _ _ _ _ _ _ _ _ _
   | exact LeO.none _
   | refine LeO.ite ?_ ?_
   | refine LeO.bind ?_ (fun _ => ?_)
  ·intro y0 y1 y2 y3 y4 y5 y6 y7 y8 y9 y10 y11 y12 y13 y14 y15 y16 y17 y18 y19 y20 y21 y22 y23 y24 y25 y26 y27 y28 y29 y30 y31 y32
   unfold corebankref45_Make.l0
   repeat' first
   | (with_reducible exact ih0 _ _ _ _ _ _ _ _ _ _ _ _ _ _ _ _ _ _ _ _ _ _ _ _ _ _ _)
   | (with_reducible exact ih1 _ _ _ _ _ _ _ _ _ _ _ _ _ _ _ _ _ _ _ _ _ _ _ _ _ _ _ _ _ _ _ _ _)
   | (with_reducible exact corebankref21_Of.mono _ _ _)
   | (with_reducible exact corebankref24_Find.mono _ _ _ _ _ _ _ _ _ _ _ _ _ _ _ _ _ _ _ _ _ _ _ _)
   | (with_reducible exact corebankref45_before.mono _ _ _)
   | (with_reducible exact corebankref45_moves.mono _ _ _ _ _ _ _ _ _ _ _ _)
   | (with_reducible exact LeO.refl _)
   | (with_reducible exact LeO.none _)
   | (with_reducible refine LeO.ite ?_ ?_)
   | (with_reducible refine LeO.bind ?_ (fun _ => ?_))
   | exact ih0 _ _ _ _ _ _ _ _ _ _ _ _ _ _ _ _ _ _ _ _ _ _ _ _ _ _ _
   | exact ih1 _ _ _ _ _ _ _ _ _ _ _ _ _ _ _ _ _ _ _ _ _ _ _ _ _ _ _ _ _ _ _ _ _
   | exact corebankref21_Of.mono _ _ _
   | exact corebankref24_Find.mono _ _ _ _ _ _ _ _ _ _ _ _ _ _ _ _ _ _ _ _ _ _ _ _
   | exact corebankref45_before.mono _ _ _
   | exact corebankref45_moves.mono _ _ _ _ _ _ _ _ _ _ _ _
   | exact LeO.none _
   | refine LeO.ite ?_ ?_
   | refine LeO.bind ?_ (fun _ => ?_)
theorem corebankref45_Make.mono : ∀ a0 a1 a2 a3 a4 a5 a6 a7 a8 a9 a10 a11 a12 a13 a14 a15 a16 a17 a18 a19 a20 a21 a22 a23 a24 a25 k, LeO (corebankref45_Make.f k a0 a1 a2 a3 a4 a5 a6 a7 a8 a9 a10 a11 a12 a13 a14 a15 a16 a17 a18 a19 a20 a21 a22 a23 a24 a25) (corebankref45_Make.f (k + 1) a0 a1 a2 a3 a4 a5 a6 a7 a8 a9 a10 a11 a12 a13 a14 a15 a16 a17 a18 a19 a20 a21 a22 a23 a24 a25) := by
 intro a0 a1 a2 a3 a4 a5 a6 a7 a8 a9 a10 a11 a12 a13 a14 a15 a16 a17 a18 a19 a20 a21 a22 a23 a24 a25 k
 obtain ⟨ih0, ih1⟩ := corebankref45_Make.mono_l k
 unfold corebankref45_Make.f
 repeat' first
   | (with_reducible exact ih0 _ _ _ _ _ _ _ _ _ _ _ _ _ _ _ _ _ _ _ _ _ _ _ _ _ _ _)
   | (with_reducible exact ih1 _ _ _ _ _ _ _ _ _ _ _ _ _ _ _ _ _ _ _ _ _ _ _ _ _ _ _ _ _ _ _ _ _)
   | (with_reducible exact corebankref21_Of.mono _ _ _)
   | (with_reducible exact corebankref24_Find.mono _ _ _ _ _ _ _ _ _ _ _ _ _ _ _ _ _ _ _ _ _ _ _ _)
   | (with_reducible exact corebankref45_before.mono _ _ _)
   | (with_reducible exact corebankref45_moves.mono _ _ _ _ _ _ _ _ _ _ _ _)
   | (with_reducible exact LeO.refl _)
   | (with_reducible exact LeO.none _)
   | (with_reducible refine LeO.ite ?_ ?_)
   | (with_reducible refine LeO.bind ?_ (fun _ => ?_))
   | exact ih0 _ _ _ _ _ _ _ _ _ _ _ _ _ _ _ _ _ _ _ _ _ _ _ _ _ _ _
   | exact ih1 _ _ _ _ _ _ _ _ _ _ _ _ _ _ _ _ _ _ _ _ _ _ _ _ _ _ _ _ _ _ _ _ _
   | exact corebankref21_Of.mono _ _ _
   | exact corebankref24_Find.mono _ _ _ _ _ _ _ _ _ _ _ _ _ _ _ _ _ _ _ _ _ _ _ _
   | exact corebankref45_before.mono _ _ _
   | exact corebankref45_moves.mono _ _ _ _ _ _ _ _ _ _ _ _
   | exact LeO.none _
   | refine LeO.ite ?_ ?_
   | refine LeO.bind ?_ (fun _ => ?_)
end Go.Proofs.YtimjodgnlahclaaDoor.G
