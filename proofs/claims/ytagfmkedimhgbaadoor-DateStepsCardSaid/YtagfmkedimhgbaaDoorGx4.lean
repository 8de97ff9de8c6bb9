/- What functions of the program compute, as Lean functions, each with the walk that proves it, for every argument at which the Lean function answers. Written by gprint.py, a program of this session that drives the print of the kit; checked by Lean alone. -/
import Derived.Test.YtagfmkedimhgbaaDoorGx0
import Derived.Test.YtagfmkedimhgbaaDoorGx1
import Derived.Test.YtagfmkedimhgbaaDoorGx2
import Derived.Test.YtagfmkedimhgbaaDoorGx3
namespace Go.Proofs.YtagfmkedimhgbaaDoor.G
open Go.RowKit Go.Proofs.YtagfmkedimhgbaaDoorW.PrintWords Go.Proofs.YtagfmkedimhgbaaDoorW.PrintLast Go.Proofs.YtagfmkedimhgbaaDoorW.PrintMore
attribute [local go_sem] max2_int min2_int max_two min_two max_three min_three max_four min_four   -- for this text's walks alone
set_option linter.unusedVariables false
set_option linter.unusedSimpArgs false

/-! ### corebanklaw04_live: function 21 -/
def corebanklaw04_live.f (k : Nat)  : Option (Bool) := (date_Civil.f k 0).bind fun bt159 => ((date_AddMonths.f k 30 1 31).bind fun bt162 => ((date_Day.f k 2001 2 29).bind fun bt164 => ((date_Parse.f k (⟨#[50, 49, 57, 57, 45, 49, 50, 45, 51, 49]⟩ : ByteArray)).bind fun bt166 => ((date_Parse.f k (⟨#[50, 48, 48, 48, 45, 49, 45, 49]⟩ : ByteArray)).bind fun bt168 => (if bt159.1 = 2000 then (if bt159.2.1 = 1 then (if bt159.2.2 = 1 then ((date_Weekday.f 0).bind fun t170 => (if t170 = 5 then (if bt162.1 = 59 then (if bt162.2 = 0 then (if bt164.2 = 1 then (if bt166.1 = 73048 then (if bt166.2 = 0 then (if bt168.2 = 2 then ((date_Format.f k 59).bind fun t171 => (if t171.toList = ([50, 48, 48, 48, 45, 48, 50, 45, 50, 57] : List UInt8) then ((date_MonthEnd.f k 0).bind fun t172 => (if t172 = 30 then ((date_Leap.f 2000).bind fun t173 => (if t173 = true then ((date_Leap.f 2100).bind fun t174 => (some (!t174))) else (some false))) else (some false))) else (some false))) else (some false)) else (some false)) else (some false)) else (some false)) else (some false)) else (some false)) else (some false))) else (some false)) else (some false)) else (some false))))))
theorem corebanklaw04_live.mono : ∀ k, LeO (corebanklaw04_live.f k ) (corebanklaw04_live.f (k + 1) ) := by
  intro  k
  unfold corebanklaw04_live.f
  repeat' first
      | (with_reducible exact date_AddMonths.mono _ _ _ _)
      | (with_reducible exact date_Civil.mono _ _)
      | (with_reducible exact date_Day.mono _ _ _ _)
      | (with_reducible exact date_Format.mono _ _)
      | (with_reducible exact date_MonthEnd.mono _ _)
      | (with_reducible exact date_Parse.mono _ _)
      | (with_reducible exact LeO.refl _)
      | (with_reducible exact LeO.none _)
      | (with_reducible refine LeO.ite ?_ ?_)
      | (with_reducible refine LeO.bind ?_ (fun _ => ?_))
      | exact date_AddMonths.mono _ _ _ _
      | exact date_Civil.mono _ _
      | exact date_Day.mono _ _ _ _
      | exact date_Format.mono _ _
      | exact date_MonthEnd.mono _ _
      | exact date_Parse.mono _ _
      | exact LeO.none _
      | refine LeO.ite ?_ ?_
      | refine LeO.bind ?_ (fun _ => ?_)
set_option maxHeartbeats 8000000 in
set_option maxRecDepth 100000 in
theorem corebanklaw04_live.calls (k : Nat)  (r : Bool) (w : World) (h : corebanklaw04_live.f k  = some r) (hG : Glob w) (ht : r = true) :
    Calls Tryd.prog 21 #[] w fun e w' => e = .returned (.bool r) ∧ Below w.heap.size w w' := by
  have HG := Aside0.mk hG
  clear hG
  have HT := Aside0.mk ht
  clear ht
  have HB := Aside0.mk (Below.refl w.heap.size w)
  have H : ((date_Civil.f k 0).bind fun bt159 => ((date_AddMonths.f k 30 1 31).bind fun bt162 => ((date_Day.f k 2001 2 29).bind fun bt164 => ((date_Parse.f k (⟨#[50, 49, 57, 57, 45, 49, 50, 45, 51, 49]⟩ : ByteArray)).bind fun bt166 => ((date_Parse.f k (⟨#[50, 48, 48, 48, 45, 49, 45, 49]⟩ : ByteArray)).bind fun bt168 => (if bt159.1 = 2000 then (if bt159.2.1 = 1 then (if bt159.2.2 = 1 then ((date_Weekday.f 0).bind fun t170 => (if t170 = 5 then (if bt162.1 = 59 then (if bt162.2 = 0 then (if bt164.2 = 1 then (if bt166.1 = 73048 then (if bt166.2 = 0 then (if bt168.2 = 2 then ((date_Format.f k 59).bind fun t171 => (if t171.toList = ([50, 48, 48, 48, 45, 48, 50, 45, 50, 57] : List UInt8) then ((date_MonthEnd.f k 0).bind fun t172 => (if t172 = 30 then ((date_Leap.f 2000).bind fun t173 => (if t173 = true then ((date_Leap.f 2100).bind fun t174 => (some (!t174))) else (some false))) else (some false))) else (some false))) else (some false)) else (some false)) else (some false)) else (some false)) else (some false)) else (some false)) else (some false))) else (some false)) else (some false)) else (some false))))))) = some r := h
  clear h
  replace H := Option.bind_eq_some_iff.mp H
  obtain ⟨⟨t159, t160, t161⟩, A10, H⟩ := H
  replace H : ((date_AddMonths.f k 30 1 31).bind fun bt162 => ((date_Day.f k 2001 2 29).bind fun bt164 => ((date_Parse.f k (⟨#[50, 49, 57, 57, 45, 49, 50, 45, 51, 49]⟩ : ByteArray)).bind fun bt166 => ((date_Parse.f k (⟨#[50, 48, 48, 48, 45, 49, 45, 49]⟩ : ByteArray)).bind fun bt168 => (if t159 = 2000 then (if t160 = 1 then (if t161 = 1 then ((date_Weekday.f 0).bind fun t170 => (if t170 = 5 then (if bt162.1 = 59 then (if bt162.2 = 0 then (if bt164.2 = 1 then (if bt166.1 = 73048 then (if bt166.2 = 0 then (if bt168.2 = 2 then ((date_Format.f k 59).bind fun t171 => (if t171.toList = ([50, 48, 48, 48, 45, 48, 50, 45, 50, 57] : List UInt8) then ((date_MonthEnd.f k 0).bind fun t172 => (if t172 = 30 then ((date_Leap.f 2000).bind fun t173 => (if t173 = true then ((date_Leap.f 2100).bind fun t174 => (some (!t174))) else (some false))) else (some false))) else (some false))) else (some false)) else (some false)) else (some false)) else (some false)) else (some false)) else (some false)) else (some false))) else (some false)) else (some false)) else (some false)))))) = some r := H
  have A1 := Aside0.mk A10
  clear A10
  replace H := Option.bind_eq_some_iff.mp H
  obtain ⟨⟨t162, t163⟩, A20, H⟩ := H
  replace H : ((date_Day.f k 2001 2 29).bind fun bt164 => ((date_Parse.f k (⟨#[50, 49, 57, 57, 45, 49, 50, 45, 51, 49]⟩ : ByteArray)).bind fun bt166 => ((date_Parse.f k (⟨#[50, 48, 48, 48, 45, 49, 45, 49]⟩ : ByteArray)).bind fun bt168 => (if t159 = 2000 then (if t160 = 1 then (if t161 = 1 then ((date_Weekday.f 0).bind fun t170 => (if t170 = 5 then (if t162 = 59 then (if t163 = 0 then (if bt164.2 = 1 then (if bt166.1 = 73048 then (if bt166.2 = 0 then (if bt168.2 = 2 then ((date_Format.f k 59).bind fun t171 => (if t171.toList = ([50, 48, 48, 48, 45, 48, 50, 45, 50, 57] : List UInt8) then ((date_MonthEnd.f k 0).bind fun t172 => (if t172 = 30 then ((date_Leap.f 2000).bind fun t173 => (if t173 = true then ((date_Leap.f 2100).bind fun t174 => (some (!t174))) else (some false))) else (some false))) else (some false))) else (some false)) else (some false)) else (some false)) else (some false)) else (some false)) else (some false)) else (some false))) else (some false)) else (some false)) else (some false))))) = some r := H
  have A2 := Aside0.mk A20
  clear A20
  replace H := Option.bind_eq_some_iff.mp H
  obtain ⟨⟨t164, t165⟩, A30, H⟩ := H
  replace H : ((date_Parse.f k (⟨#[50, 49, 57, 57, 45, 49, 50, 45, 51, 49]⟩ : ByteArray)).bind fun bt166 => ((date_Parse.f k (⟨#[50, 48, 48, 48, 45, 49, 45, 49]⟩ : ByteArray)).bind fun bt168 => (if t159 = 2000 then (if t160 = 1 then (if t161 = 1 then ((date_Weekday.f 0).bind fun t170 => (if t170 = 5 then (if t162 = 59 then (if t163 = 0 then (if t165 = 1 then (if bt166.1 = 73048 then (if bt166.2 = 0 then (if bt168.2 = 2 then ((date_Format.f k 59).bind fun t171 => (if t171.toList = ([50, 48, 48, 48, 45, 48, 50, 45, 50, 57] : List UInt8) then ((date_MonthEnd.f k 0).bind fun t172 => (if t172 = 30 then ((date_Leap.f 2000).bind fun t173 => (if t173 = true then ((date_Leap.f 2100).bind fun t174 => (some (!t174))) else (some false))) else (some false))) else (some false))) else (some false)) else (some false)) else (some false)) else (some false)) else (some false)) else (some false)) else (some false))) else (some false)) else (some false)) else (some false)))) = some r := H
  have A3 := Aside0.mk A30
  clear A30
  replace H := Option.bind_eq_some_iff.mp H
  obtain ⟨⟨t166, t167⟩, A40, H⟩ := H
  replace H : ((date_Parse.f k (⟨#[50, 48, 48, 48, 45, 49, 45, 49]⟩ : ByteArray)).bind fun bt168 => (if t159 = 2000 then (if t160 = 1 then (if t161 = 1 then ((date_Weekday.f 0).bind fun t170 => (if t170 = 5 then (if t162 = 59 then (if t163 = 0 then (if t165 = 1 then (if t166 = 73048 then (if t167 = 0 then (if bt168.2 = 2 then ((date_Format.f k 59).bind fun t171 => (if t171.toList = ([50, 48, 48, 48, 45, 48, 50, 45, 50, 57] : List UInt8) then ((date_MonthEnd.f k 0).bind fun t172 => (if t172 = 30 then ((date_Leap.f 2000).bind fun t173 => (if t173 = true then ((date_Leap.f 2100).bind fun t174 => (some (!t174))) else (some false))) else (some false))) else (some false))) else (some false)) else (some false)) else (some false)) else (some false)) else (some false)) else (some false)) else (some false))) else (some false)) else (some false)) else (some false))) = some r := H
  have A4 := Aside0.mk A40
  clear A40
  replace H := Option.bind_eq_some_iff.mp H
  obtain ⟨⟨t168, t169⟩, A50, H⟩ := H
  replace H : (if t159 = 2000 then (if t160 = 1 then (if t161 = 1 then ((date_Weekday.f 0).bind fun t170 => (if t170 = 5 then (if t162 = 59 then (if t163 = 0 then (if t165 = 1 then (if t166 = 73048 then (if t167 = 0 then (if t169 = 2 then ((date_Format.f k 59).bind fun t171 => (if t171.toList = ([50, 48, 48, 48, 45, 48, 50, 45, 50, 57] : List UInt8) then ((date_MonthEnd.f k 0).bind fun t172 => (if t172 = 30 then ((date_Leap.f 2000).bind fun t173 => (if t173 = true then ((date_Leap.f 2100).bind fun t174 => (some (!t174))) else (some false))) else (some false))) else (some false))) else (some false)) else (some false)) else (some false)) else (some false)) else (some false)) else (some false)) else (some false))) else (some false)) else (some false)) else (some false)) = some r := H
  have A5 := Aside0.mk A50
  clear A50
  by_cases c6 : t159 = 2000
  · rw [if_pos c6] at H
    have c6b0 : (t159 == 2000) = true := beq_iff_eq.mpr c6
    have c6b1 : (t159 != 2000) = false := bne_eq_false_iff_eq.mpr c6
    clear c6
    by_cases c7 : t160 = 1
    · rw [if_pos c7] at H
      have c7b0 : (t160 == 1) = true := beq_iff_eq.mpr c7
      have c7b1 : (t160 != 1) = false := bne_eq_false_iff_eq.mpr c7
      clear c7
      by_cases c8 : t161 = 1
      · rw [if_pos c8] at H
        have c8b0 : (t161 == 1) = true := beq_iff_eq.mpr c8
        have c8b1 : (t161 != 1) = false := bne_eq_false_iff_eq.mpr c8
        clear c8
        replace H := Option.bind_eq_some_iff.mp H
        obtain ⟨t170, A90, H⟩ := H
        replace H : (if t170 = 5 then (if t162 = 59 then (if t163 = 0 then (if t165 = 1 then (if t166 = 73048 then (if t167 = 0 then (if t169 = 2 then ((date_Format.f k 59).bind fun t171 => (if t171.toList = ([50, 48, 48, 48, 45, 48, 50, 45, 50, 57] : List UInt8) then ((date_MonthEnd.f k 0).bind fun t172 => (if t172 = 30 then ((date_Leap.f 2000).bind fun t173 => (if t173 = true then ((date_Leap.f 2100).bind fun t174 => (some (!t174))) else (some false))) else (some false))) else (some false))) else (some false)) else (some false)) else (some false)) else (some false)) else (some false)) else (some false)) else (some false)) = some r := H
        have A9 := Aside0.mk A90
        clear A90
        by_cases c10 : t170 = 5
        · rw [if_pos c10] at H
          have c10b0 : (t170 == 5) = true := beq_iff_eq.mpr c10
          have c10b1 : (t170 != 5) = false := bne_eq_false_iff_eq.mpr c10
          clear c10
          by_cases c11 : t162 = 59
          · rw [if_pos c11] at H
            have c11b0 : (t162 == 59) = true := beq_iff_eq.mpr c11
            have c11b1 : (t162 != 59) = false := bne_eq_false_iff_eq.mpr c11
            clear c11
            by_cases c12 : t163 = 0
            · rw [if_pos c12] at H
              have c12b0 : (t163 == 0) = true := beq_iff_eq.mpr c12
              have c12b1 : (t163 != 0) = false := bne_eq_false_iff_eq.mpr c12
              clear c12
              by_cases c13 : t165 = 1
              · rw [if_pos c13] at H
                have c13b0 : (t165 == 1) = true := beq_iff_eq.mpr c13
                have c13b1 : (t165 != 1) = false := bne_eq_false_iff_eq.mpr c13
                clear c13
                by_cases c14 : t166 = 73048
                · rw [if_pos c14] at H
                  have c14b0 : (t166 == 73048) = true := beq_iff_eq.mpr c14
                  have c14b1 : (t166 != 73048) = false := bne_eq_false_iff_eq.mpr c14
                  clear c14
                  by_cases c15 : t167 = 0
                  · rw [if_pos c15] at H
                    have c15b0 : (t167 == 0) = true := beq_iff_eq.mpr c15
                    have c15b1 : (t167 != 0) = false := bne_eq_false_iff_eq.mpr c15
                    clear c15
                    by_cases c16 : t169 = 2
                    · rw [if_pos c16] at H
                      have c16b0 : (t169 == 2) = true := beq_iff_eq.mpr c16
                      have c16b1 : (t169 != 2) = false := bne_eq_false_iff_eq.mpr c16
                      clear c16
                      replace H := Option.bind_eq_some_iff.mp H
                      obtain ⟨t171, A170, H⟩ := H
                      replace H : (if t171.toList = ([50, 48, 48, 48, 45, 48, 50, 45, 50, 57] : List UInt8) then ((date_MonthEnd.f k 0).bind fun t172 => (if t172 = 30 then ((date_Leap.f 2000).bind fun t173 => (if t173 = true then ((date_Leap.f 2100).bind fun t174 => (some (!t174))) else (some false))) else (some false))) else (some false)) = some r := H
                      have A17 := Aside0.mk A170
                      clear A170
                      by_cases c18 : t171.toList = ([50, 48, 48, 48, 45, 48, 50, 45, 50, 57] : List UInt8)
                      · rw [if_pos c18] at H
                        have c18b0 : (t171.toList == ([50, 48, 48, 48, 45, 48, 50, 45, 50, 57] : List UInt8)) = true := beq_iff_eq.mpr c18
                        have c18b1 : (t171.toList != ([50, 48, 48, 48, 45, 48, 50, 45, 50, 57] : List UInt8)) = false := bne_eq_false_iff_eq.mpr c18
                        clear c18
                        replace H := Option.bind_eq_some_iff.mp H
                        obtain ⟨t172, A190, H⟩ := H
                        replace H : (if t172 = 30 then ((date_Leap.f 2000).bind fun t173 => (if t173 = true then ((date_Leap.f 2100).bind fun t174 => (some (!t174))) else (some false))) else (some false)) = some r := H
                        have A19 := Aside0.mk A190
                        clear A190
                        by_cases c20 : t172 = 30
                        · rw [if_pos c20] at H
                          have c20b0 : (t172 == 30) = true := beq_iff_eq.mpr c20
                          have c20b1 : (t172 != 30) = false := bne_eq_false_iff_eq.mpr c20
                          clear c20
                          replace H := Option.bind_eq_some_iff.mp H
                          obtain ⟨t173, A210, H⟩ := H
                          replace H : (if t173 = true then ((date_Leap.f 2100).bind fun t174 => (some (!t174))) else (some false)) = some r := H
                          have A21 := Aside0.mk A210
                          clear A210
                          by_cases c22 : t173 = true
                          · subst c22
                            have H1 : ((date_Leap.f 2100).bind fun t174 => (some (!t174))) = some r := by rw [if_pos rfl] at H; exact H
                            clear H
                            have H := H1
                            clear H1
                            replace H := Option.bind_eq_some_iff.mp H
                            obtain ⟨t174, A230, H⟩ := H
                            replace H : (some (!t174)) = some r := H
                            have A23 := Aside0.mk A230
                            clear A230
                            obtain rfl := Option.some.inj H
                            go_enter Tryd.func21, Tryd.ntmps21
                            go_wp2_with (first | ((with_reducible refine gate_callee (f := 9) rfl ?_); refine goesL_ (some 13) rfl rfl Tryd.func9 (by kernel_rfl) rfl #[.int .i64 0] rfl (by (try simp only [List.map_toArray, List.map_cons, List.map_nil]); first | done | rfl | (simp only [List.length_drop, List.length_take]; rfl)) ?_; (with_reducible refine (date_Civil.calls k 0 t159 t160 t161 _ A1.out).mono ?_); rintro e w24 ⟨rfl, hb⟩; refine ⟨_, rfl, ?_⟩; have n0_ := Aside0.mk (below_step (by repeat (first | (with_reducible first | exact HB.out | apply below_alloc | apply pw_below_drewN | apply below_drew1) | exact HB.out)) hb); clear HB; have HB := n0_; clear n0_; (try clear hb); (try clear hb2); (try clear hk); (try clear hi)) | ((with_reducible refine gate_callee (f := 24) rfl ?_); refine goesL_ (some 18) rfl rfl Tryd.func24 (by kernel_rfl) rfl #[.int .i64 30, .int .i64 1, .int .i64 31] rfl (by (try simp only [List.map_toArray, List.map_cons, List.map_nil]); first | done | rfl | (simp only [List.length_drop, List.length_take]; rfl)) ?_; (with_reducible refine (date_AddMonths.calls k 30 1 31 t162 t163 _ A2.out).mono ?_); rintro e w25 ⟨rfl, hb⟩; refine ⟨_, rfl, ?_⟩; have n0_ := Aside0.mk (below_step (by repeat (first | (with_reducible first | exact HB.out | apply below_alloc | apply pw_below_drewN | apply below_drew1) | exact HB.out)) hb); clear HB; have HB := n0_; clear n0_; (try clear hb); (try clear hb2); (try clear hk); (try clear hi)) | ((with_reducible refine gate_callee (f := 22) rfl ?_); refine goesL_ (some 22) rfl rfl Tryd.func22 (by kernel_rfl) rfl #[.int .i64 2001, .int .i64 2, .int .i64 29] rfl (by (try simp only [List.map_toArray, List.map_cons, List.map_nil]); first | done | rfl | (simp only [List.length_drop, List.length_take]; rfl)) ?_; (with_reducible refine (date_Day.calls k 2001 2 29 t164 t165 _ A3.out).mono ?_); rintro e w26 ⟨rfl, hb⟩; refine ⟨_, rfl, ?_⟩; have n0_ := Aside0.mk (below_step (by repeat (first | (with_reducible first | exact HB.out | apply below_alloc | apply pw_below_drewN | apply below_drew1) | exact HB.out)) hb); clear HB; have HB := n0_; clear n0_; (try clear hb); (try clear hb2); (try clear hk); (try clear hi)) | ((with_reducible refine gate_callee (f := 26) rfl ?_); refine goesL_ (some 26) rfl rfl Tryd.func26 (by kernel_rfl) rfl #[.string (⟨#[50, 49, 57, 57, 45, 49, 50, 45, 51, 49]⟩ : ByteArray)] rfl (by (try simp only [List.map_toArray, List.map_cons, List.map_nil]); first | done | rfl | (simp only [List.length_drop, List.length_take]; rfl)) ?_; (with_reducible refine (date_Parse.calls k (⟨#[50, 49, 57, 57, 45, 49, 50, 45, 51, 49]⟩ : ByteArray) t166 t167 _ A4.out).mono ?_); rintro e w27 ⟨rfl, hb⟩; refine ⟨_, rfl, ?_⟩; have n0_ := Aside0.mk (below_step (by repeat (first | (with_reducible first | exact HB.out | apply below_alloc | apply pw_below_drewN | apply below_drew1) | exact HB.out)) hb); clear HB; have HB := n0_; clear n0_; (try clear hb); (try clear hb2); (try clear hk); (try clear hi)) | ((with_reducible refine gate_callee (f := 26) rfl ?_); refine goesL_ (some 30) rfl rfl Tryd.func26 (by kernel_rfl) rfl #[.string (⟨#[50, 48, 48, 48, 45, 49, 45, 49]⟩ : ByteArray)] rfl (by (try simp only [List.map_toArray, List.map_cons, List.map_nil]); first | done | rfl | (simp only [List.length_drop, List.length_take]; rfl)) ?_; (with_reducible refine (date_Parse.calls k (⟨#[50, 48, 48, 48, 45, 49, 45, 49]⟩ : ByteArray) t168 t169 _ A5.out).mono ?_); rintro e w28 ⟨rfl, hb⟩; refine ⟨_, rfl, ?_⟩; have n0_ := Aside0.mk (below_step (by repeat (first | (with_reducible first | exact HB.out | apply below_alloc | apply pw_below_drewN | apply below_drew1) | exact HB.out)) hb); clear HB; have HB := n0_; clear n0_; (try clear hb); (try clear hb2); (try clear hk); (try clear hi)) | (go_at_call 13; (with_reducible refine (date_Weekday.calls 0 t170 _ A9.out).mono ?_); rintro e w' ⟨rfl, ⟨nd, rfl⟩⟩) | (go_at_call 17; (with_reducible refine (date_Format.calls k 59 t171 _ A17.out ?side1).mono ?_); (case side1 => exact Glob.at HG (by repeat (first | (with_reducible first | exact HB.out | apply below_alloc | apply pw_below_drewN | apply below_drew1) | exact HB.out))); rintro e w29 ⟨rfl, hb⟩; have n0_ := Aside0.mk (below_step (by repeat (first | (with_reducible first | exact HB.out | apply below_alloc | apply pw_below_drewN | apply below_drew1) | exact HB.out)) hb); clear HB; have HB := n0_; clear n0_; (try clear hb); (try clear hb2); (try clear hk); (try clear hi)) | (go_at_call 15; (with_reducible refine (date_MonthEnd.calls k 0 t172 _ A19.out).mono ?_); rintro e w30 ⟨rfl, hb⟩; have n0_ := Aside0.mk (below_step (by repeat (first | (with_reducible first | exact HB.out | apply below_alloc | apply pw_below_drewN | apply below_drew1) | exact HB.out)) hb); clear HB; have HB := n0_; clear n0_; (try clear hb); (try clear hb2); (try clear hk); (try clear hi)) | (go_at_call 19; (with_reducible refine (date_Leap.calls 2000 true _ A21.out).mono ?_); rintro e w' ⟨rfl, ⟨nd, rfl⟩⟩) | (go_at_call 19; (with_reducible refine (date_Leap.calls 2100 t174 _ A23.out).mono ?_); rintro e w' ⟨rfl, ⟨nd, rfl⟩⟩))
                            go_ret
                            exact ⟨by first | rfl | (simp [errW_none, errW_some] <;> rfl) | (simp [*, errW_none, errW_some] <;> rfl), by repeat (first | (with_reducible first | exact HB.out | apply below_alloc | apply pw_below_drewN | apply below_drew1) | exact HB.out)⟩
                          · replace c22 := Bool.eq_false_iff.mpr c22
                            subst c22
                            have H1 : (some false) = some r := by rw [if_neg (show ¬ (false = true) by decide)] at H; exact H
                            clear H
                            have H := H1
                            clear H1
                            exact absurd ((Option.some.inj H).trans HT.out) (by simp)
                        · rw [if_neg c20] at H
                          have c20b0 : (t172 == 30) = false := beq_eq_false_iff_ne.mpr c20
                          have c20b1 : (t172 != 30) = true := bne_iff_ne.mpr c20
                          exact absurd ((Option.some.inj H).trans HT.out) (by simp)
                      · rw [if_neg c18] at H
                        have c18b0 : (t171.toList == ([50, 48, 48, 48, 45, 48, 50, 45, 50, 57] : List UInt8)) = false := beq_eq_false_iff_ne.mpr c18
                        have c18b1 : (t171.toList != ([50, 48, 48, 48, 45, 48, 50, 45, 50, 57] : List UInt8)) = true := bne_iff_ne.mpr c18
                        exact absurd ((Option.some.inj H).trans HT.out) (by simp)
                    · rw [if_neg c16] at H
                      have c16b0 : (t169 == 2) = false := beq_eq_false_iff_ne.mpr c16
                      have c16b1 : (t169 != 2) = true := bne_iff_ne.mpr c16
                      exact absurd ((Option.some.inj H).trans HT.out) (by simp)
                  · rw [if_neg c15] at H
                    have c15b0 : (t167 == 0) = false := beq_eq_false_iff_ne.mpr c15
                    have c15b1 : (t167 != 0) = true := bne_iff_ne.mpr c15
                    exact absurd ((Option.some.inj H).trans HT.out) (by simp)
                · rw [if_neg c14] at H
                  have c14b0 : (t166 == 73048) = false := beq_eq_false_iff_ne.mpr c14
                  have c14b1 : (t166 != 73048) = true := bne_iff_ne.mpr c14
                  exact absurd ((Option.some.inj H).trans HT.out) (by simp)
              · rw [if_neg c13] at H
                have c13b0 : (t165 == 1) = false := beq_eq_false_iff_ne.mpr c13
                have c13b1 : (t165 != 1) = true := bne_iff_ne.mpr c13
                exact absurd ((Option.some.inj H).trans HT.out) (by simp)
            · rw [if_neg c12] at H
              have c12b0 : (t163 == 0) = false := beq_eq_false_iff_ne.mpr c12
              have c12b1 : (t163 != 0) = true := bne_iff_ne.mpr c12
              exact absurd ((Option.some.inj H).trans HT.out) (by simp)
          · rw [if_neg c11] at H
            have c11b0 : (t162 == 59) = false := beq_eq_false_iff_ne.mpr c11
            have c11b1 : (t162 != 59) = true := bne_iff_ne.mpr c11
            exact absurd ((Option.some.inj H).trans HT.out) (by simp)
        · rw [if_neg c10] at H
          have c10b0 : (t170 == 5) = false := beq_eq_false_iff_ne.mpr c10
          have c10b1 : (t170 != 5) = true := bne_iff_ne.mpr c10
          exact absurd ((Option.some.inj H).trans HT.out) (by simp)
      · rw [if_neg c8] at H
        have c8b0 : (t161 == 1) = false := beq_eq_false_iff_ne.mpr c8
        have c8b1 : (t161 != 1) = true := bne_iff_ne.mpr c8
        exact absurd ((Option.some.inj H).trans HT.out) (by simp)
    · rw [if_neg c7] at H
      have c7b0 : (t160 == 1) = false := beq_eq_false_iff_ne.mpr c7
      have c7b1 : (t160 != 1) = true := bne_iff_ne.mpr c7
      exact absurd ((Option.some.inj H).trans HT.out) (by simp)
  · rw [if_neg c6] at H
    have c6b0 : (t159 == 2000) = false := beq_eq_false_iff_ne.mpr c6
    have c6b1 : (t159 != 2000) = true := bne_iff_ne.mpr c6
    exact absurd ((Option.some.inj H).trans HT.out) (by simp)

/-! ### corebanklaw04_DateCivils: function 3 -/
def corebanklaw04_DateCivils.f (k : Nat) (a0 : Int) (a1 : Int) : Option (Bool) := (date_Civil.f k a0).bind fun bt175 => ((corebankref04_Civil.f k a0).bind fun bt178 => (if bt175.1 = bt178.1 then (if bt175.2.1 = bt178.2.1 then (if bt175.2.2 = bt178.2.2 then ((date_Valid.f a0).bind fun t181 => ((corebankref04_Valid.f a0).bind fun t182 => (if (t181 == t182) = true then ((date_Weekday.f a0).bind fun t183 => ((corebankref04_Weekday.f a0).bind fun t184 => (if t183 = t184 then ((date_MonthEnd.f k a0).bind fun t185 => ((corebankref04_MonthEnd.f k a0).bind fun t186 => (if t185 = t186 then ((date_Format.f k a0).bind fun t187 => ((corebankref04_Format.f k a0).bind fun t188 => (if t187.toList = t188.toList then ((date_Leap.f a1).bind fun t189 => ((corebankref04_Leap.f a1).bind fun t190 => (if (t189 == t190) = true then ((corebanklaw04_live.f k).bind fun t191 => (some t191)) else (some false)))) else (some false)))) else (some false)))) else (some false)))) else (some false)))) else (some false)) else (some false)) else (some false)))
theorem corebanklaw04_DateCivils.mono : ∀ a0 a1 k, LeO (corebanklaw04_DateCivils.f k a0 a1) (corebanklaw04_DateCivils.f (k + 1) a0 a1) := by
  intro a0 a1 k
  unfold corebanklaw04_DateCivils.f
  repeat' first
      | (with_reducible exact corebanklaw04_live.mono _)
      | (with_reducible exact corebankref04_Civil.mono _ _)
      | (with_reducible exact corebankref04_Format.mono _ _)
      | (with_reducible exact corebankref04_MonthEnd.mono _ _)
      | (with_reducible exact date_Civil.mono _ _)
      | (with_reducible exact date_Format.mono _ _)
      | (with_reducible exact date_MonthEnd.mono _ _)
      | (with_reducible exact LeO.refl _)
      | (with_reducible exact LeO.none _)
      | (with_reducible refine LeO.ite ?_ ?_)
      | (with_reducible refine LeO.bind ?_ (fun _ => ?_))
      | exact corebanklaw04_live.mono _
      | exact corebankref04_Civil.mono _ _
      | exact corebankref04_Format.mono _ _
      | exact corebankref04_MonthEnd.mono _ _
      | exact date_Civil.mono _ _
      | exact date_Format.mono _ _
      | exact date_MonthEnd.mono _ _
      | exact LeO.none _
      | refine LeO.ite ?_ ?_
      | refine LeO.bind ?_ (fun _ => ?_)
set_option maxHeartbeats 8000000 in
set_option maxRecDepth 100000 in
theorem corebanklaw04_DateCivils.calls (k : Nat) (a0 : Int) (a1 : Int) (r : Bool) (w : World) (h : corebanklaw04_DateCivils.f k a0 a1 = some r) (hG : Glob w) (ht : r = true) :
    Calls Tryd.prog 3 #[.int .i64 a0, .int .i64 a1] w fun e w' => e = .returned (.bool r) ∧ Below w.heap.size w w' := by
  have HG := Aside0.mk hG
  clear hG
  have HT := Aside0.mk ht
  clear ht
  have HB := Aside0.mk (Below.refl w.heap.size w)
  have H : ((date_Civil.f k a0).bind fun bt175 => ((corebankref04_Civil.f k a0).bind fun bt178 => (if bt175.1 = bt178.1 then (if bt175.2.1 = bt178.2.1 then (if bt175.2.2 = bt178.2.2 then ((date_Valid.f a0).bind fun t181 => ((corebankref04_Valid.f a0).bind fun t182 => (if (t181 == t182) = true then ((date_Weekday.f a0).bind fun t183 => ((corebankref04_Weekday.f a0).bind fun t184 => (if t183 = t184 then ((date_MonthEnd.f k a0).bind fun t185 => ((corebankref04_MonthEnd.f k a0).bind fun t186 => (if t185 = t186 then ((date_Format.f k a0).bind fun t187 => ((corebankref04_Format.f k a0).bind fun t188 => (if t187.toList = t188.toList then ((date_Leap.f a1).bind fun t189 => ((corebankref04_Leap.f a1).bind fun t190 => (if (t189 == t190) = true then ((corebanklaw04_live.f k).bind fun t191 => (some t191)) else (some false)))) else (some false)))) else (some false)))) else (some false)))) else (some false)))) else (some false)) else (some false)) else (some false)))) = some r := h
  clear h
  replace H := Option.bind_eq_some_iff.mp H
  obtain ⟨⟨t175, t176, t177⟩, A30, H⟩ := H
  replace H : ((corebankref04_Civil.f k a0).bind fun bt178 => (if t175 = bt178.1 then (if t176 = bt178.2.1 then (if t177 = bt178.2.2 then ((date_Valid.f a0).bind fun t181 => ((corebankref04_Valid.f a0).bind fun t182 => (if (t181 == t182) = true then ((date_Weekday.f a0).bind fun t183 => ((corebankref04_Weekday.f a0).bind fun t184 => (if t183 = t184 then ((date_MonthEnd.f k a0).bind fun t185 => ((corebankref04_MonthEnd.f k a0).bind fun t186 => (if t185 = t186 then ((date_Format.f k a0).bind fun t187 => ((corebankref04_Format.f k a0).bind fun t188 => (if t187.toList = t188.toList then ((date_Leap.f a1).bind fun t189 => ((corebankref04_Leap.f a1).bind fun t190 => (if (t189 == t190) = true then ((corebanklaw04_live.f k).bind fun t191 => (some t191)) else (some false)))) else (some false)))) else (some false)))) else (some false)))) else (some false)))) else (some false)) else (some false)) else (some false))) = some r := H
  have A3 := Aside0.mk A30
  clear A30
  replace H := Option.bind_eq_some_iff.mp H
  obtain ⟨⟨t178, t179, t180⟩, A40, H⟩ := H
  replace H : (if t175 = t178 then (if t176 = t179 then (if t177 = t180 then ((date_Valid.f a0).bind fun t181 => ((corebankref04_Valid.f a0).bind fun t182 => (if (t181 == t182) = true then ((date_Weekday.f a0).bind fun t183 => ((corebankref04_Weekday.f a0).bind fun t184 => (if t183 = t184 then ((date_MonthEnd.f k a0).bind fun t185 => ((corebankref04_MonthEnd.f k a0).bind fun t186 => (if t185 = t186 then ((date_Format.f k a0).bind fun t187 => ((corebankref04_Format.f k a0).bind fun t188 => (if t187.toList = t188.toList then ((date_Leap.f a1).bind fun t189 => ((corebankref04_Leap.f a1).bind fun t190 => (if (t189 == t190) = true then ((corebanklaw04_live.f k).bind fun t191 => (some t191)) else (some false)))) else (some false)))) else (some false)))) else (some false)))) else (some false)))) else (some false)) else (some false)) else (some false)) = some r := H
  have A4 := Aside0.mk A40
  clear A40
  by_cases c5 : t175 = t178
  · rw [if_pos c5] at H
    have c5b0 : (t175 == t178) = true := beq_iff_eq.mpr c5
    have c5b1 : (t175 != t178) = false := bne_eq_false_iff_eq.mpr c5
    clear c5
    by_cases c6 : t176 = t179
    · rw [if_pos c6] at H
      have c6b0 : (t176 == t179) = true := beq_iff_eq.mpr c6
      have c6b1 : (t176 != t179) = false := bne_eq_false_iff_eq.mpr c6
      clear c6
      by_cases c7 : t177 = t180
      · rw [if_pos c7] at H
        have c7b0 : (t177 == t180) = true := beq_iff_eq.mpr c7
        have c7b1 : (t177 != t180) = false := bne_eq_false_iff_eq.mpr c7
        clear c7
        replace H := Option.bind_eq_some_iff.mp H
        obtain ⟨t181, A80, H⟩ := H
        replace H : ((corebankref04_Valid.f a0).bind fun t182 => (if (t181 == t182) = true then ((date_Weekday.f a0).bind fun t183 => ((corebankref04_Weekday.f a0).bind fun t184 => (if t183 = t184 then ((date_MonthEnd.f k a0).bind fun t185 => ((corebankref04_MonthEnd.f k a0).bind fun t186 => (if t185 = t186 then ((date_Format.f k a0).bind fun t187 => ((corebankref04_Format.f k a0).bind fun t188 => (if t187.toList = t188.toList then ((date_Leap.f a1).bind fun t189 => ((corebankref04_Leap.f a1).bind fun t190 => (if (t189 == t190) = true then ((corebanklaw04_live.f k).bind fun t191 => (some t191)) else (some false)))) else (some false)))) else (some false)))) else (some false)))) else (some false))) = some r := H
        have A8 := Aside0.mk A80
        clear A80
        replace H := Option.bind_eq_some_iff.mp H
        obtain ⟨t182, A90, H⟩ := H
        replace H : (if (t181 == t182) = true then ((date_Weekday.f a0).bind fun t183 => ((corebankref04_Weekday.f a0).bind fun t184 => (if t183 = t184 then ((date_MonthEnd.f k a0).bind fun t185 => ((corebankref04_MonthEnd.f k a0).bind fun t186 => (if t185 = t186 then ((date_Format.f k a0).bind fun t187 => ((corebankref04_Format.f k a0).bind fun t188 => (if t187.toList = t188.toList then ((date_Leap.f a1).bind fun t189 => ((corebankref04_Leap.f a1).bind fun t190 => (if (t189 == t190) = true then ((corebanklaw04_live.f k).bind fun t191 => (some t191)) else (some false)))) else (some false)))) else (some false)))) else (some false)))) else (some false)) = some r := H
        have A9 := Aside0.mk A90
        clear A90
        by_cases c10 : (t181 == t182) = true
        · rw [if_pos c10] at H
          have c10b0 : (t181 == t182) = true := c10
          (try (have c10b1 : decide (t181 = t182) = true := by simpa using c10))
          (try (have c10b2 : (t181 == t182) = true := by simpa using c10))
          clear c10
          replace H := Option.bind_eq_some_iff.mp H
          obtain ⟨t183, A110, H⟩ := H
          replace H : ((corebankref04_Weekday.f a0).bind fun t184 => (if t183 = t184 then ((date_MonthEnd.f k a0).bind fun t185 => ((corebankref04_MonthEnd.f k a0).bind fun t186 => (if t185 = t186 then ((date_Format.f k a0).bind fun t187 => ((corebankref04_Format.f k a0).bind fun t188 => (if t187.toList = t188.toList then ((date_Leap.f a1).bind fun t189 => ((corebankref04_Leap.f a1).bind fun t190 => (if (t189 == t190) = true then ((corebanklaw04_live.f k).bind fun t191 => (some t191)) else (some false)))) else (some false)))) else (some false)))) else (some false))) = some r := H
          have A11 := Aside0.mk A110
          clear A110
          replace H := Option.bind_eq_some_iff.mp H
          obtain ⟨t184, A120, H⟩ := H
          replace H : (if t183 = t184 then ((date_MonthEnd.f k a0).bind fun t185 => ((corebankref04_MonthEnd.f k a0).bind fun t186 => (if t185 = t186 then ((date_Format.f k a0).bind fun t187 => ((corebankref04_Format.f k a0).bind fun t188 => (if t187.toList = t188.toList then ((date_Leap.f a1).bind fun t189 => ((corebankref04_Leap.f a1).bind fun t190 => (if (t189 == t190) = true then ((corebanklaw04_live.f k).bind fun t191 => (some t191)) else (some false)))) else (some false)))) else (some false)))) else (some false)) = some r := H
          have A12 := Aside0.mk A120
          clear A120
          by_cases c13 : t183 = t184
          · rw [if_pos c13] at H
            have c13b0 : (t183 == t184) = true := beq_iff_eq.mpr c13
            have c13b1 : (t183 != t184) = false := bne_eq_false_iff_eq.mpr c13
            clear c13
            replace H := Option.bind_eq_some_iff.mp H
            obtain ⟨t185, A140, H⟩ := H
            replace H : ((corebankref04_MonthEnd.f k a0).bind fun t186 => (if t185 = t186 then ((date_Format.f k a0).bind fun t187 => ((corebankref04_Format.f k a0).bind fun t188 => (if t187.toList = t188.toList then ((date_Leap.f a1).bind fun t189 => ((corebankref04_Leap.f a1).bind fun t190 => (if (t189 == t190) = true then ((corebanklaw04_live.f k).bind fun t191 => (some t191)) else (some false)))) else (some false)))) else (some false))) = some r := H
            have A14 := Aside0.mk A140
            clear A140
            replace H := Option.bind_eq_some_iff.mp H
            obtain ⟨t186, A150, H⟩ := H
            replace H : (if t185 = t186 then ((date_Format.f k a0).bind fun t187 => ((corebankref04_Format.f k a0).bind fun t188 => (if t187.toList = t188.toList then ((date_Leap.f a1).bind fun t189 => ((corebankref04_Leap.f a1).bind fun t190 => (if (t189 == t190) = true then ((corebanklaw04_live.f k).bind fun t191 => (some t191)) else (some false)))) else (some false)))) else (some false)) = some r := H
            have A15 := Aside0.mk A150
            clear A150
            by_cases c16 : t185 = t186
            · rw [if_pos c16] at H
              have c16b0 : (t185 == t186) = true := beq_iff_eq.mpr c16
              have c16b1 : (t185 != t186) = false := bne_eq_false_iff_eq.mpr c16
              clear c16
              replace H := Option.bind_eq_some_iff.mp H
              obtain ⟨t187, A170, H⟩ := H
              replace H : ((corebankref04_Format.f k a0).bind fun t188 => (if t187.toList = t188.toList then ((date_Leap.f a1).bind fun t189 => ((corebankref04_Leap.f a1).bind fun t190 => (if (t189 == t190) = true then ((corebanklaw04_live.f k).bind fun t191 => (some t191)) else (some false)))) else (some false))) = some r := H
              have A17 := Aside0.mk A170
              clear A170
              replace H := Option.bind_eq_some_iff.mp H
              obtain ⟨t188, A180, H⟩ := H
              replace H : (if t187.toList = t188.toList then ((date_Leap.f a1).bind fun t189 => ((corebankref04_Leap.f a1).bind fun t190 => (if (t189 == t190) = true then ((corebanklaw04_live.f k).bind fun t191 => (some t191)) else (some false)))) else (some false)) = some r := H
              have A18 := Aside0.mk A180
              clear A180
              by_cases c19 : t187.toList = t188.toList
              · rw [if_pos c19] at H
                have c19b0 : (t187.toList == t188.toList) = true := beq_iff_eq.mpr c19
                have c19b1 : (t187.toList != t188.toList) = false := bne_eq_false_iff_eq.mpr c19
                clear c19
                replace H := Option.bind_eq_some_iff.mp H
                obtain ⟨t189, A200, H⟩ := H
                replace H : ((corebankref04_Leap.f a1).bind fun t190 => (if (t189 == t190) = true then ((corebanklaw04_live.f k).bind fun t191 => (some t191)) else (some false))) = some r := H
                have A20 := Aside0.mk A200
                clear A200
                replace H := Option.bind_eq_some_iff.mp H
                obtain ⟨t190, A210, H⟩ := H
                replace H : (if (t189 == t190) = true then ((corebanklaw04_live.f k).bind fun t191 => (some t191)) else (some false)) = some r := H
                have A21 := Aside0.mk A210
                clear A210
                by_cases c22 : (t189 == t190) = true
                · rw [if_pos c22] at H
                  have c22b0 : (t189 == t190) = true := c22
                  (try (have c22b1 : decide (t189 = t190) = true := by simpa using c22))
                  (try (have c22b2 : (t189 == t190) = true := by simpa using c22))
                  clear c22
                  replace H := Option.bind_eq_some_iff.mp H
                  obtain ⟨t191, A230, H⟩ := H
                  replace H : (some t191) = some r := H
                  have A23 := Aside0.mk A230
                  clear A230
                  obtain rfl := Option.some.inj H
                  go_enter Tryd.func3, Tryd.ntmps3
                  go_wp2_with (first | ((with_reducible refine gate_callee (f := 9) rfl ?_); refine goesL_ (some 13) rfl rfl Tryd.func9 (by kernel_rfl) rfl #[.int .i64 a0] rfl (by (try simp only [List.map_toArray, List.map_cons, List.map_nil]); first | done | rfl | (simp only [List.length_drop, List.length_take]; rfl)) ?_; (with_reducible refine (date_Civil.calls k a0 t175 t176 t177 _ A3.out).mono ?_); rintro e w24 ⟨rfl, hb⟩; refine ⟨_, rfl, ?_⟩; have n0_ := Aside0.mk (below_step (by repeat (first | (with_reducible first | exact HB.out | apply below_alloc | apply pw_below_drewN | apply below_drew1) | exact HB.out)) hb); clear HB; have HB := n0_; clear n0_; (try clear hb); (try clear hb2); (try clear hk); (try clear hi)) | ((with_reducible refine gate_callee (f := 10) rfl ?_); refine goesL_ (some 19) rfl rfl Tryd.func10 (by kernel_rfl) rfl #[.int .i64 a0] rfl (by (try simp only [List.map_toArray, List.map_cons, List.map_nil]); first | done | rfl | (simp only [List.length_drop, List.length_take]; rfl)) ?_; (with_reducible refine (corebankref04_Civil.calls k a0 t178 t179 t180 _ A4.out).mono ?_); rintro e w' ⟨rfl, ⟨nd, rfl⟩⟩; refine ⟨_, rfl, ?_⟩) | (go_at_call 11; (with_reducible refine (date_Valid.calls a0 t181 _ A8.out).mono ?_); rintro e w' ⟨rfl, ⟨nd, rfl⟩⟩) | (go_at_call 12; (with_reducible refine (corebankref04_Valid.calls a0 t182 _ A9.out).mono ?_); rintro e w' ⟨rfl, ⟨nd, rfl⟩⟩) | (go_at_call 13; (with_reducible refine (date_Weekday.calls a0 t183 _ A11.out).mono ?_); rintro e w' ⟨rfl, ⟨nd, rfl⟩⟩) | (go_at_call 14; (with_reducible refine (corebankref04_Weekday.calls a0 t184 _ A12.out).mono ?_); rintro e w' ⟨rfl, ⟨nd, rfl⟩⟩) | (go_at_call 15; (with_reducible refine (date_MonthEnd.calls k a0 t185 _ A14.out).mono ?_); rintro e w25 ⟨rfl, hb⟩; have n0_ := Aside0.mk (below_step (by repeat (first | (with_reducible first | exact HB.out | apply below_alloc | apply pw_below_drewN | apply below_drew1) | exact HB.out)) hb); clear HB; have HB := n0_; clear n0_; (try clear hb); (try clear hb2); (try clear hk); (try clear hi)) | (go_at_call 16; (with_reducible refine (corebankref04_MonthEnd.calls k a0 t186 _ A15.out).mono ?_); rintro e w' ⟨rfl, ⟨nd, rfl⟩⟩) | (go_at_call 17; (with_reducible refine (date_Format.calls k a0 t187 _ A17.out ?side1).mono ?_); (case side1 => exact Glob.at HG (by repeat (first | (with_reducible first | exact HB.out | apply below_alloc | apply pw_below_drewN | apply below_drew1) | exact HB.out))); rintro e w26 ⟨rfl, hb⟩; have n0_ := Aside0.mk (below_step (by repeat (first | (with_reducible first | exact HB.out | apply below_alloc | apply pw_below_drewN | apply below_drew1) | exact HB.out)) hb); clear HB; have HB := n0_; clear n0_; (try clear hb); (try clear hb2); (try clear hk); (try clear hi)) | (go_at_call 18; (with_reducible refine (corebankref04_Format.calls k a0 t188 _ A18.out).mono ?_); rintro e w' ⟨rfl, ⟨nd, rfl⟩⟩) | (go_at_call 19; (with_reducible refine (date_Leap.calls a1 t189 _ A20.out).mono ?_); rintro e w' ⟨rfl, ⟨nd, rfl⟩⟩) | (go_at_call 20; (with_reducible refine (corebankref04_Leap.calls a1 t190 _ A21.out).mono ?_); rintro e w' ⟨rfl, ⟨nd, rfl⟩⟩) | (go_at_call 21; (with_reducible refine (corebanklaw04_live.calls k  t191 _ A23.out ?side2 ?side1).mono ?_); (case side1 => first | exact HT.out | rfl); (case side2 => exact Glob.at HG (by repeat (first | (with_reducible first | exact HB.out | apply below_alloc | apply pw_below_drewN | apply below_drew1) | exact HB.out))); rintro e w27 ⟨rfl, hb⟩; have n0_ := Aside0.mk (below_step (by repeat (first | (with_reducible first | exact HB.out | apply below_alloc | apply pw_below_drewN | apply below_drew1) | exact HB.out)) hb); clear HB; have HB := n0_; clear n0_; (try clear hb); (try clear hb2); (try clear hk); (try clear hi)))
                  go_ret
                  exact ⟨by first | rfl | (simp [errW_none, errW_some] <;> rfl) | (simp [*, errW_none, errW_some] <;> rfl), by repeat (first | (with_reducible first | exact HB.out | apply below_alloc | apply pw_below_drewN | apply below_drew1) | exact HB.out)⟩
                · rw [if_neg c22] at H
                  have c22b0 : (t189 == t190) = false := by simpa using c22
                  (try (have c22b1 : decide (t189 = t190) = false := by simpa using c22))
                  (try (have c22b2 : (t189 == t190) = false := by simpa using c22))
                  (try (have c22b3 : ¬ (t189 = t190) := by simpa using c22))
                  clear c22
                  exact absurd ((Option.some.inj H).trans HT.out) (by simp)
              · rw [if_neg c19] at H
                have c19b0 : (t187.toList == t188.toList) = false := beq_eq_false_iff_ne.mpr c19
                have c19b1 : (t187.toList != t188.toList) = true := bne_iff_ne.mpr c19
                exact absurd ((Option.some.inj H).trans HT.out) (by simp)
            · rw [if_neg c16] at H
              have c16b0 : (t185 == t186) = false := beq_eq_false_iff_ne.mpr c16
              have c16b1 : (t185 != t186) = true := bne_iff_ne.mpr c16
              exact absurd ((Option.some.inj H).trans HT.out) (by simp)
          · rw [if_neg c13] at H
            have c13b0 : (t183 == t184) = false := beq_eq_false_iff_ne.mpr c13
            have c13b1 : (t183 != t184) = true := bne_iff_ne.mpr c13
            exact absurd ((Option.some.inj H).trans HT.out) (by simp)
        · rw [if_neg c10] at H
          have c10b0 : (t181 == t182) = false := by simpa using c10
          (try (have c10b1 : decide (t181 = t182) = false := by simpa using c10))
          (try (have c10b2 : (t181 == t182) = false := by simpa using c10))
          (try (have c10b3 : ¬ (t181 = t182) := by simpa using c10))
          clear c10
          exact absurd ((Option.some.inj H).trans HT.out) (by simp)
      · rw [if_neg c7] at H
        have c7b0 : (t177 == t180) = false := beq_eq_false_iff_ne.mpr c7
        have c7b1 : (t177 != t180) = true := bne_iff_ne.mpr c7
        exact absurd ((Option.some.inj H).trans HT.out) (by simp)
    · rw [if_neg c6] at H
      have c6b0 : (t176 == t179) = false := beq_eq_false_iff_ne.mpr c6
      have c6b1 : (t176 != t179) = true := bne_iff_ne.mpr c6
      exact absurd ((Option.some.inj H).trans HT.out) (by simp)
  · rw [if_neg c5] at H
    have c5b0 : (t175 == t178) = false := beq_eq_false_iff_ne.mpr c5
    have c5b1 : (t175 != t178) = true := bne_iff_ne.mpr c5
    exact absurd ((Option.some.inj H).trans HT.out) (by simp)

/-- THE ONE PURE STATEMENT of corebanklaw04_DateCivils: yours. -/
def corebanklaw04_DateCivils.Pure : Prop := ∀ (a0 : Int) (a1 : Int), (Lit.int .i64 a0).wf = true → (Lit.int .i64 a1).wf = true → ∃ k, corebanklaw04_DateCivils.f k a0 a1 = some true
theorem corebanklaw04_DateCivils.walk (P : corebanklaw04_DateCivils.Pure) (a0 : Int) (a1 : Int) (w : World) (w0 : (Lit.int .i64 a0).wf = true) (w1 : (Lit.int .i64 a1).wf = true) (hG : Glob w) :
    Calls Tryd.prog 3 #[.int .i64 a0, .int .i64 a1] w fun e w' => e = .returned (.bool true) ∧ Below w.heap.size w w' := by
  obtain ⟨k, h⟩ := P a0 a1 w0 w1
  refine (corebanklaw04_DateCivils.calls k a0 a1 true w h hG rfl).mono ?_
  rintro e w' ⟨rfl, hd⟩
  exact ⟨rfl, hd⟩

/-! ### corebankref04_Day: function 23 -/
mutual
def corebankref04_Day.j0 : Nat → Int → Int → Int → Bool → Option (Int × Int)
  | 0, _, _, _, _ => none
  | k + 1, x0, x1, x2, x27 => if x27 = true then (some (0, 1)) else (corebankref04_Day.l0 k x0 x1 (wrap64 (x2 - 1)) 2000)
def corebankref04_Day.l0 : Nat → Int → Int → Int → Int → Option (Int × Int)
  | 0, _, _, _, _ => none
  | k + 1, x0, x1, x8, x9 => if x9 < x0 then ((corebankref04_yearLength.f x9).bind fun t193 => (corebankref04_Day.l0 k x0 x1 (wrap64 (x8 + t193)) (wrap64 (x9 + 1)))) else (corebankref04_Day.l1 k x0 x1 x8 1)
def corebankref04_Day.l1 : Nat → Int → Int → Int → Int → Option (Int × Int)
  | 0, _, _, _, _ => none
  | k + 1, x0, x1, x8, x10 => if x10 < x1 then ((corebankref04_Length.f k x0 x10).bind fun t194 => (corebankref04_Day.l1 k x0 x1 (wrap64 (x8 + t194)) (wrap64 (x10 + 1)))) else (some (x8, 0))
end
def corebankref04_Day.f (k : Nat) (a0 : Int) (a1 : Int) (a2 : Int) : Option (Int × Int) := if a0 < 2000 then (corebankref04_Day.j0 k a0 a1 a2 true) else (if a0 > 2199 then (corebankref04_Day.j0 k a0 a1 a2 true) else (if a2 < 1 then (corebankref04_Day.j0 k a0 a1 a2 true) else ((corebankref04_Length.f k a0 a1).bind fun t192 => (corebankref04_Day.j0 k a0 a1 a2 (decide (a2 > t192))))))
theorem corebankref04_Day.mono_l : ∀ k, (∀ y0 y1 y2 y3, LeO (corebankref04_Day.j0 k y0 y1 y2 y3) (corebankref04_Day.j0 (k + 1) y0 y1 y2 y3)) ∧ (∀ y0 y1 y2 y3, LeO (corebankref04_Day.l0 k y0 y1 y2 y3) (corebankref04_Day.l0 (k + 1) y0 y1 y2 y3)) ∧ (∀ y0 y1 y2 y3, LeO (corebankref04_Day.l1 k y0 y1 y2 y3) (corebankref04_Day.l1 (k + 1) y0 y1 y2 y3))
  | 0 => ⟨fun _ _ _ _ r h => by simp [corebankref04_Day.j0] at h, fun _ _ _ _ r h => by simp [corebankref04_Day.l0] at h, fun _ _ _ _ r h => by simp [corebankref04_Day.l1] at h⟩
  | k + 1 => by
    obtain ⟨ih0, ih1, ih2⟩ := corebankref04_Day.mono_l k
    refine ⟨?_, ?_, ?_⟩
    · intro y0 y1 y2 y3
      unfold corebankref04_Day.j0
      repeat' first
      | (with_reducible exact ih0 _ _ _ _)
      | (with_reducible exact ih1 _ _ _ _)
      | (with_reducible exact ih2 _ _ _ _)
      | (with_reducible exact corebankref04_Length.mono _ _ _)
      | (with_reducible exact LeO.refl _)
      | (with_reducible exact LeO.none _)
      | (with_reducible refine LeO.ite ?_ ?_)
      | (with_reducible refine LeO.bind ?_ (fun _ => ?_))
      | exact ih0 _ _ _ _
      | exact ih1 _ _ _ _
      | exact ih2 _ _ _ _
      | exact corebankref04_Length.mono _ _ _
      | exact LeO.none _
      | refine LeO.ite ?_ ?_
      | refine LeO.bind ?_ (fun _ => ?_)
    · intro y0 y1 y2 y3
      unfold corebankref04_Day.l0
      repeat' first
      | (with_reducible exact ih0 _ _ _ _)
      | (with_reducible exact ih1 _ _ _ _)
      | (with_reducible exact ih2 _ _ _ _)
      | (with_reducible exact corebankref04_Length.mono _ _ _)
      | (with_reducible exact LeO.refl _)
      | (with_reducible exact LeO.none _)
      | (with_reducible refine LeO.ite ?_ ?_)
      | (with_reducible refine LeO.bind ?_ (fun _ => ?_))
      | exact ih0 _ _ _ _
      | exact ih1 _ _ _ _
      | exact ih2 _ _ _ _
      | exact corebankref04_Length.mono _ _ _
      | exact LeO.none _
      | refine LeO.ite ?_ ?_
      | refine LeO.bind ?_ (fun _ => ?_)
    · intro y0 y1 y2 y3
      unfold corebankref04_Day.l1
      repeat' first
      | (with_reducible exact ih0 _ _ _ _)
      | (with_reducible exact ih1 _ _ _ _)
      | (with_reducible exact ih2 _ _ _ _)
      | (with_reducible exact corebankref04_Length.mono _ _ _)
      | (with_reducible exact LeO.refl _)
      | (with_reducible exact LeO.none _)
      | (with_reducible refine LeO.ite ?_ ?_)
      | (with_reducible refine LeO.bind ?_ (fun _ => ?_))
      | exact ih0 _ _ _ _
      | exact ih1 _ _ _ _
      | exact ih2 _ _ _ _
      | exact corebankref04_Length.mono _ _ _
      | exact LeO.none _
      | refine LeO.ite ?_ ?_
      | refine LeO.bind ?_ (fun _ => ?_)
theorem corebankref04_Day.mono : ∀ a0 a1 a2 k, LeO (corebankref04_Day.f k a0 a1 a2) (corebankref04_Day.f (k + 1) a0 a1 a2) := by
  intro a0 a1 a2 k
  obtain ⟨ih0, ih1, ih2⟩ := corebankref04_Day.mono_l k
  unfold corebankref04_Day.f
  repeat' first
      | (with_reducible exact ih0 _ _ _ _)
      | (with_reducible exact ih1 _ _ _ _)
      | (with_reducible exact ih2 _ _ _ _)
      | (with_reducible exact corebankref04_Length.mono _ _ _)
      | (with_reducible exact LeO.refl _)
      | (with_reducible exact LeO.none _)
      | (with_reducible refine LeO.ite ?_ ?_)
      | (with_reducible refine LeO.bind ?_ (fun _ => ?_))
      | exact ih0 _ _ _ _
      | exact ih1 _ _ _ _
      | exact ih2 _ _ _ _
      | exact corebankref04_Length.mono _ _ _
      | exact LeO.none _
      | refine LeO.ite ?_ ?_
      | refine LeO.bind ?_ (fun _ => ?_)
set_option maxHeartbeats 8000000 in
set_option maxRecDepth 100000 in
theorem corebankref04_Day.calls (k : Nat) (a0 : Int) (a1 : Int) (a2 : Int) (r1 : Int) (r2 : Int) (w : World) (h : corebankref04_Day.f k a0 a1 a2 = some (r1, r2)) :
    Calls Tryd.prog 23 #[.int .i64 a0, .int .i64 a1, .int .i64 a2] w fun e w' => e = .returned (.tuple #[.int .i64 r1, .int .i64 r2]) ∧ Drawn0 w w' := by
  have H : (if a0 < 2000 then (corebankref04_Day.j0 k a0 a1 a2 true) else (if a0 > 2199 then (corebankref04_Day.j0 k a0 a1 a2 true) else (if a2 < 1 then (corebankref04_Day.j0 k a0 a1 a2 true) else ((corebankref04_Length.f k a0 a1).bind fun t192 => (corebankref04_Day.j0 k a0 a1 a2 (decide (a2 > t192))))))) = some (r1, r2) := h
  clear h
  have HC4 := Aside0.mk H
  clear H
  go_enter Tryd.func23, Tryd.ntmps23
  go_upto_region 1 with (fail)
  go_cut [27] (fun v27 wc => ∃ (kq : Nat) (x27_3 : Bool), v27 = .bool x27_3 ∧ Aside0 (corebankref04_Day.j0 kq a0 a1 a2 x27_3 = some (r1, r2)) ∧ Aside0 (kq ≤ k) ∧ Drawn0 w wc)
  case first =>
    have H := HC4.out
    clear HC4
    by_cases c5 : a0 < 2000
    · rw [if_pos c5] at H
      have c5b0 : decide (a0 < 2000) = true := decide_eq_true c5
      clear c5
      (first | rw [c5b0] | (simp only [i64_w, i32_w]; rw [c5b0]) | skip)
      have H' := Aside0.mk H
      clear H
      go_wp2
      go_meet
      case rel => exact ⟨_, (true), (by first | rfl | (simp; done) | (simp [*]; done)), H', ⟨by first | omega | exact Nat.le_refl _⟩, by repeat (first | exact Drawn0.refl _ | apply Drawn0.step)⟩
    · rw [if_neg c5] at H
      have c5b0 : decide (a0 < 2000) = false := decide_eq_false c5
      clear c5
      (first | rw [c5b0] | (simp only [i64_w, i32_w]; rw [c5b0]) | skip)
      by_cases c6 : a0 > 2199
      · rw [if_pos c6] at H
        have c6b0 : decide (2199 < a0) = true := decide_eq_true c6
        clear c6
        have H' := Aside0.mk H
        clear H
        go_wp2
        go_meet
        case rel => exact ⟨_, (true), (by first | rfl | (simp; done) | (simp [*]; done)), H', ⟨by first | omega | exact Nat.le_refl _⟩, by repeat (first | exact Drawn0.refl _ | apply Drawn0.step)⟩
      · rw [if_neg c6] at H
        have c6b0 : decide (2199 < a0) = false := decide_eq_false c6
        clear c6
        by_cases c7 : a2 < 1
        · rw [if_pos c7] at H
          have c7b0 : decide (a2 < 1) = true := decide_eq_true c7
          clear c7
          have H' := Aside0.mk H
          clear H
          go_wp2
          go_meet
          case rel => exact ⟨_, (true), (by first | rfl | (simp; done) | (simp [*]; done)), H', ⟨by first | omega | exact Nat.le_refl _⟩, by repeat (first | exact Drawn0.refl _ | apply Drawn0.step)⟩
        · rw [if_neg c7] at H
          have c7b0 : decide (a2 < 1) = false := decide_eq_false c7
          clear c7
          replace H := Option.bind_eq_some_iff.mp H
          obtain ⟨t192, A80, H⟩ := H
          replace H : (corebankref04_Day.j0 k a0 a1 a2 (decide (a2 > t192))) = some (r1, r2) := H
          have A8 := Aside0.mk A80
          clear A80
          have H' := Aside0.mk H
          clear H
          go_wp2_with (first | (go_at_call 31; (with_reducible refine (corebankref04_Length.calls k a0 a1 t192 _ A8.out).mono ?_); rintro e w' ⟨rfl, ⟨nd, rfl⟩⟩))
          go_meet
          case rel => exact ⟨_, (decide (a2 > t192)), (by first | rfl | (simp; done) | (simp [*]; done)), H', ⟨by first | omega | exact Nat.le_refl _⟩, by repeat (first | exact Drawn0.refl _ | apply Drawn0.step)⟩
  case rest =>
    clear HC4
    try clear c2
    try clear p2
    try clear c5
    try clear c5b0
    try clear c6
    try clear c6b0
    try clear c7
    try clear c7b0
    obtain ⟨kq, x27_3, rfl, HA, HJ3, ⟨mc3, rfl⟩⟩ := hcut
    cases kq with
    | zero => exact absurd HA.out (by simp [corebankref04_Day.j0])
    | succ kj3 =>
      have H := HA.out
      clear HA
      simp only [corebankref04_Day.j0] at H
      by_cases c9 : x27_3 = true
      · subst c9
        have H1 : (some (0, 1)) = some (r1, r2) := by rw [if_pos rfl] at H; exact H
        clear H
        have H := H1
        clear H1
        simp only [Option.some.injEq, Prod.mk.injEq] at H
        obtain ⟨rfl, rfl⟩ := H
        go_wp2
        go_ret2
        exact ⟨by first | rfl | (simp; done) | (simp [*]; done), by repeat (first | exact Drawn0.refl _ | apply Drawn0.step)⟩
      · replace c9 := Bool.eq_false_iff.mpr c9
        subst c9
        have H1 : (corebankref04_Day.l0 kj3 a0 a1 (wrap64 (a2 - 1)) 2000) = some (r1, r2) := by rw [if_neg (show ¬ (false = true) by decide)] at H; exact H
        clear H
        have H := H1
        clear H1
        have H' := Aside0.mk H
        clear H
        go_wp2
        go_loopg [8, 9] kj3 (fun kq v8 v9 w' => ∃ (x8_2 : Int) (x9_2 : Int), v8 = .int .i64 x8_2 ∧ v9 = .int .i64 x9_2 ∧ Aside0 (corebankref04_Day.l0 kq a0 a1 x8_2 x9_2 = some (r1, r2)) ∧ Aside0 (kq ≤ kj3) ∧ Drawn0 w w')
        case atStart => exact ⟨(wrap64 (a2 - 1)), (2000), (by first | rfl | (simp; done) | (simp [*]; done)), (by first | rfl | (simp; done) | (simp [*]; done)), H', ⟨Nat.le_refl _⟩, by repeat (first | exact Drawn0.refl _ | apply Drawn0.step)⟩
        case round =>
          clear H'
          try clear c2
          try clear p2
          try clear c3
          try clear c5
          try clear c5b0
          try clear c6
          try clear c6b0
          try clear p6
          try clear c7
          try clear c7b0
          try clear c9
          try clear p2
          obtain ⟨x8_2, x9_2, rfl, rfl, HA, HK2, ⟨m2, rfl⟩⟩ := hrel
          cases gk with
          | zero => exact absurd HA.out (by simp [corebankref04_Day.l0])
          | succ k2 =>
            have H := HA.out
            clear HA
            simp only [corebankref04_Day.l0] at H
            by_cases c10 : x9_2 < a0
            · rw [if_pos c10] at H
              have c10b0 : decide (x9_2 < a0) = true := decide_eq_true c10
              clear c10
              replace H := Option.bind_eq_some_iff.mp H
              obtain ⟨t193, A110, H⟩ := H
              replace H : (corebankref04_Day.l0 k2 a0 a1 (wrap64 (x8_2 + t193)) (wrap64 (x9_2 + 1))) = some (r1, r2) := H
              have A11 := Aside0.mk A110
              clear A110
              have H' := Aside0.mk H
              clear H
              go_wp2_with (first | ((with_reducible refine gate_callee (f := 30) rfl ?_); refine goesL_ (some 37) rfl rfl Tryd.func30 (by kernel_rfl) rfl #[.int .i64 x9_2] rfl (by (try simp only [List.map_toArray, List.map_cons, List.map_nil]); first | done | rfl | (simp only [List.length_drop, List.length_take]; rfl)) ?_; (with_reducible refine (corebankref04_yearLength.calls x9_2 t193 _ A11.out).mono ?_); rintro e w' ⟨rfl, ⟨nd, rfl⟩⟩; refine ⟨_, rfl, ?_⟩))
              go_roundg k2
              case measure => have := HJ3.out; have := HK2.out; omega
              case rel => exact ⟨(wrap64 (x8_2 + t193)), (wrap64 (x9_2 + 1)), (by first | rfl | (simp; done) | (simp [*]; done)), (by first | rfl | (simp; done) | (simp [*]; done)), H', ⟨by have := HJ3.out; have := HK2.out; omega⟩, by repeat (first | exact Drawn0.refl _ | apply Drawn0.step)⟩
            · rw [if_neg c10] at H
              have c10b0 : decide (x9_2 < a0) = false := decide_eq_false c10
              clear c10
              have H' := Aside0.mk H
              clear H
              go_wp2
              go_loopg [8, 10] k2 (fun kq v8 v10 w' => ∃ (x8_3 : Int) (x10_3 : Int), v8 = .int .i64 x8_3 ∧ v10 = .int .i64 x10_3 ∧ Aside0 (corebankref04_Day.l1 kq a0 a1 x8_3 x10_3 = some (r1, r2)) ∧ Aside0 (kq ≤ k2) ∧ Drawn0 w w')
              case atStart => exact ⟨(x8_2), (1), (by first | rfl | (simp; done) | (simp [*]; done)), (by first | rfl | (simp; done) | (simp [*]; done)), H', ⟨Nat.le_refl _⟩, by repeat (first | exact Drawn0.refl _ | apply Drawn0.step)⟩
              case round =>
                clear H'
                try clear c1
                try clear c2
                try clear p2
                try clear c3
                try clear c5
                try clear c5b0
                try clear c6
                try clear c6b0
                try clear p6
                try clear c7
                try clear c7b0
                try clear c9
                try clear c10
                try clear c10b0
                try clear p2
                try clear p6
                obtain ⟨x8_3, x10_3, rfl, rfl, HA, HK3, ⟨m3, rfl⟩⟩ := hrel
                cases gk with
                | zero => exact absurd HA.out (by simp [corebankref04_Day.l1])
                | succ k3 =>
                  have H := HA.out
                  clear HA
                  simp only [corebankref04_Day.l1] at H
                  by_cases c12 : x10_3 < a1
                  · rw [if_pos c12] at H
                    have c12b0 : decide (x10_3 < a1) = true := decide_eq_true c12
                    clear c12
                    replace H := Option.bind_eq_some_iff.mp H
                    obtain ⟨t194, A130, H⟩ := H
                    replace H : (corebankref04_Day.l1 k3 a0 a1 (wrap64 (x8_3 + t194)) (wrap64 (x10_3 + 1))) = some (r1, r2) := H
                    have A13 := Aside0.mk A130
                    clear A130
                    have H' := Aside0.mk H
                    clear H
                    go_wp2_with (first | ((with_reducible refine gate_callee (f := 31) rfl ?_); refine goesL_ (some 47) rfl rfl Tryd.func31 (by kernel_rfl) rfl #[.int .i64 a0, .int .i64 x10_3] rfl (by (try simp only [List.map_toArray, List.map_cons, List.map_nil]); first | done | rfl | (simp only [List.length_drop, List.length_take]; rfl)) ?_; (with_reducible refine (corebankref04_Length.calls k3 a0 x10_3 t194 _ A13.out).mono ?_); rintro e w' ⟨rfl, ⟨nd, rfl⟩⟩; refine ⟨_, rfl, ?_⟩))
                    go_roundg k3
                    case measure => have := HJ3.out; have := HK2.out; have := HK3.out; omega
                    case rel => exact ⟨(wrap64 (x8_3 + t194)), (wrap64 (x10_3 + 1)), (by first | rfl | (simp; done) | (simp [*]; done)), (by first | rfl | (simp; done) | (simp [*]; done)), H', ⟨by have := HJ3.out; have := HK2.out; have := HK3.out; omega⟩, by repeat (first | exact Drawn0.refl _ | apply Drawn0.step)⟩
                  · rw [if_neg c12] at H
                    have c12b0 : decide (x10_3 < a1) = false := decide_eq_false c12
                    clear c12
                    simp only [Option.some.injEq, Prod.mk.injEq] at H
                    obtain ⟨rfl, rfl⟩ := H
                    go_wp2
                    go_ret2
                    exact ⟨by first | rfl | (simp; done) | (simp [*]; done), by repeat (first | exact Drawn0.refl _ | apply Drawn0.step)⟩

/-! ### corebanklaw04_DateDays: function 4 -/
def corebanklaw04_DateDays.f (k : Nat) (a0 : Int) (a1 : Int) (a2 : Int) : Option (Bool) := (date_Day.f k a0 a1 a2).bind fun bt195 => ((corebankref04_Day.f k a0 a1 a2).bind fun bt197 => (if bt195.1 = bt197.1 then (if bt195.2 = bt197.2 then ((corebanklaw04_live.f k).bind fun t199 => (some t199)) else (some false)) else (some false)))
theorem corebanklaw04_DateDays.mono : ∀ a0 a1 a2 k, LeO (corebanklaw04_DateDays.f k a0 a1 a2) (corebanklaw04_DateDays.f (k + 1) a0 a1 a2) := by
  intro a0 a1 a2 k
  unfold corebanklaw04_DateDays.f
  repeat' first
      | (with_reducible exact corebanklaw04_live.mono _)
      | (with_reducible exact corebankref04_Day.mono _ _ _ _)
      | (with_reducible exact date_Day.mono _ _ _ _)
      | (with_reducible exact LeO.refl _)
      | (with_reducible exact LeO.none _)
      | (with_reducible refine LeO.ite ?_ ?_)
      | (with_reducible refine LeO.bind ?_ (fun _ => ?_))
      | exact corebanklaw04_live.mono _
      | exact corebankref04_Day.mono _ _ _ _
      | exact date_Day.mono _ _ _ _
      | exact LeO.none _
      | refine LeO.ite ?_ ?_
      | refine LeO.bind ?_ (fun _ => ?_)
set_option maxHeartbeats 8000000 in
set_option maxRecDepth 100000 in
theorem corebanklaw04_DateDays.calls (k : Nat) (a0 : Int) (a1 : Int) (a2 : Int) (r : Bool) (w : World) (h : corebanklaw04_DateDays.f k a0 a1 a2 = some r) (hG : Glob w) (ht : r = true) :
    Calls Tryd.prog 4 #[.int .i64 a0, .int .i64 a1, .int .i64 a2] w fun e w' => e = .returned (.bool r) ∧ Below w.heap.size w w' := by
  have HG := Aside0.mk hG
  clear hG
  have HT := Aside0.mk ht
  clear ht
  have HB := Aside0.mk (Below.refl w.heap.size w)
  have H : ((date_Day.f k a0 a1 a2).bind fun bt195 => ((corebankref04_Day.f k a0 a1 a2).bind fun bt197 => (if bt195.1 = bt197.1 then (if bt195.2 = bt197.2 then ((corebanklaw04_live.f k).bind fun t199 => (some t199)) else (some false)) else (some false)))) = some r := h
  clear h
  replace H := Option.bind_eq_some_iff.mp H
  obtain ⟨⟨t195, t196⟩, A40, H⟩ := H
  replace H : ((corebankref04_Day.f k a0 a1 a2).bind fun bt197 => (if t195 = bt197.1 then (if t196 = bt197.2 then ((corebanklaw04_live.f k).bind fun t199 => (some t199)) else (some false)) else (some false))) = some r := H
  have A4 := Aside0.mk A40
  clear A40
  replace H := Option.bind_eq_some_iff.mp H
  obtain ⟨⟨t197, t198⟩, A50, H⟩ := H
  replace H : (if t195 = t197 then (if t196 = t198 then ((corebanklaw04_live.f k).bind fun t199 => (some t199)) else (some false)) else (some false)) = some r := H
  have A5 := Aside0.mk A50
  clear A50
  by_cases c6 : t195 = t197
  · rw [if_pos c6] at H
    have c6b0 : (t195 == t197) = true := beq_iff_eq.mpr c6
    have c6b1 : (t195 != t197) = false := bne_eq_false_iff_eq.mpr c6
    clear c6
    by_cases c7 : t196 = t198
    · rw [if_pos c7] at H
      have c7b0 : (t196 == t198) = true := beq_iff_eq.mpr c7
      have c7b1 : (t196 != t198) = false := bne_eq_false_iff_eq.mpr c7
      clear c7
      replace H := Option.bind_eq_some_iff.mp H
      obtain ⟨t199, A80, H⟩ := H
      replace H : (some t199) = some r := H
      have A8 := Aside0.mk A80
      clear A80
      obtain rfl := Option.some.inj H
      go_enter Tryd.func4, Tryd.ntmps4
      go_wp2_with (first | ((with_reducible refine gate_callee (f := 22) rfl ?_); refine goesL_ (some 15) rfl rfl Tryd.func22 (by kernel_rfl) rfl #[.int .i64 a0, .int .i64 a1, .int .i64 a2] rfl (by (try simp only [List.map_toArray, List.map_cons, List.map_nil]); first | done | rfl | (simp only [List.length_drop, List.length_take]; rfl)) ?_; (with_reducible refine (date_Day.calls k a0 a1 a2 t195 t196 _ A4.out).mono ?_); rintro e w9 ⟨rfl, hb⟩; refine ⟨_, rfl, ?_⟩; have n0_ := Aside0.mk (below_step (by repeat (first | (with_reducible first | exact HB.out | apply below_alloc | apply pw_below_drewN | apply below_drew1) | exact HB.out)) hb); clear HB; have HB := n0_; clear n0_; (try clear hb); (try clear hb2); (try clear hk); (try clear hi)) | ((with_reducible refine gate_callee (f := 23) rfl ?_); refine goesL_ (some 22) rfl rfl Tryd.func23 (by kernel_rfl) rfl #[.int .i64 a0, .int .i64 a1, .int .i64 a2] rfl (by (try simp only [List.map_toArray, List.map_cons, List.map_nil]); first | done | rfl | (simp only [List.length_drop, List.length_take]; rfl)) ?_; (with_reducible refine (corebankref04_Day.calls k a0 a1 a2 t197 t198 _ A5.out).mono ?_); rintro e w' ⟨rfl, ⟨nd, rfl⟩⟩; refine ⟨_, rfl, ?_⟩) | (go_at_call 21; (with_reducible refine (corebanklaw04_live.calls k  t199 _ A8.out ?side2 ?side1).mono ?_); (case side1 => first | exact HT.out | rfl); (case side2 => exact Glob.at HG (by repeat (first | (with_reducible first | exact HB.out | apply below_alloc | apply pw_below_drewN | apply below_drew1) | exact HB.out))); rintro e w10 ⟨rfl, hb⟩; have n0_ := Aside0.mk (below_step (by repeat (first | (with_reducible first | exact HB.out | apply below_alloc | apply pw_below_drewN | apply below_drew1) | exact HB.out)) hb); clear HB; have HB := n0_; clear n0_; (try clear hb); (try clear hb2); (try clear hk); (try clear hi)))
      go_ret
      exact ⟨by first | rfl | (simp [errW_none, errW_some] <;> rfl) | (simp [*, errW_none, errW_some] <;> rfl), by repeat (first | (with_reducible first | exact HB.out | apply below_alloc | apply pw_below_drewN | apply below_drew1) | exact HB.out)⟩
    · rw [if_neg c7] at H
      have c7b0 : (t196 == t198) = false := beq_eq_false_iff_ne.mpr c7
      have c7b1 : (t196 != t198) = true := bne_iff_ne.mpr c7
      exact absurd ((Option.some.inj H).trans HT.out) (by simp)
  · rw [if_neg c6] at H
    have c6b0 : (t195 == t197) = false := beq_eq_false_iff_ne.mpr c6
    have c6b1 : (t195 != t197) = true := bne_iff_ne.mpr c6
    exact absurd ((Option.some.inj H).trans HT.out) (by simp)

/-- THE ONE PURE STATEMENT of corebanklaw04_DateDays: yours. -/
def corebanklaw04_DateDays.Pure : Prop := ∀ (a0 : Int) (a1 : Int) (a2 : Int), (Lit.int .i64 a0).wf = true → (Lit.int .i64 a1).wf = true → (Lit.int .i64 a2).wf = true → ∃ k, corebanklaw04_DateDays.f k a0 a1 a2 = some true
theorem corebanklaw04_DateDays.walk (P : corebanklaw04_DateDays.Pure) (a0 : Int) (a1 : Int) (a2 : Int) (w : World) (w0 : (Lit.int .i64 a0).wf = true) (w1 : (Lit.int .i64 a1).wf = true) (w2 : (Lit.int .i64 a2).wf = true) (hG : Glob w) :
    Calls Tryd.prog 4 #[.int .i64 a0, .int .i64 a1, .int .i64 a2] w fun e w' => e = .returned (.bool true) ∧ Below w.heap.size w w' := by
  obtain ⟨k, h⟩ := P a0 a1 a2 w0 w1 w2
  refine (corebanklaw04_DateDays.calls k a0 a1 a2 true w h hG rfl).mono ?_
  rintro e w' ⟨rfl, hd⟩
  exact ⟨rfl, hd⟩

end Go.Proofs.YtagfmkedimhgbaaDoor.G
