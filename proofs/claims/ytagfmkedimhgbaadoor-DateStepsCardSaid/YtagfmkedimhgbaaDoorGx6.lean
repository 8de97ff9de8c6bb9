/- What functions of the program compute, as Lean functions, each with the walk that proves it, for every argument at which the Lean function answers. Written by gprint.py, a program of this session that drives the print of the kit; checked by Lean alone. -/
import Derived.Test.YtagfmkedimhgbaaDoorGx0
import Derived.Test.YtagfmkedimhgbaaDoorGx1
import Derived.Test.YtagfmkedimhgbaaDoorGx2
import Derived.Test.YtagfmkedimhgbaaDoorGx3
import Derived.Test.YtagfmkedimhgbaaDoorGx4
namespace Go.Proofs.YtagfmkedimhgbaaDoor.G
open Go.RowKit Go.Proofs.YtagfmkedimhgbaaDoorW.PrintWords Go.Proofs.YtagfmkedimhgbaaDoorW.PrintLast Go.Proofs.YtagfmkedimhgbaaDoorW.PrintMore
attribute [local go_sem] max2_int min2_int max_two min_two max_three min_three max_four min_four   -- for this text's walks alone
set_option linter.unusedVariables false
set_option linter.unusedSimpArgs false

/-! ### corebanklaw04_DateSteps: function 7 -/
def corebanklaw04_DateSteps.j0 : Nat → Int → Bool → Option (Bool)
  | 0, _, _ => none
  | k + 1, x0, x14 => if x14 = true then ((date_Valid.f x0).bind fun t225 => (if (t225 == (x0 == 73048)) = true then ((corebanklaw04_live.f k).bind fun t226 => (some t226)) else (some false))) else ((date_Civil.f k x0).bind fun bt227 => ((date_Civil.f k (wrap64 (x0 + 1))).bind fun bt230 => ((date_Weekday.f (wrap64 (x0 + 1))).bind fun t233 => ((date_Weekday.f x0).bind fun t234 => (if t233 = (Int.tmod (wrap64 (t234 + 1)) 7) then ((date_MonthEnd.f k x0).bind fun t235 => (if t235 = x0 then (if bt230.2.2 = 1 then (if bt230.2.1 = (wrap64 ((Int.tmod bt227.2.1 12) + 1)) then (if bt230.1 = (wrap64 (bt227.1 + (wrap64 (Int.tdiv bt227.2.1 12)))) then ((corebanklaw04_live.f k).bind fun t236 => (some t236)) else (some false)) else (some false)) else (some false)) else (if bt230.1 = bt227.1 then (if bt230.2.1 = bt227.2.1 then (if bt230.2.2 = (wrap64 (bt227.2.2 + 1)) then ((date_MonthEnd.f k (wrap64 (x0 + 1))).bind fun t237 => ((date_MonthEnd.f k x0).bind fun t238 => (if t237 = t238 then ((corebanklaw04_live.f k).bind fun t239 => (some t239)) else (some false)))) else (some false)) else (some false)) else (some false)))) else (some false))))))
def corebanklaw04_DateSteps.f (k : Nat) (a0 : Int) : Option (Bool) := if a0 < 0 then (corebanklaw04_DateSteps.j0 k a0 true) else (corebanklaw04_DateSteps.j0 k a0 (decide (a0 ≥ 73048)))
theorem corebanklaw04_DateSteps.mono_l : ∀ k, (∀ y0 y1, LeO (corebanklaw04_DateSteps.j0 k y0 y1) (corebanklaw04_DateSteps.j0 (k + 1) y0 y1))
  | 0 => fun _ _ r h => by simp [corebanklaw04_DateSteps.j0] at h
  | k + 1 => by
    have ih0 := corebanklaw04_DateSteps.mono_l k
    · intro y0 y1
      unfold corebanklaw04_DateSteps.j0
      repeat' first
      | (with_reducible exact ih0 _ _)
      | (with_reducible exact corebanklaw04_live.mono _)
      | (with_reducible exact date_Civil.mono _ _)
      | (with_reducible exact date_MonthEnd.mono _ _)
      | (with_reducible exact LeO.refl _)
      | (with_reducible exact LeO.none _)
      | (with_reducible refine LeO.ite ?_ ?_)
      | (with_reducible refine LeO.bind ?_ (fun _ => ?_))
      | exact ih0 _ _
      | exact corebanklaw04_live.mono _
      | exact date_Civil.mono _ _
      | exact date_MonthEnd.mono _ _
      | exact LeO.none _
      | refine LeO.ite ?_ ?_
      | refine LeO.bind ?_ (fun _ => ?_)
theorem corebanklaw04_DateSteps.mono : ∀ a0 k, LeO (corebanklaw04_DateSteps.f k a0) (corebanklaw04_DateSteps.f (k + 1) a0) := by
  intro a0 k
  have ih0 := corebanklaw04_DateSteps.mono_l k
  unfold corebanklaw04_DateSteps.f
  repeat' first
      | (with_reducible exact ih0 _ _)
      | (with_reducible exact corebanklaw04_live.mono _)
      | (with_reducible exact date_Civil.mono _ _)
      | (with_reducible exact date_MonthEnd.mono _ _)
      | (with_reducible exact LeO.refl _)
      | (with_reducible exact LeO.none _)
      | (with_reducible refine LeO.ite ?_ ?_)
      | (with_reducible refine LeO.bind ?_ (fun _ => ?_))
      | exact ih0 _ _
      | exact corebanklaw04_live.mono _
      | exact date_Civil.mono _ _
      | exact date_MonthEnd.mono _ _
      | exact LeO.none _
      | refine LeO.ite ?_ ?_
      | refine LeO.bind ?_ (fun _ => ?_)
set_option maxHeartbeats 8000000 in
set_option maxRecDepth 100000 in
theorem corebanklaw04_DateSteps.calls (k : Nat) (a0 : Int) (r : Bool) (w : World) (h : corebanklaw04_DateSteps.f k a0 = some r) (hG : Glob w) (ht : r = true) :
    Calls Tryd.prog 7 #[.int .i64 a0] w fun e w' => e = .returned (.bool r) ∧ Below w.heap.size w w' := by
  have HG := Aside0.mk hG
  clear hG
  have HT := Aside0.mk ht
  clear ht
  have HB := Aside0.mk (Below.refl w.heap.size w)
  have H : (if a0 < 0 then (corebanklaw04_DateSteps.j0 k a0 true) else (corebanklaw04_DateSteps.j0 k a0 (decide (a0 ≥ 73048)))) = some r := h
  clear h
  have HC2 := Aside0.mk H
  clear H
  go_enter Tryd.func7, Tryd.ntmps7
  go_upto_region 1 with (fail)
  go_cut [14] (fun v14 wc => ∃ (kq : Nat) (x14_1 : Bool), v14 = .bool x14_1 ∧ Aside0 (corebanklaw04_DateSteps.j0 kq a0 x14_1 = some r) ∧ Aside0 (kq ≤ k) ∧ Aside0 (Below w.heap.size w wc))
  case first =>
    have H := HC2.out
    clear HC2
    by_cases c3 : a0 < 0
    · rw [if_pos c3] at H
      have c3b0 : decide (a0 < 0) = true := decide_eq_true c3
      clear c3
      (first | rw [c3b0] | (simp only [i64_w, i32_w]; rw [c3b0]) | skip)
      have H' := Aside0.mk H
      clear H
      go_wp2
      go_meet
      case rel => exact ⟨_, (true), (by first | rfl | (simp; done) | (simp [*]; done)), H', ⟨by first | omega | exact Nat.le_refl _⟩, ⟨by repeat (first | (with_reducible first | exact HB.out | apply below_alloc | apply pw_below_drewN | apply below_drew1) | exact HB.out)⟩⟩
    · rw [if_neg c3] at H
      have c3b0 : decide (a0 < 0) = false := decide_eq_false c3
      clear c3
      (first | rw [c3b0] | (simp only [i64_w, i32_w]; rw [c3b0]) | skip)
      have H' := Aside0.mk H
      clear H
      go_wp2
      go_meet
      case rel => exact ⟨_, (decide (a0 ≥ 73048)), (by first | rfl | (simp; done) | (simp [*]; done)), H', ⟨by first | omega | exact Nat.le_refl _⟩, ⟨by repeat (first | (with_reducible first | exact HB.out | apply below_alloc | apply pw_below_drewN | apply below_drew1) | exact HB.out)⟩⟩
  case rest =>
    clear HC2
    try clear p2
    try clear c3
    try clear c3b0
    obtain ⟨kq, x14_1, rfl, HA, HJ1, HB⟩ := hcut
    cases kq with
    | zero => exact absurd HA.out (by simp [corebanklaw04_DateSteps.j0])
    | succ kj1 =>
      have H := HA.out
      clear HA
      simp only [corebanklaw04_DateSteps.j0] at H
      by_cases c4 : x14_1 = true
      · subst c4
        have H1 : ((date_Valid.f a0).bind fun t225 => (if (t225 == (a0 == 73048)) = true then ((corebanklaw04_live.f kj1).bind fun t226 => (some t226)) else (some false))) = some r := by rw [if_pos rfl] at H; exact H
        clear H
        have H := H1
        clear H1
        replace H := Option.bind_eq_some_iff.mp H
        obtain ⟨t225, A50, H⟩ := H
        replace H : (if (t225 == (a0 == 73048)) = true then ((corebanklaw04_live.f kj1).bind fun t226 => (some t226)) else (some false)) = some r := H
        have A5 := Aside0.mk A50
        clear A50
        by_cases c6 : (t225 == (a0 == 73048)) = true
        · rw [if_pos c6] at H
          have c6b0 : (t225 == (a0 == 73048)) = true := c6
          (try (have c6b1 : decide (t225 = (a0 == 73048)) = true := by simpa using c6))
          (try (have c6b2 : (t225 == (a0 == 73048)) = true := by simpa using c6))
          clear c6
          replace H := Option.bind_eq_some_iff.mp H
          obtain ⟨t226, A70, H⟩ := H
          replace H : (some t226) = some r := H
          have A7 := Aside0.mk A70
          clear A70
          obtain rfl := Option.some.inj H
          go_wp2_with (first | ((with_reducible refine gate_callee (f := 11) rfl ?_); refine goesL_ (some 16) rfl rfl Tryd.func11 (by kernel_rfl) rfl #[.int .i64 a0] rfl (by (try simp only [List.map_toArray, List.map_cons, List.map_nil]); first | done | rfl | (simp only [List.length_drop, List.length_take]; rfl)) ?_; (with_reducible refine (date_Valid.calls a0 t225 _ A5.out).mono ?_); rintro e w' ⟨rfl, ⟨nd, rfl⟩⟩; refine ⟨_, rfl, ?_⟩) | (go_at_call 21; (with_reducible refine (corebanklaw04_live.calls kj1  t226 _ A7.out ?side2 ?side1).mono ?_); (case side1 => first | exact HT.out | rfl); (case side2 => exact Glob.at HG (by repeat (first | (with_reducible first | exact HB.out | apply below_alloc | apply pw_below_drewN | apply below_drew1) | exact HB.out))); rintro e w8 ⟨rfl, hb⟩; have n0_ := Aside0.mk (below_step (by repeat (first | (with_reducible first | exact HB.out | apply below_alloc | apply pw_below_drewN | apply below_drew1) | exact HB.out)) hb); clear HB; have HB := n0_; clear n0_; (try clear hb); (try clear hb2); (try clear hk); (try clear hi)))
          go_ret
          exact ⟨by first | rfl | (simp [errW_none, errW_some] <;> rfl) | (simp [*, errW_none, errW_some] <;> rfl), by repeat (first | (with_reducible first | exact HB.out | apply below_alloc | apply pw_below_drewN | apply below_drew1) | exact HB.out)⟩
        · rw [if_neg c6] at H
          have c6b0 : (t225 == (a0 == 73048)) = false := by simpa using c6
          (try (have c6b1 : decide (t225 = (a0 == 73048)) = false := by simpa using c6))
          (try (have c6b2 : (t225 == (a0 == 73048)) = false := by simpa using c6))
          (try (have c6b3 : ¬ (t225 = (a0 == 73048)) := by simpa using c6))
          clear c6
          exact absurd ((Option.some.inj H).trans HT.out) (by simp)
      · replace c4 := Bool.eq_false_iff.mpr c4
        subst c4
        have H1 : ((date_Civil.f kj1 a0).bind fun bt227 => ((date_Civil.f kj1 (wrap64 (a0 + 1))).bind fun bt230 => ((date_Weekday.f (wrap64 (a0 + 1))).bind fun t233 => ((date_Weekday.f a0).bind fun t234 => (if t233 = (Int.tmod (wrap64 (t234 + 1)) 7) then ((date_MonthEnd.f kj1 a0).bind fun t235 => (if t235 = a0 then (if bt230.2.2 = 1 then (if bt230.2.1 = (wrap64 ((Int.tmod bt227.2.1 12) + 1)) then (if bt230.1 = (wrap64 (bt227.1 + (wrap64 (Int.tdiv bt227.2.1 12)))) then ((corebanklaw04_live.f kj1).bind fun t236 => (some t236)) else (some false)) else (some false)) else (some false)) else (if bt230.1 = bt227.1 then (if bt230.2.1 = bt227.2.1 then (if bt230.2.2 = (wrap64 (bt227.2.2 + 1)) then ((date_MonthEnd.f kj1 (wrap64 (a0 + 1))).bind fun t237 => ((date_MonthEnd.f kj1 a0).bind fun t238 => (if t237 = t238 then ((corebanklaw04_live.f kj1).bind fun t239 => (some t239)) else (some false)))) else (some false)) else (some false)) else (some false)))) else (some false)))))) = some r := by rw [if_neg (show ¬ (false = true) by decide)] at H; exact H
        clear H
        have H := H1
        clear H1
        replace H := Option.bind_eq_some_iff.mp H
        obtain ⟨⟨t227, t228, t229⟩, A90, H⟩ := H
        replace H : ((date_Civil.f kj1 (wrap64 (a0 + 1))).bind fun bt230 => ((date_Weekday.f (wrap64 (a0 + 1))).bind fun t233 => ((date_Weekday.f a0).bind fun t234 => (if t233 = (Int.tmod (wrap64 (t234 + 1)) 7) then ((date_MonthEnd.f kj1 a0).bind fun t235 => (if t235 = a0 then (if bt230.2.2 = 1 then (if bt230.2.1 = (wrap64 ((Int.tmod t228 12) + 1)) then (if bt230.1 = (wrap64 (t227 + (wrap64 (Int.tdiv t228 12)))) then ((corebanklaw04_live.f kj1).bind fun t236 => (some t236)) else (some false)) else (some false)) else (some false)) else (if bt230.1 = t227 then (if bt230.2.1 = t228 then (if bt230.2.2 = (wrap64 (t229 + 1)) then ((date_MonthEnd.f kj1 (wrap64 (a0 + 1))).bind fun t237 => ((date_MonthEnd.f kj1 a0).bind fun t238 => (if t237 = t238 then ((corebanklaw04_live.f kj1).bind fun t239 => (some t239)) else (some false)))) else (some false)) else (some false)) else (some false)))) else (some false))))) = some r := H
        have A9 := Aside0.mk A90
        clear A90
        replace H := Option.bind_eq_some_iff.mp H
        obtain ⟨⟨t230, t231, t232⟩, A100, H⟩ := H
        replace H : ((date_Weekday.f (wrap64 (a0 + 1))).bind fun t233 => ((date_Weekday.f a0).bind fun t234 => (if t233 = (Int.tmod (wrap64 (t234 + 1)) 7) then ((date_MonthEnd.f kj1 a0).bind fun t235 => (if t235 = a0 then (if t232 = 1 then (if t231 = (wrap64 ((Int.tmod t228 12) + 1)) then (if t230 = (wrap64 (t227 + (wrap64 (Int.tdiv t228 12)))) then ((corebanklaw04_live.f kj1).bind fun t236 => (some t236)) else (some false)) else (some false)) else (some false)) else (if t230 = t227 then (if t231 = t228 then (if t232 = (wrap64 (t229 + 1)) then ((date_MonthEnd.f kj1 (wrap64 (a0 + 1))).bind fun t237 => ((date_MonthEnd.f kj1 a0).bind fun t238 => (if t237 = t238 then ((corebanklaw04_live.f kj1).bind fun t239 => (some t239)) else (some false)))) else (some false)) else (some false)) else (some false)))) else (some false)))) = some r := H
        have A10 := Aside0.mk A100
        clear A100
        replace H := Option.bind_eq_some_iff.mp H
        obtain ⟨t233, A110, H⟩ := H
        replace H : ((date_Weekday.f a0).bind fun t234 => (if t233 = (Int.tmod (wrap64 (t234 + 1)) 7) then ((date_MonthEnd.f kj1 a0).bind fun t235 => (if t235 = a0 then (if t232 = 1 then (if t231 = (wrap64 ((Int.tmod t228 12) + 1)) then (if t230 = (wrap64 (t227 + (wrap64 (Int.tdiv t228 12)))) then ((corebanklaw04_live.f kj1).bind fun t236 => (some t236)) else (some false)) else (some false)) else (some false)) else (if t230 = t227 then (if t231 = t228 then (if t232 = (wrap64 (t229 + 1)) then ((date_MonthEnd.f kj1 (wrap64 (a0 + 1))).bind fun t237 => ((date_MonthEnd.f kj1 a0).bind fun t238 => (if t237 = t238 then ((corebanklaw04_live.f kj1).bind fun t239 => (some t239)) else (some false)))) else (some false)) else (some false)) else (some false)))) else (some false))) = some r := H
        have A11 := Aside0.mk A110
        clear A110
        replace H := Option.bind_eq_some_iff.mp H
        obtain ⟨t234, A120, H⟩ := H
        replace H : (if t233 = (Int.tmod (wrap64 (t234 + 1)) 7) then ((date_MonthEnd.f kj1 a0).bind fun t235 => (if t235 = a0 then (if t232 = 1 then (if t231 = (wrap64 ((Int.tmod t228 12) + 1)) then (if t230 = (wrap64 (t227 + (wrap64 (Int.tdiv t228 12)))) then ((corebanklaw04_live.f kj1).bind fun t236 => (some t236)) else (some false)) else (some false)) else (some false)) else (if t230 = t227 then (if t231 = t228 then (if t232 = (wrap64 (t229 + 1)) then ((date_MonthEnd.f kj1 (wrap64 (a0 + 1))).bind fun t237 => ((date_MonthEnd.f kj1 a0).bind fun t238 => (if t237 = t238 then ((corebanklaw04_live.f kj1).bind fun t239 => (some t239)) else (some false)))) else (some false)) else (some false)) else (some false)))) else (some false)) = some r := H
        have A12 := Aside0.mk A120
        clear A120
        by_cases c13 : t233 = (Int.tmod (wrap64 (t234 + 1)) 7)
        · rw [if_pos c13] at H
          have c13b0 : (t233 == (Int.tmod (wrap64 (t234 + 1)) 7)) = true := beq_iff_eq.mpr c13
          have c13b1 : (t233 != (Int.tmod (wrap64 (t234 + 1)) 7)) = false := bne_eq_false_iff_eq.mpr c13
          clear c13
          replace H := Option.bind_eq_some_iff.mp H
          obtain ⟨t235, A140, H⟩ := H
          replace H : (if t235 = a0 then (if t232 = 1 then (if t231 = (wrap64 ((Int.tmod t228 12) + 1)) then (if t230 = (wrap64 (t227 + (wrap64 (Int.tdiv t228 12)))) then ((corebanklaw04_live.f kj1).bind fun t236 => (some t236)) else (some false)) else (some false)) else (some false)) else (if t230 = t227 then (if t231 = t228 then (if t232 = (wrap64 (t229 + 1)) then ((date_MonthEnd.f kj1 (wrap64 (a0 + 1))).bind fun t237 => ((date_MonthEnd.f kj1 a0).bind fun t238 => (if t237 = t238 then ((corebanklaw04_live.f kj1).bind fun t239 => (some t239)) else (some false)))) else (some false)) else (some false)) else (some false))) = some r := H
          have A14 := Aside0.mk A140
          clear A140
          by_cases c15 : t235 = a0
          · rw [if_pos c15] at H
            have c15b0 : (t235 == a0) = true := beq_iff_eq.mpr c15
            have c15b1 : (t235 != a0) = false := bne_eq_false_iff_eq.mpr c15
            clear c15
            by_cases c16 : t232 = 1
            · rw [if_pos c16] at H
              have c16b0 : (t232 == 1) = true := beq_iff_eq.mpr c16
              have c16b1 : (t232 != 1) = false := bne_eq_false_iff_eq.mpr c16
              clear c16
              by_cases c17 : t231 = (wrap64 ((Int.tmod t228 12) + 1))
              · rw [if_pos c17] at H
                have c17b0 : (t231 == (wrap64 ((Int.tmod t228 12) + 1))) = true := beq_iff_eq.mpr c17
                have c17b1 : (t231 != (wrap64 ((Int.tmod t228 12) + 1))) = false := bne_eq_false_iff_eq.mpr c17
                clear c17
                by_cases c18 : t230 = (wrap64 (t227 + (wrap64 (Int.tdiv t228 12))))
                · rw [if_pos c18] at H
                  have c18b0 : (t230 == (wrap64 (t227 + (wrap64 (Int.tdiv t228 12))))) = true := beq_iff_eq.mpr c18
                  have c18b1 : (t230 != (wrap64 (t227 + (wrap64 (Int.tdiv t228 12))))) = false := bne_eq_false_iff_eq.mpr c18
                  clear c18
                  replace H := Option.bind_eq_some_iff.mp H
                  obtain ⟨t236, A190, H⟩ := H
                  replace H : (some t236) = some r := H
                  have A19 := Aside0.mk A190
                  clear A190
                  obtain rfl := Option.some.inj H
                  go_wp2_with (first | ((with_reducible refine gate_callee (f := 9) rfl ?_); refine goesL_ (some 25) rfl rfl Tryd.func9 (by kernel_rfl) rfl #[.int .i64 a0] rfl (by (try simp only [List.map_toArray, List.map_cons, List.map_nil]); first | done | rfl | (simp only [List.length_drop, List.length_take]; rfl)) ?_; (with_reducible refine (date_Civil.calls kj1 a0 t227 t228 t229 _ A9.out).mono ?_); rintro e w20 ⟨rfl, hb⟩; refine ⟨_, rfl, ?_⟩; have n0_ := Aside0.mk (below_step (by repeat (first | (with_reducible first | exact HB.out | apply below_alloc | apply pw_below_drewN | apply below_drew1) | exact HB.out)) hb); clear HB; have HB := n0_; clear n0_; (try clear hb); (try clear hb2); (try clear hk); (try clear hi)) | ((with_reducible refine gate_callee (f := 9) rfl ?_); refine goesL_ (some 32) rfl rfl Tryd.func9 (by kernel_rfl) rfl #[.int .i64 (wrap64 (a0 + 1))] rfl (by (try simp only [List.map_toArray, List.map_cons, List.map_nil]); first | done | rfl | (simp only [List.length_drop, List.length_take]; rfl)) ?_; (with_reducible refine (date_Civil.calls kj1 (wrap64 (a0 + 1)) t230 t231 t232 _ A10.out).mono ?_); rintro e w21 ⟨rfl, hb⟩; refine ⟨_, rfl, ?_⟩; have n0_ := Aside0.mk (below_step (by repeat (first | (with_reducible first | exact HB.out | apply below_alloc | apply pw_below_drewN | apply below_drew1) | exact HB.out)) hb); clear HB; have HB := n0_; clear n0_; (try clear hb); (try clear hb2); (try clear hk); (try clear hi)) | ((with_reducible refine gate_callee (f := 13) rfl ?_); refine goesL_ (some 38) rfl rfl Tryd.func13 (by kernel_rfl) rfl #[.int .i64 (wrap64 (a0 + 1))] rfl (by (try simp only [List.map_toArray, List.map_cons, List.map_nil]); first | done | rfl | (simp only [List.length_drop, List.length_take]; rfl)) ?_; (with_reducible refine (date_Weekday.calls (wrap64 (a0 + 1)) t233 _ A11.out).mono ?_); rintro e w' ⟨rfl, ⟨nd, rfl⟩⟩; refine ⟨_, rfl, ?_⟩) | ((with_reducible refine gate_callee (f := 13) rfl ?_); refine goesL_ (some 40) rfl rfl Tryd.func13 (by kernel_rfl) rfl #[.int .i64 a0] rfl (by (try simp only [List.map_toArray, List.map_cons, List.map_nil]); first | done | rfl | (simp only [List.length_drop, List.length_take]; rfl)) ?_; (with_reducible refine (date_Weekday.calls a0 t234 _ A12.out).mono ?_); rintro e w' ⟨rfl, ⟨nd, rfl⟩⟩; refine ⟨_, rfl, ?_⟩) | ((with_reducible refine gate_callee (f := 15) rfl ?_); refine goesL_ (some 45) rfl rfl Tryd.func15 (by kernel_rfl) rfl #[.int .i64 a0] rfl (by (try simp only [List.map_toArray, List.map_cons, List.map_nil]); first | done | rfl | (simp only [List.length_drop, List.length_take]; rfl)) ?_; (with_reducible refine (date_MonthEnd.calls kj1 a0 t235 _ A14.out).mono ?_); rintro e w22 ⟨rfl, hb⟩; refine ⟨_, rfl, ?_⟩; have n0_ := Aside0.mk (below_step (by repeat (first | (with_reducible first | exact HB.out | apply below_alloc | apply pw_below_drewN | apply below_drew1) | exact HB.out)) hb); clear HB; have HB := n0_; clear n0_; (try clear hb); (try clear hb2); (try clear hk); (try clear hi)) | (go_at_call 21; (with_reducible refine (corebanklaw04_live.calls kj1  t236 _ A19.out ?side2 ?side1).mono ?_); (case side1 => first | exact HT.out | rfl); (case side2 => exact Glob.at HG (by repeat (first | (with_reducible first | exact HB.out | apply below_alloc | apply pw_below_drewN | apply below_drew1) | exact HB.out))); rintro e w23 ⟨rfl, hb⟩; have n0_ := Aside0.mk (below_step (by repeat (first | (with_reducible first | exact HB.out | apply below_alloc | apply pw_below_drewN | apply below_drew1) | exact HB.out)) hb); clear HB; have HB := n0_; clear n0_; (try clear hb); (try clear hb2); (try clear hk); (try clear hi)))
                  go_ret
                  exact ⟨by first | rfl | (simp [errW_none, errW_some] <;> rfl) | (simp [*, errW_none, errW_some] <;> rfl), by repeat (first | (with_reducible first | exact HB.out | apply below_alloc | apply pw_below_drewN | apply below_drew1) | exact HB.out)⟩
                · rw [if_neg c18] at H
                  have c18b0 : (t230 == (wrap64 (t227 + (wrap64 (Int.tdiv t228 12))))) = false := beq_eq_false_iff_ne.mpr c18
                  have c18b1 : (t230 != (wrap64 (t227 + (wrap64 (Int.tdiv t228 12))))) = true := bne_iff_ne.mpr c18
                  exact absurd ((Option.some.inj H).trans HT.out) (by simp)
              · rw [if_neg c17] at H
                have c17b0 : (t231 == (wrap64 ((Int.tmod t228 12) + 1))) = false := beq_eq_false_iff_ne.mpr c17
                have c17b1 : (t231 != (wrap64 ((Int.tmod t228 12) + 1))) = true := bne_iff_ne.mpr c17
                exact absurd ((Option.some.inj H).trans HT.out) (by simp)
            · rw [if_neg c16] at H
              have c16b0 : (t232 == 1) = false := beq_eq_false_iff_ne.mpr c16
              have c16b1 : (t232 != 1) = true := bne_iff_ne.mpr c16
              exact absurd ((Option.some.inj H).trans HT.out) (by simp)
          · rw [if_neg c15] at H
            have c15b0 : (t235 == a0) = false := beq_eq_false_iff_ne.mpr c15
            have c15b1 : (t235 != a0) = true := bne_iff_ne.mpr c15
            by_cases c24 : t230 = t227
            · rw [if_pos c24] at H
              have c24b0 : (t230 == t227) = true := beq_iff_eq.mpr c24
              have c24b1 : (t230 != t227) = false := bne_eq_false_iff_eq.mpr c24
              clear c24
              by_cases c25 : t231 = t228
              · rw [if_pos c25] at H
                have c25b0 : (t231 == t228) = true := beq_iff_eq.mpr c25
                have c25b1 : (t231 != t228) = false := bne_eq_false_iff_eq.mpr c25
                clear c25
                by_cases c26 : t232 = (wrap64 (t229 + 1))
                · rw [if_pos c26] at H
                  have c26b0 : (t232 == (wrap64 (t229 + 1))) = true := beq_iff_eq.mpr c26
                  have c26b1 : (t232 != (wrap64 (t229 + 1))) = false := bne_eq_false_iff_eq.mpr c26
                  clear c26
                  replace H := Option.bind_eq_some_iff.mp H
                  obtain ⟨t237, A270, H⟩ := H
                  replace H : ((date_MonthEnd.f kj1 a0).bind fun t238 => (if t237 = t238 then ((corebanklaw04_live.f kj1).bind fun t239 => (some t239)) else (some false))) = some r := H
                  have A27 := Aside0.mk A270
                  clear A270
                  replace H := Option.bind_eq_some_iff.mp H
                  obtain ⟨t238, A280, H⟩ := H
                  replace H : (if t237 = t238 then ((corebanklaw04_live.f kj1).bind fun t239 => (some t239)) else (some false)) = some r := H
                  have A28 := Aside0.mk A280
                  clear A280
                  by_cases c29 : t237 = t238
                  · rw [if_pos c29] at H
                    have c29b0 : (t237 == t238) = true := beq_iff_eq.mpr c29
                    have c29b1 : (t237 != t238) = false := bne_eq_false_iff_eq.mpr c29
                    clear c29
                    replace H := Option.bind_eq_some_iff.mp H
                    obtain ⟨t239, A300, H⟩ := H
                    replace H : (some t239) = some r := H
                    have A30 := Aside0.mk A300
                    clear A300
                    obtain rfl := Option.some.inj H
                    go_wp2_with (first | ((with_reducible refine gate_callee (f := 9) rfl ?_); refine goesL_ (some 25) rfl rfl Tryd.func9 (by kernel_rfl) rfl #[.int .i64 a0] rfl (by (try simp only [List.map_toArray, List.map_cons, List.map_nil]); first | done | rfl | (simp only [List.length_drop, List.length_take]; rfl)) ?_; (with_reducible refine (date_Civil.calls kj1 a0 t227 t228 t229 _ A9.out).mono ?_); rintro e w31 ⟨rfl, hb⟩; refine ⟨_, rfl, ?_⟩; have n0_ := Aside0.mk (below_step (by repeat (first | (with_reducible first | exact HB.out | apply below_alloc | apply pw_below_drewN | apply below_drew1) | exact HB.out)) hb); clear HB; have HB := n0_; clear n0_; (try clear hb); (try clear hb2); (try clear hk); (try clear hi)) | ((with_reducible refine gate_callee (f := 9) rfl ?_); refine goesL_ (some 32) rfl rfl Tryd.func9 (by kernel_rfl) rfl #[.int .i64 (wrap64 (a0 + 1))] rfl (by (try simp only [List.map_toArray, List.map_cons, List.map_nil]); first | done | rfl | (simp only [List.length_drop, List.length_take]; rfl)) ?_; (with_reducible refine (date_Civil.calls kj1 (wrap64 (a0 + 1)) t230 t231 t232 _ A10.out).mono ?_); rintro e w32 ⟨rfl, hb⟩; refine ⟨_, rfl, ?_⟩; have n0_ := Aside0.mk (below_step (by repeat (first | (with_reducible first | exact HB.out | apply below_alloc | apply pw_below_drewN | apply below_drew1) | exact HB.out)) hb); clear HB; have HB := n0_; clear n0_; (try clear hb); (try clear hb2); (try clear hk); (try clear hi)) | ((with_reducible refine gate_callee (f := 13) rfl ?_); refine goesL_ (some 38) rfl rfl Tryd.func13 (by kernel_rfl) rfl #[.int .i64 (wrap64 (a0 + 1))] rfl (by (try simp only [List.map_toArray, List.map_cons, List.map_nil]); first | done | rfl | (simp only [List.length_drop, List.length_take]; rfl)) ?_; (with_reducible refine (date_Weekday.calls (wrap64 (a0 + 1)) t233 _ A11.out).mono ?_); rintro e w' ⟨rfl, ⟨nd, rfl⟩⟩; refine ⟨_, rfl, ?_⟩) | ((with_reducible refine gate_callee (f := 13) rfl ?_); refine goesL_ (some 40) rfl rfl Tryd.func13 (by kernel_rfl) rfl #[.int .i64 a0] rfl (by (try simp only [List.map_toArray, List.map_cons, List.map_nil]); first | done | rfl | (simp only [List.length_drop, List.length_take]; rfl)) ?_; (with_reducible refine (date_Weekday.calls a0 t234 _ A12.out).mono ?_); rintro e w' ⟨rfl, ⟨nd, rfl⟩⟩; refine ⟨_, rfl, ?_⟩) | ((with_reducible refine gate_callee (f := 15) rfl ?_); refine goesL_ (some 45) rfl rfl Tryd.func15 (by kernel_rfl) rfl #[.int .i64 a0] rfl (by (try simp only [List.map_toArray, List.map_cons, List.map_nil]); first | done | rfl | (simp only [List.length_drop, List.length_take]; rfl)) ?_; (with_reducible refine (date_MonthEnd.calls kj1 a0 t235 _ A14.out).mono ?_); rintro e w33 ⟨rfl, hb⟩; refine ⟨_, rfl, ?_⟩; have n0_ := Aside0.mk (below_step (by repeat (first | (with_reducible first | exact HB.out | apply below_alloc | apply pw_below_drewN | apply below_drew1) | exact HB.out)) hb); clear HB; have HB := n0_; clear n0_; (try clear hb); (try clear hb2); (try clear hk); (try clear hi)) | (go_at_call 15; (with_reducible refine (date_MonthEnd.calls kj1 (wrap64 (a0 + 1)) t237 _ A27.out).mono ?_); rintro e w34 ⟨rfl, hb⟩; have n0_ := Aside0.mk (below_step (by repeat (first | (with_reducible first | exact HB.out | apply below_alloc | apply pw_below_drewN | apply below_drew1) | exact HB.out)) hb); clear HB; have HB := n0_; clear n0_; (try clear hb); (try clear hb2); (try clear hk); (try clear hi)) | (go_at_call 15; (with_reducible refine (date_MonthEnd.calls kj1 a0 t238 _ A28.out).mono ?_); rintro e w35 ⟨rfl, hb⟩; have n0_ := Aside0.mk (below_step (by repeat (first | (with_reducible first | exact HB.out | apply below_alloc | apply pw_below_drewN | apply below_drew1) | exact HB.out)) hb); clear HB; have HB := n0_; clear n0_; (try clear hb); (try clear hb2); (try clear hk); (try clear hi)) | (go_at_call 21; (with_reducible refine (corebanklaw04_live.calls kj1  t239 _ A30.out ?side2 ?side1).mono ?_); (case side1 => first | exact HT.out | rfl); (case side2 => exact Glob.at HG (by repeat (first | (with_reducible first | exact HB.out | apply below_alloc | apply pw_below_drewN | apply below_drew1) | exact HB.out))); rintro e w36 ⟨rfl, hb⟩; have n0_ := Aside0.mk (below_step (by repeat (first | (with_reducible first | exact HB.out | apply below_alloc | apply pw_below_drewN | apply below_drew1) | exact HB.out)) hb); clear HB; have HB := n0_; clear n0_; (try clear hb); (try clear hb2); (try clear hk); (try clear hi)))
                    go_ret
                    exact ⟨by first | rfl | (simp [errW_none, errW_some] <;> rfl) | (simp [*, errW_none, errW_some] <;> rfl), by repeat (first | (with_reducible first | exact HB.out | apply below_alloc | apply pw_below_drewN | apply below_drew1) | exact HB.out)⟩
                  · rw [if_neg c29] at H
                    have c29b0 : (t237 == t238) = false := beq_eq_false_iff_ne.mpr c29
                    have c29b1 : (t237 != t238) = true := bne_iff_ne.mpr c29
                    exact absurd ((Option.some.inj H).trans HT.out) (by simp)
                · rw [if_neg c26] at H
                  have c26b0 : (t232 == (wrap64 (t229 + 1))) = false := beq_eq_false_iff_ne.mpr c26
                  have c26b1 : (t232 != (wrap64 (t229 + 1))) = true := bne_iff_ne.mpr c26
                  exact absurd ((Option.some.inj H).trans HT.out) (by simp)
              · rw [if_neg c25] at H
                have c25b0 : (t231 == t228) = false := beq_eq_false_iff_ne.mpr c25
                have c25b1 : (t231 != t228) = true := bne_iff_ne.mpr c25
                exact absurd ((Option.some.inj H).trans HT.out) (by simp)
            · rw [if_neg c24] at H
              have c24b0 : (t230 == t227) = false := beq_eq_false_iff_ne.mpr c24
              have c24b1 : (t230 != t227) = true := bne_iff_ne.mpr c24
              exact absurd ((Option.some.inj H).trans HT.out) (by simp)
        · rw [if_neg c13] at H
          have c13b0 : (t233 == (Int.tmod (wrap64 (t234 + 1)) 7)) = false := beq_eq_false_iff_ne.mpr c13
          have c13b1 : (t233 != (Int.tmod (wrap64 (t234 + 1)) 7)) = true := bne_iff_ne.mpr c13
          exact absurd ((Option.some.inj H).trans HT.out) (by simp)

/-- THE ONE PURE STATEMENT of corebanklaw04_DateSteps: yours. -/
def corebanklaw04_DateSteps.Pure : Prop := ∀ (a0 : Int), (Lit.int .i64 a0).wf = true → ∃ k, corebanklaw04_DateSteps.f k a0 = some true
theorem corebanklaw04_DateSteps.walk (P : corebanklaw04_DateSteps.Pure) (a0 : Int) (w : World) (w0 : (Lit.int .i64 a0).wf = true) (hG : Glob w) :
    Calls Tryd.prog 7 #[.int .i64 a0] w fun e w' => e = .returned (.bool true) ∧ Below w.heap.size w w' := by
  obtain ⟨k, h⟩ := P a0 w0
  refine (corebanklaw04_DateSteps.calls k a0 true w h hG rfl).mono ?_
  rintro e w' ⟨rfl, hd⟩
  exact ⟨rfl, hd⟩

/-! ### corebanklaw04_DateRoundTrips: function 8 -/
def corebanklaw04_DateRoundTrips.j0 : Nat → Int → Int → Int → Int → Int → Bool → Option (Bool)
  | 0, _, _, _, _, _, _ => none
  | k + 1, x0, x1, x2, x7, x8, x58 => if x58 = true then (some false) else ((date_AddMonths.f k x0 x1 x2).bind fun bt250 => (if bt250.2 = 0 then ((date_Civil.f k bt250.1).bind fun bt252 => ((date_MonthEnd.f k bt250.1).bind fun t255 => (if (wrap64 ((wrap64 (bt252.1 * 12)) + bt252.2.1)) = (wrap64 ((wrap64 ((wrap64 (x7 * 12)) + x8)) + x1)) then (if bt252.2.2 = (mn x2 (wrap64 ((wrap64 (bt252.2.2 + t255)) - bt250.1))) then ((corebanklaw04_live.f k).bind fun t256 => (some t256)) else (some false)) else (some false)))) else (if bt250.2 = 1 then (if bt250.1 = 0 then ((corebanklaw04_live.f k).bind fun t257 => (some t257)) else (some false)) else (some false))))
def corebanklaw04_DateRoundTrips.f (k : Nat) (a0 : Int) (a1 : Int) (a2 : Int) : Option (Bool) := (date_Valid.f a0).bind fun t240 => (if t240 = true then ((date_Civil.f k a0).bind fun bt242 => ((date_Day.f k bt242.1 bt242.2.1 bt242.2.2).bind fun bt245 => ((date_Format.f k a0).bind fun t247 => ((date_Parse.f k t247).bind fun bt248 => (if bt245.1 = a0 then (if bt245.2 = 0 then (if bt248.1 = a0 then (corebanklaw04_DateRoundTrips.j0 k a0 a1 a2 bt242.1 bt242.2.1 (bt248.2 != 0)) else (corebanklaw04_DateRoundTrips.j0 k a0 a1 a2 bt242.1 bt242.2.1 true)) else (corebanklaw04_DateRoundTrips.j0 k a0 a1 a2 bt242.1 bt242.2.1 true)) else (corebanklaw04_DateRoundTrips.j0 k a0 a1 a2 bt242.1 bt242.2.1 true)))))) else ((corebanklaw04_live.f k).bind fun t241 => (some t241)))
theorem corebanklaw04_DateRoundTrips.mono_l : ∀ k, (∀ y0 y1 y2 y3 y4 y5, LeO (corebanklaw04_DateRoundTrips.j0 k y0 y1 y2 y3 y4 y5) (corebanklaw04_DateRoundTrips.j0 (k + 1) y0 y1 y2 y3 y4 y5))
  | 0 => fun _ _ _ _ _ _ r h => by simp [corebanklaw04_DateRoundTrips.j0] at h
  | k + 1 => by
    have ih0 := corebanklaw04_DateRoundTrips.mono_l k
    · intro y0 y1 y2 y3 y4 y5
      unfold corebanklaw04_DateRoundTrips.j0
      repeat' first
      | (with_reducible exact ih0 _ _ _ _ _ _)
      | (with_reducible exact corebanklaw04_live.mono _)
      | (with_reducible exact date_AddMonths.mono _ _ _ _)
      | (with_reducible exact date_Civil.mono _ _)
      | (with_reducible exact date_Day.mono _ _ _ _)
      | (with_reducible exact date_Format.mono _ _)
      | (with_reducible exact date_MonthEnd.mono _ _)
      | (with_reducible exact date_Parse.mono _ _)
      | (with_reducible exact LeO.refl _)
      | (with_reducible exact LeO.none _)
      | (with_reducible refine LeO.ite ?_ ?_)
      | (with_reducible refine LeO.bind ?_ (fun _ => ?_))
      | exact ih0 _ _ _ _ _ _
      | exact corebanklaw04_live.mono _
      | exact date_AddMonths.mono _ _ _ _
      | exact date_Civil.mono _ _
      | exact date_Day.mono _ _ _ _
      | exact date_Format.mono _ _
      | exact date_MonthEnd.mono _ _
      | exact date_Parse.mono _ _
      | exact LeO.none _
      | refine LeO.ite ?_ ?_
      | refine LeO.bind ?_ (fun _ => ?_)
theorem corebanklaw04_DateRoundTrips.mono : ∀ a0 a1 a2 k, LeO (corebanklaw04_DateRoundTrips.f k a0 a1 a2) (corebanklaw04_DateRoundTrips.f (k + 1) a0 a1 a2) := by
  intro a0 a1 a2 k
  have ih0 := corebanklaw04_DateRoundTrips.mono_l k
  unfold corebanklaw04_DateRoundTrips.f
  repeat' first
      | (with_reducible exact ih0 _ _ _ _ _ _)
      | (with_reducible exact corebanklaw04_live.mono _)
      | (with_reducible exact date_AddMonths.mono _ _ _ _)
      | (with_reducible exact date_Civil.mono _ _)
      | (with_reducible exact date_Day.mono _ _ _ _)
      | (with_reducible exact date_Format.mono _ _)
      | (with_reducible exact date_MonthEnd.mono _ _)
      | (with_reducible exact date_Parse.mono _ _)
      | (with_reducible exact LeO.refl _)
      | (with_reducible exact LeO.none _)
      | (with_reducible refine LeO.ite ?_ ?_)
      | (with_reducible refine LeO.bind ?_ (fun _ => ?_))
      | exact ih0 _ _ _ _ _ _
      | exact corebanklaw04_live.mono _
      | exact date_AddMonths.mono _ _ _ _
      | exact date_Civil.mono _ _
      | exact date_Day.mono _ _ _ _
      | exact date_Format.mono _ _
      | exact date_MonthEnd.mono _ _
      | exact date_Parse.mono _ _
      | exact LeO.none _
      | refine LeO.ite ?_ ?_
      | refine LeO.bind ?_ (fun _ => ?_)
set_option maxHeartbeats 8000000 in
set_option maxRecDepth 100000 in
theorem corebanklaw04_DateRoundTrips.calls (k : Nat) (a0 : Int) (a1 : Int) (a2 : Int) (r : Bool) (w : World) (h : corebanklaw04_DateRoundTrips.f k a0 a1 a2 = some r) (hG : Glob w) (ht : r = true) :
    Calls Tryd.prog 8 #[.int .i64 a0, .int .i64 a1, .int .i64 a2] w fun e w' => e = .returned (.bool r) ∧ Below w.heap.size w w' := by
  have HG := Aside0.mk hG
  clear hG
  have HT := Aside0.mk ht
  clear ht
  have HB := Aside0.mk (Below.refl w.heap.size w)
  have H : ((date_Valid.f a0).bind fun t240 => (if t240 = true then ((date_Civil.f k a0).bind fun bt242 => ((date_Day.f k bt242.1 bt242.2.1 bt242.2.2).bind fun bt245 => ((date_Format.f k a0).bind fun t247 => ((date_Parse.f k t247).bind fun bt248 => (if bt245.1 = a0 then (if bt245.2 = 0 then (if bt248.1 = a0 then (corebanklaw04_DateRoundTrips.j0 k a0 a1 a2 bt242.1 bt242.2.1 (bt248.2 != 0)) else (corebanklaw04_DateRoundTrips.j0 k a0 a1 a2 bt242.1 bt242.2.1 true)) else (corebanklaw04_DateRoundTrips.j0 k a0 a1 a2 bt242.1 bt242.2.1 true)) else (corebanklaw04_DateRoundTrips.j0 k a0 a1 a2 bt242.1 bt242.2.1 true)))))) else ((corebanklaw04_live.f k).bind fun t241 => (some t241)))) = some r := h
  clear h
  replace H := Option.bind_eq_some_iff.mp H
  obtain ⟨t240, A40, H⟩ := H
  replace H : (if t240 = true then ((date_Civil.f k a0).bind fun bt242 => ((date_Day.f k bt242.1 bt242.2.1 bt242.2.2).bind fun bt245 => ((date_Format.f k a0).bind fun t247 => ((date_Parse.f k t247).bind fun bt248 => (if bt245.1 = a0 then (if bt245.2 = 0 then (if bt248.1 = a0 then (corebanklaw04_DateRoundTrips.j0 k a0 a1 a2 bt242.1 bt242.2.1 (bt248.2 != 0)) else (corebanklaw04_DateRoundTrips.j0 k a0 a1 a2 bt242.1 bt242.2.1 true)) else (corebanklaw04_DateRoundTrips.j0 k a0 a1 a2 bt242.1 bt242.2.1 true)) else (corebanklaw04_DateRoundTrips.j0 k a0 a1 a2 bt242.1 bt242.2.1 true)))))) else ((corebanklaw04_live.f k).bind fun t241 => (some t241))) = some r := H
  have A4 := Aside0.mk A40
  clear A40
  by_cases c5 : t240 = true
  · subst c5
    have H1 : ((date_Civil.f k a0).bind fun bt242 => ((date_Day.f k bt242.1 bt242.2.1 bt242.2.2).bind fun bt245 => ((date_Format.f k a0).bind fun t247 => ((date_Parse.f k t247).bind fun bt248 => (if bt245.1 = a0 then (if bt245.2 = 0 then (if bt248.1 = a0 then (corebanklaw04_DateRoundTrips.j0 k a0 a1 a2 bt242.1 bt242.2.1 (bt248.2 != 0)) else (corebanklaw04_DateRoundTrips.j0 k a0 a1 a2 bt242.1 bt242.2.1 true)) else (corebanklaw04_DateRoundTrips.j0 k a0 a1 a2 bt242.1 bt242.2.1 true)) else (corebanklaw04_DateRoundTrips.j0 k a0 a1 a2 bt242.1 bt242.2.1 true)))))) = some r := by rw [if_pos rfl] at H; exact H
    clear H
    have H := H1
    clear H1
    replace H := Option.bind_eq_some_iff.mp H
    obtain ⟨⟨t242, t243, t244⟩, A60, H⟩ := H
    replace H : ((date_Day.f k t242 t243 t244).bind fun bt245 => ((date_Format.f k a0).bind fun t247 => ((date_Parse.f k t247).bind fun bt248 => (if bt245.1 = a0 then (if bt245.2 = 0 then (if bt248.1 = a0 then (corebanklaw04_DateRoundTrips.j0 k a0 a1 a2 t242 t243 (bt248.2 != 0)) else (corebanklaw04_DateRoundTrips.j0 k a0 a1 a2 t242 t243 true)) else (corebanklaw04_DateRoundTrips.j0 k a0 a1 a2 t242 t243 true)) else (corebanklaw04_DateRoundTrips.j0 k a0 a1 a2 t242 t243 true))))) = some r := H
    have A6 := Aside0.mk A60
    clear A60
    replace H := Option.bind_eq_some_iff.mp H
    obtain ⟨⟨t245, t246⟩, A70, H⟩ := H
    replace H : ((date_Format.f k a0).bind fun t247 => ((date_Parse.f k t247).bind fun bt248 => (if t245 = a0 then (if t246 = 0 then (if bt248.1 = a0 then (corebanklaw04_DateRoundTrips.j0 k a0 a1 a2 t242 t243 (bt248.2 != 0)) else (corebanklaw04_DateRoundTrips.j0 k a0 a1 a2 t242 t243 true)) else (corebanklaw04_DateRoundTrips.j0 k a0 a1 a2 t242 t243 true)) else (corebanklaw04_DateRoundTrips.j0 k a0 a1 a2 t242 t243 true)))) = some r := H
    have A7 := Aside0.mk A70
    clear A70
    replace H := Option.bind_eq_some_iff.mp H
    obtain ⟨t247, A80, H⟩ := H
    replace H : ((date_Parse.f k t247).bind fun bt248 => (if t245 = a0 then (if t246 = 0 then (if bt248.1 = a0 then (corebanklaw04_DateRoundTrips.j0 k a0 a1 a2 t242 t243 (bt248.2 != 0)) else (corebanklaw04_DateRoundTrips.j0 k a0 a1 a2 t242 t243 true)) else (corebanklaw04_DateRoundTrips.j0 k a0 a1 a2 t242 t243 true)) else (corebanklaw04_DateRoundTrips.j0 k a0 a1 a2 t242 t243 true))) = some r := H
    have A8 := Aside0.mk A80
    clear A80
    replace H := Option.bind_eq_some_iff.mp H
    obtain ⟨⟨t248, t249⟩, A90, H⟩ := H
    replace H : (if t245 = a0 then (if t246 = 0 then (if t248 = a0 then (corebanklaw04_DateRoundTrips.j0 k a0 a1 a2 t242 t243 (t249 != 0)) else (corebanklaw04_DateRoundTrips.j0 k a0 a1 a2 t242 t243 true)) else (corebanklaw04_DateRoundTrips.j0 k a0 a1 a2 t242 t243 true)) else (corebanklaw04_DateRoundTrips.j0 k a0 a1 a2 t242 t243 true)) = some r := H
    have A9 := Aside0.mk A90
    clear A90
    have HC10 := Aside0.mk H
    clear H
    go_enter Tryd.func8, Tryd.ntmps8
    go_upto_region 6 with (first | ((with_reducible refine gate_callee (f := 11) rfl ?_); refine goesL_ (some 21) rfl rfl Tryd.func11 (by kernel_rfl) rfl #[.int .i64 a0] rfl (by (try simp only [List.map_toArray, List.map_cons, List.map_nil]); first | done | rfl | (simp only [List.length_drop, List.length_take]; rfl)) ?_; (with_reducible refine (date_Valid.calls a0 true _ A4.out).mono ?_); rintro e w' ⟨rfl, ⟨nd, rfl⟩⟩; refine ⟨_, rfl, ?_⟩) | ((with_reducible refine gate_callee (f := 9) rfl ?_); refine goesL_ (some 26) rfl rfl Tryd.func9 (by kernel_rfl) rfl #[.int .i64 a0] rfl (by (try simp only [List.map_toArray, List.map_cons, List.map_nil]); first | done | rfl | (simp only [List.length_drop, List.length_take]; rfl)) ?_; (with_reducible refine (date_Civil.calls k a0 t242 t243 t244 _ A6.out).mono ?_); rintro e w11 ⟨rfl, hb⟩; refine ⟨_, rfl, ?_⟩; have n0_ := Aside0.mk (below_step (by repeat (first | (with_reducible first | exact HB.out | apply below_alloc | apply pw_below_drewN | apply below_drew1) | exact HB.out)) hb); clear HB; have HB := n0_; clear n0_; (try clear hb); (try clear hb2); (try clear hk); (try clear hi)) | ((with_reducible refine gate_callee (f := 22) rfl ?_); refine goesL_ (some 34) rfl rfl Tryd.func22 (by kernel_rfl) rfl #[.int .i64 t242, .int .i64 t243, .int .i64 t244] rfl (by (try simp only [List.map_toArray, List.map_cons, List.map_nil]); first | done | rfl | (simp only [List.length_drop, List.length_take]; rfl)) ?_; (with_reducible refine (date_Day.calls k t242 t243 t244 t245 t246 _ A7.out).mono ?_); rintro e w12 ⟨rfl, hb⟩; refine ⟨_, rfl, ?_⟩; have n0_ := Aside0.mk (below_step (by repeat (first | (with_reducible first | exact HB.out | apply below_alloc | apply pw_below_drewN | apply below_drew1) | exact HB.out)) hb); clear HB; have HB := n0_; clear n0_; (try clear hb); (try clear hb2); (try clear hk); (try clear hi)) | ((with_reducible refine gate_callee (f := 17) rfl ?_); refine goesL_ (some 39) rfl rfl Tryd.func17 (by kernel_rfl) rfl #[.int .i64 a0] rfl (by (try simp only [List.map_toArray, List.map_cons, List.map_nil]); first | done | rfl | (simp only [List.length_drop, List.length_take]; rfl)) ?_; (with_reducible refine (date_Format.calls k a0 t247 _ A8.out ?side1).mono ?_); (case side1 => exact Glob.at HG (by repeat (first | (with_reducible first | exact HB.out | apply below_alloc | apply pw_below_drewN | apply below_drew1) | exact HB.out))); rintro e w13 ⟨rfl, hb⟩; refine ⟨_, rfl, ?_⟩; have n0_ := Aside0.mk (below_step (by repeat (first | (with_reducible first | exact HB.out | apply below_alloc | apply pw_below_drewN | apply below_drew1) | exact HB.out)) hb); clear HB; have HB := n0_; clear n0_; (try clear hb); (try clear hb2); (try clear hk); (try clear hi)) | ((with_reducible refine gate_callee (f := 26) rfl ?_); refine goesL_ (some 40) rfl rfl Tryd.func26 (by kernel_rfl) rfl #[.string t247] rfl (by (try simp only [List.map_toArray, List.map_cons, List.map_nil]); first | done | rfl | (simp only [List.length_drop, List.length_take]; rfl)) ?_; (with_reducible refine (date_Parse.calls k t247 t248 t249 _ A9.out).mono ?_); rintro e w14 ⟨rfl, hb⟩; refine ⟨_, rfl, ?_⟩; have n0_ := Aside0.mk (below_step (by repeat (first | (with_reducible first | exact HB.out | apply below_alloc | apply pw_below_drewN | apply below_drew1) | exact HB.out)) hb); clear HB; have HB := n0_; clear n0_; (try clear hb); (try clear hb2); (try clear hk); (try clear hi)))
    (try simp only [Act.put, List.setIfInBounds_toArray, List.set_cons_zero, List.set_cons_succ])
    go_cut [58] (fun v58 wc => ∃ (kq : Nat) (x58_9 : Bool), v58 = .bool x58_9 ∧ Aside0 (corebanklaw04_DateRoundTrips.j0 kq a0 a1 a2 t242 t243 x58_9 = some r) ∧ Aside0 (kq ≤ k) ∧ Aside0 (Below w.heap.size w wc))
    case first =>
      have H := HC10.out
      clear HC10
      by_cases c15 : t245 = a0
      · rw [if_pos c15] at H
        have c15b0 : (t245 == a0) = true := beq_iff_eq.mpr c15
        have c15b1 : (t245 != a0) = false := bne_eq_false_iff_eq.mpr c15
        clear c15
        (first | rw [c15b0] | (simp only [i64_w, i32_w]; rw [c15b0]) | skip)
        by_cases c16 : t246 = 0
        · rw [if_pos c16] at H
          have c16b0 : (t246 == 0) = true := beq_iff_eq.mpr c16
          have c16b1 : (t246 != 0) = false := bne_eq_false_iff_eq.mpr c16
          clear c16
          by_cases c17 : t248 = a0
          · rw [if_pos c17] at H
            have c17b0 : (t248 == a0) = true := beq_iff_eq.mpr c17
            have c17b1 : (t248 != a0) = false := bne_eq_false_iff_eq.mpr c17
            clear c17
            have H' := Aside0.mk H
            clear H
            go_wp2
            go_meet
            case rel => exact ⟨_, ((t249 != 0)), (by first | rfl | (simp; done) | (simp [*]; done)), H', ⟨by first | omega | exact Nat.le_refl _⟩, ⟨by repeat (first | (with_reducible first | exact HB.out | apply below_alloc | apply pw_below_drewN | apply below_drew1) | exact HB.out)⟩⟩
          · rw [if_neg c17] at H
            have c17b0 : (t248 == a0) = false := beq_eq_false_iff_ne.mpr c17
            have c17b1 : (t248 != a0) = true := bne_iff_ne.mpr c17
            have H' := Aside0.mk H
            clear H
            go_wp2
            go_meet
            case rel => exact ⟨_, (true), (by first | rfl | (simp; done) | (simp [*]; done)), H', ⟨by first | omega | exact Nat.le_refl _⟩, ⟨by repeat (first | (with_reducible first | exact HB.out | apply below_alloc | apply pw_below_drewN | apply below_drew1) | exact HB.out)⟩⟩
        · rw [if_neg c16] at H
          have c16b0 : (t246 == 0) = false := beq_eq_false_iff_ne.mpr c16
          have c16b1 : (t246 != 0) = true := bne_iff_ne.mpr c16
          have H' := Aside0.mk H
          clear H
          go_wp2
          go_meet
          case rel => exact ⟨_, (true), (by first | rfl | (simp; done) | (simp [*]; done)), H', ⟨by first | omega | exact Nat.le_refl _⟩, ⟨by repeat (first | (with_reducible first | exact HB.out | apply below_alloc | apply pw_below_drewN | apply below_drew1) | exact HB.out)⟩⟩
      · rw [if_neg c15] at H
        have c15b0 : (t245 == a0) = false := beq_eq_false_iff_ne.mpr c15
        have c15b1 : (t245 != a0) = true := bne_iff_ne.mpr c15
        (first | rw [c15b0] | (simp only [i64_w, i32_w]; rw [c15b0]) | skip)
        have H' := Aside0.mk H
        clear H
        go_wp2
        go_meet
        case rel => exact ⟨_, (true), (by first | rfl | (simp; done) | (simp [*]; done)), H', ⟨by first | omega | exact Nat.le_refl _⟩, ⟨by repeat (first | (with_reducible first | exact HB.out | apply below_alloc | apply pw_below_drewN | apply below_drew1) | exact HB.out)⟩⟩
    case rest =>
      clear HC10
      try clear c1
      try clear c2
      try clear p2
      try clear c5
      try clear c8
      try clear c9
      try clear c11
      try clear c15
      try clear c15b0
      try clear c15b1
      try clear c16
      try clear c16b0
      try clear c16b1
      try clear c17
      try clear c17b0
      try clear c17b1
      obtain ⟨kq, x58_9, rfl, HA, HJ9, HB⟩ := hcut
      cases kq with
      | zero => exact absurd HA.out (by simp [corebanklaw04_DateRoundTrips.j0])
      | succ kj9 =>
        have H := HA.out
        clear HA
        simp only [corebanklaw04_DateRoundTrips.j0] at H
        by_cases c18 : x58_9 = true
        · subst c18
          have H1 : (some false) = some r := by rw [if_pos rfl] at H; exact H
          clear H
          have H := H1
          clear H1
          exact absurd ((Option.some.inj H).trans HT.out) (by simp)
        · replace c18 := Bool.eq_false_iff.mpr c18
          subst c18
          have H1 : ((date_AddMonths.f kj9 a0 a1 a2).bind fun bt250 => (if bt250.2 = 0 then ((date_Civil.f kj9 bt250.1).bind fun bt252 => ((date_MonthEnd.f kj9 bt250.1).bind fun t255 => (if (wrap64 ((wrap64 (bt252.1 * 12)) + bt252.2.1)) = (wrap64 ((wrap64 ((wrap64 (t242 * 12)) + t243)) + a1)) then (if bt252.2.2 = (mn a2 (wrap64 ((wrap64 (bt252.2.2 + t255)) - bt250.1))) then ((corebanklaw04_live.f kj9).bind fun t256 => (some t256)) else (some false)) else (some false)))) else (if bt250.2 = 1 then (if bt250.1 = 0 then ((corebanklaw04_live.f kj9).bind fun t257 => (some t257)) else (some false)) else (some false)))) = some r := by rw [if_neg (show ¬ (false = true) by decide)] at H; exact H
          clear H
          have H := H1
          clear H1
          replace H := Option.bind_eq_some_iff.mp H
          obtain ⟨⟨t250, t251⟩, A190, H⟩ := H
          replace H : (if t251 = 0 then ((date_Civil.f kj9 t250).bind fun bt252 => ((date_MonthEnd.f kj9 t250).bind fun t255 => (if (wrap64 ((wrap64 (bt252.1 * 12)) + bt252.2.1)) = (wrap64 ((wrap64 ((wrap64 (t242 * 12)) + t243)) + a1)) then (if bt252.2.2 = (mn a2 (wrap64 ((wrap64 (bt252.2.2 + t255)) - t250))) then ((corebanklaw04_live.f kj9).bind fun t256 => (some t256)) else (some false)) else (some false)))) else (if t251 = 1 then (if t250 = 0 then ((corebanklaw04_live.f kj9).bind fun t257 => (some t257)) else (some false)) else (some false))) = some r := H
          have A19 := Aside0.mk A190
          clear A190
          by_cases c20 : t251 = 0
          · rw [if_pos c20] at H
            have c20b0 : (t251 == 0) = true := beq_iff_eq.mpr c20
            have c20b1 : (t251 != 0) = false := bne_eq_false_iff_eq.mpr c20
            clear c20
            replace H := Option.bind_eq_some_iff.mp H
            obtain ⟨⟨t252, t253, t254⟩, A210, H⟩ := H
            replace H : ((date_MonthEnd.f kj9 t250).bind fun t255 => (if (wrap64 ((wrap64 (t252 * 12)) + t253)) = (wrap64 ((wrap64 ((wrap64 (t242 * 12)) + t243)) + a1)) then (if t254 = (mn a2 (wrap64 ((wrap64 (t254 + t255)) - t250))) then ((corebanklaw04_live.f kj9).bind fun t256 => (some t256)) else (some false)) else (some false))) = some r := H
            have A21 := Aside0.mk A210
            clear A210
            replace H := Option.bind_eq_some_iff.mp H
            obtain ⟨t255, A220, H⟩ := H
            replace H : (if (wrap64 ((wrap64 (t252 * 12)) + t253)) = (wrap64 ((wrap64 ((wrap64 (t242 * 12)) + t243)) + a1)) then (if t254 = (mn a2 (wrap64 ((wrap64 (t254 + t255)) - t250))) then ((corebanklaw04_live.f kj9).bind fun t256 => (some t256)) else (some false)) else (some false)) = some r := H
            have A22 := Aside0.mk A220
            clear A220
            by_cases c23 : (wrap64 ((wrap64 (t252 * 12)) + t253)) = (wrap64 ((wrap64 ((wrap64 (t242 * 12)) + t243)) + a1))
            · rw [if_pos c23] at H
              have c23b0 : ((wrap64 ((wrap64 (t252 * 12)) + t253)) == (wrap64 ((wrap64 ((wrap64 (t242 * 12)) + t243)) + a1))) = true := beq_iff_eq.mpr c23
              have c23b1 : ((wrap64 ((wrap64 (t252 * 12)) + t253)) != (wrap64 ((wrap64 ((wrap64 (t242 * 12)) + t243)) + a1))) = false := bne_eq_false_iff_eq.mpr c23
              clear c23
              obtain ⟨ji24, hji24⟩ : ∃ j_ : Int, (mn a2 (wrap64 ((wrap64 (t254 + t255)) - t250))) = j_ := ⟨_, rfl⟩
              replace H : (if t254 = (ji24) then ((corebanklaw04_live.f kj9).bind fun t256 => (some t256)) else (some false)) = some r := by first | (rw [hji24] at H; exact H) | (simp only [hji24] at H ⊢; exact H)
              (try rw [hji24] at A19)
              (try rw [hji24] at A21)
              (try rw [hji24] at A22)
              have hji24_ : (if (wrap64 ((wrap64 (t254 + t255)) - t250)) < a2 then (wrap64 ((wrap64 (t254 + t255)) - t250)) else a2) = ji24 := hji24
              by_cases c25 : t254 = (ji24)
              · rw [if_pos c25] at H
                have c25b0 : (t254 == (ji24)) = true := beq_iff_eq.mpr c25
                have c25b1 : (t254 != (ji24)) = false := bne_eq_false_iff_eq.mpr c25
                clear c25
                replace H := Option.bind_eq_some_iff.mp H
                obtain ⟨t256, A260, H⟩ := H
                replace H : (some t256) = some r := H
                have A26 := Aside0.mk A260
                clear A260
                obtain rfl := Option.some.inj H
                go_wp2_with (first | ((with_reducible refine gate_callee (f := 24) rfl ?_); refine goesL_ (some 63) rfl rfl Tryd.func24 (by kernel_rfl) rfl #[.int .i64 a0, .int .i64 a1, .int .i64 a2] rfl (by (try simp only [List.map_toArray, List.map_cons, List.map_nil]); first | done | rfl | (simp only [List.length_drop, List.length_take]; rfl)) ?_; (with_reducible refine (date_AddMonths.calls kj9 a0 a1 a2 t250 t251 _ A19.out).mono ?_); rintro e w27 ⟨rfl, hb⟩; refine ⟨_, rfl, ?_⟩; have n0_ := Aside0.mk (below_step (by repeat (first | (with_reducible first | exact HB.out | apply below_alloc | apply pw_below_drewN | apply below_drew1) | exact HB.out)) hb); clear HB; have HB := n0_; clear n0_; (try clear hb); (try clear hb2); (try clear hk); (try clear hi)) | ((with_reducible refine gate_callee (f := 9) rfl ?_); refine goesL_ (some 79) rfl rfl Tryd.func9 (by kernel_rfl) rfl #[.int .i64 t250] rfl (by (try simp only [List.map_toArray, List.map_cons, List.map_nil]); first | done | rfl | (simp only [List.length_drop, List.length_take]; rfl)) ?_; (with_reducible refine (date_Civil.calls kj9 t250 t252 t253 t254 _ A21.out).mono ?_); rintro e w28 ⟨rfl, hb⟩; refine ⟨_, rfl, ?_⟩; have n0_ := Aside0.mk (below_step (by repeat (first | (with_reducible first | exact HB.out | apply below_alloc | apply pw_below_drewN | apply below_drew1) | exact HB.out)) hb); clear HB; have HB := n0_; clear n0_; (try clear hb); (try clear hb2); (try clear hk); (try clear hi)) | ((with_reducible refine gate_callee (f := 15) rfl ?_); refine goesL_ (some 85) rfl rfl Tryd.func15 (by kernel_rfl) rfl #[.int .i64 t250] rfl (by (try simp only [List.map_toArray, List.map_cons, List.map_nil]); first | done | rfl | (simp only [List.length_drop, List.length_take]; rfl)) ?_; (with_reducible refine (date_MonthEnd.calls kj9 t250 t255 _ A22.out).mono ?_); rintro e w29 ⟨rfl, hb⟩; refine ⟨_, rfl, ?_⟩; have n0_ := Aside0.mk (below_step (by repeat (first | (with_reducible first | exact HB.out | apply below_alloc | apply pw_below_drewN | apply below_drew1) | exact HB.out)) hb); clear HB; have HB := n0_; clear n0_; (try clear hb); (try clear hb2); (try clear hk); (try clear hi)) | (go_at_call 21; (with_reducible refine (corebanklaw04_live.calls kj9  t256 _ A26.out ?side2 ?side1).mono ?_); (case side1 => first | exact HT.out | rfl); (case side2 => exact Glob.at HG (by repeat (first | (with_reducible first | exact HB.out | apply below_alloc | apply pw_below_drewN | apply below_drew1) | exact HB.out))); rintro e w30 ⟨rfl, hb⟩; have n0_ := Aside0.mk (below_step (by repeat (first | (with_reducible first | exact HB.out | apply below_alloc | apply pw_below_drewN | apply below_drew1) | exact HB.out)) hb); clear HB; have HB := n0_; clear n0_; (try clear hb); (try clear hb2); (try clear hk); (try clear hi)))
                go_ret
                exact ⟨by first | rfl | (simp [errW_none, errW_some] <;> rfl) | (simp only [← hji24]; first | rfl | (simp [errW_none, errW_some] <;> rfl)) | (simp [*, errW_none, errW_some] <;> rfl), by repeat (first | (with_reducible first | exact HB.out | apply below_alloc | apply pw_below_drewN | apply below_drew1) | exact HB.out)⟩
              · rw [if_neg c25] at H
                have c25b0 : (t254 == (ji24)) = false := beq_eq_false_iff_ne.mpr c25
                have c25b1 : (t254 != (ji24)) = true := bne_iff_ne.mpr c25
                exact absurd ((Option.some.inj H).trans HT.out) (by simp)
            · rw [if_neg c23] at H
              have c23b0 : ((wrap64 ((wrap64 (t252 * 12)) + t253)) == (wrap64 ((wrap64 ((wrap64 (t242 * 12)) + t243)) + a1))) = false := beq_eq_false_iff_ne.mpr c23
              have c23b1 : ((wrap64 ((wrap64 (t252 * 12)) + t253)) != (wrap64 ((wrap64 ((wrap64 (t242 * 12)) + t243)) + a1))) = true := bne_iff_ne.mpr c23
              exact absurd ((Option.some.inj H).trans HT.out) (by simp)
          · rw [if_neg c20] at H
            have c20b0 : (t251 == 0) = false := beq_eq_false_iff_ne.mpr c20
            have c20b1 : (t251 != 0) = true := bne_iff_ne.mpr c20
            by_cases c31 : t251 = 1
            · rw [if_pos c31] at H
              have c31b0 : (t251 == 1) = true := beq_iff_eq.mpr c31
              have c31b1 : (t251 != 1) = false := bne_eq_false_iff_eq.mpr c31
              clear c31
              by_cases c32 : t250 = 0
              · rw [if_pos c32] at H
                have c32b0 : (t250 == 0) = true := beq_iff_eq.mpr c32
                have c32b1 : (t250 != 0) = false := bne_eq_false_iff_eq.mpr c32
                clear c32
                replace H := Option.bind_eq_some_iff.mp H
                obtain ⟨t257, A330, H⟩ := H
                replace H : (some t257) = some r := H
                have A33 := Aside0.mk A330
                clear A330
                obtain rfl := Option.some.inj H
                go_wp2_with (first | ((with_reducible refine gate_callee (f := 24) rfl ?_); refine goesL_ (some 63) rfl rfl Tryd.func24 (by kernel_rfl) rfl #[.int .i64 a0, .int .i64 a1, .int .i64 a2] rfl (by (try simp only [List.map_toArray, List.map_cons, List.map_nil]); first | done | rfl | (simp only [List.length_drop, List.length_take]; rfl)) ?_; (with_reducible refine (date_AddMonths.calls kj9 a0 a1 a2 t250 t251 _ A19.out).mono ?_); rintro e w34 ⟨rfl, hb⟩; refine ⟨_, rfl, ?_⟩; have n0_ := Aside0.mk (below_step (by repeat (first | (with_reducible first | exact HB.out | apply below_alloc | apply pw_below_drewN | apply below_drew1) | exact HB.out)) hb); clear HB; have HB := n0_; clear n0_; (try clear hb); (try clear hb2); (try clear hk); (try clear hi)) | (go_at_call 21; (with_reducible refine (corebanklaw04_live.calls kj9  t257 _ A33.out ?side2 ?side1).mono ?_); (case side1 => first | exact HT.out | rfl); (case side2 => exact Glob.at HG (by repeat (first | (with_reducible first | exact HB.out | apply below_alloc | apply pw_below_drewN | apply below_drew1) | exact HB.out))); rintro e w35 ⟨rfl, hb⟩; have n0_ := Aside0.mk (below_step (by repeat (first | (with_reducible first | exact HB.out | apply below_alloc | apply pw_below_drewN | apply below_drew1) | exact HB.out)) hb); clear HB; have HB := n0_; clear n0_; (try clear hb); (try clear hb2); (try clear hk); (try clear hi)))
                go_ret
                exact ⟨by first | rfl | (simp [errW_none, errW_some] <;> rfl) | (simp [*, errW_none, errW_some] <;> rfl), by repeat (first | (with_reducible first | exact HB.out | apply below_alloc | apply pw_below_drewN | apply below_drew1) | exact HB.out)⟩
              · rw [if_neg c32] at H
                have c32b0 : (t250 == 0) = false := beq_eq_false_iff_ne.mpr c32
                have c32b1 : (t250 != 0) = true := bne_iff_ne.mpr c32
                exact absurd ((Option.some.inj H).trans HT.out) (by simp)
            · rw [if_neg c31] at H
              have c31b0 : (t251 == 1) = false := beq_eq_false_iff_ne.mpr c31
              have c31b1 : (t251 != 1) = true := bne_iff_ne.mpr c31
              exact absurd ((Option.some.inj H).trans HT.out) (by simp)
  · replace c5 := Bool.eq_false_iff.mpr c5
    subst c5
    have H1 : ((corebanklaw04_live.f k).bind fun t241 => (some t241)) = some r := by rw [if_neg (show ¬ (false = true) by decide)] at H; exact H
    clear H
    have H := H1
    clear H1
    replace H := Option.bind_eq_some_iff.mp H
    obtain ⟨t241, A360, H⟩ := H
    replace H : (some t241) = some r := H
    have A36 := Aside0.mk A360
    clear A360
    obtain rfl := Option.some.inj H
    go_enter Tryd.func8, Tryd.ntmps8
    go_wp2_with (first | ((with_reducible refine gate_callee (f := 11) rfl ?_); refine goesL_ (some 21) rfl rfl Tryd.func11 (by kernel_rfl) rfl #[.int .i64 a0] rfl (by (try simp only [List.map_toArray, List.map_cons, List.map_nil]); first | done | rfl | (simp only [List.length_drop, List.length_take]; rfl)) ?_; (with_reducible refine (date_Valid.calls a0 false _ A4.out).mono ?_); rintro e w' ⟨rfl, ⟨nd, rfl⟩⟩; refine ⟨_, rfl, ?_⟩) | ((with_reducible refine gate_callee (f := 21) rfl ?_); refine goesL_ (some 23) rfl rfl Tryd.func21 (by kernel_rfl) rfl #[] rfl (by (try simp only [List.map_toArray, List.map_cons, List.map_nil]); first | done | rfl | (simp only [List.length_drop, List.length_take]; rfl)) ?_; (with_reducible refine (corebanklaw04_live.calls k  t241 _ A36.out ?side2 ?side1).mono ?_); (case side1 => first | exact HT.out | rfl); (case side2 => exact Glob.at HG (by repeat (first | (with_reducible first | exact HB.out | apply below_alloc | apply pw_below_drewN | apply below_drew1) | exact HB.out))); rintro e w37 ⟨rfl, hb⟩; refine ⟨_, rfl, ?_⟩; have n0_ := Aside0.mk (below_step (by repeat (first | (with_reducible first | exact HB.out | apply below_alloc | apply pw_below_drewN | apply below_drew1) | exact HB.out)) hb); clear HB; have HB := n0_; clear n0_; (try clear hb); (try clear hb2); (try clear hk); (try clear hi)))
    go_ret
    exact ⟨by first | rfl | (simp [errW_none, errW_some] <;> rfl) | (simp [*, errW_none, errW_some] <;> rfl), by repeat (first | (with_reducible first | exact HB.out | apply below_alloc | apply pw_below_drewN | apply below_drew1) | exact HB.out)⟩

/-- THE ONE PURE STATEMENT of corebanklaw04_DateRoundTrips: yours. -/
def corebanklaw04_DateRoundTrips.Pure : Prop := ∀ (a0 : Int) (a1 : Int) (a2 : Int), (Lit.int .i64 a0).wf = true → (Lit.int .i64 a1).wf = true → (Lit.int .i64 a2).wf = true → ∃ k, corebanklaw04_DateRoundTrips.f k a0 a1 a2 = some true
theorem corebanklaw04_DateRoundTrips.walk (P : corebanklaw04_DateRoundTrips.Pure) (a0 : Int) (a1 : Int) (a2 : Int) (w : World) (w0 : (Lit.int .i64 a0).wf = true) (w1 : (Lit.int .i64 a1).wf = true) (w2 : (Lit.int .i64 a2).wf = true) (hG : Glob w) :
    Calls Tryd.prog 8 #[.int .i64 a0, .int .i64 a1, .int .i64 a2] w fun e w' => e = .returned (.bool true) ∧ Below w.heap.size w w' := by
  obtain ⟨k, h⟩ := P a0 a1 a2 w0 w1 w2
  refine (corebanklaw04_DateRoundTrips.calls k a0 a1 a2 true w h hG rfl).mono ?_
  rintro e w' ⟨rfl, hd⟩
  exact ⟨rfl, hd⟩

end Go.Proofs.YtagfmkedimhgbaaDoor.G
