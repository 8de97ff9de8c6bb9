/- What functions of the program compute, as Lean functions, each with the walk that proves it, for every argument at which the Lean function answers. Written by gprint.py, a program of this session that drives the print of the kit; checked by Lean alone. -/
import Derived.Test.YtimjodgnlahclaaDoorGx0
import Derived.Test.YtimjodgnlahclaaDoorGx6
import Derived.Test.YtimjodgnlahclaaDoorGx7
import Derived.Test.YtimjodgnlahclaaDoorGx9
namespace Go.Proofs.YtimjodgnlahclaaDoor.G
open Go.RowKit Go.Proofs.YtimjodgnlahclaaDoorW.PrintWords Go.Proofs.YtimjodgnlahclaaDoorW.PrintLast Go.Proofs.YtimjodgnlahclaaDoorW.PrintMore
attribute [local go_sem] max2_int min2_int max_two min_two max_three min_three max_four min_four   -- for this text's walks alone
set_option linter.unusedVariables false
set_option linter.unusedSimpArgs false

/-! ### corebankref04_Civil: function 53 -/
mutual
def corebankref04_Civil.l0 : Nat → Int → Int → Int → Option (Int × Int × Int)
 | 0, _, _, _ => none
 | k + 1, x0, x5, x6 => (corebankref04_yearLength.f x5).bind fun t185 => (if x0 ≥ t185 then ((corebankref04_yearLength.f x5).bind fun t186 => (corebankref04_Civil.l0 k (wrap64 (x0 - t186)) (wrap64 (x5 + 1)) x6)) else (corebankref04_Civil.l1 k x0 x5 x6))
def corebankref04_Civil.l1 : Nat → Int → Int → Int → Option (Int × Int × Int)
 | 0, _, _, _ => none
 | k + 1, x0, x5, x6 => (corebankref04_Length.f k x5 x6).bind fun t187 => (if x0 ≥ t187 then ((corebankref04_Length.f k x5 x6).bind fun t188 => (corebankref04_Civil.l1 k (wrap64 (x0 - t188)) x5 (wrap64 (x6 + 1)))) else (some (x5, x6, wrap64 (x0 + 1))))
end
def corebankref04_Civil.f (k : Nat) (a0 : Int) : Option (Int × Int × Int) := (corebankref04_Valid.f a0).bind fun t184 => (if t184 = true then (corebankref04_Civil.l0 k a0 2000 1) else (some (0, 0, 0)))
theorem corebankref04_Civil.mono_l : ∀ k, (∀ y0 y1 y2, LeO (corebankref04_Civil.l0 k y0 y1 y2) (corebankref04_Civil.l0 (k + 1) y0 y1 y2)) ∧ (∀ y0 y1 y2, LeO (corebankref04_Civil.l1 k y0 y1 y2) (corebankref04_Civil.l1 (k + 1) y0 y1 y2))
 | 0 => ⟨fun _ _ _ r h => by simp [corebankref04_Civil.l0] at h, fun _ _ _ r h => by simp [corebankref04_Civil.l1] at h⟩
 | k + 1 => by
  obtain ⟨ih0, ih1⟩ := corebankref04_Civil.mono_l k
  refine ⟨?_, ?_⟩
  ·intro y0 y1 y2
   unfold corebankref04_Civil.l0
   repeat' first
   | (with_reducible exact ih0 _ _ _)
   | (with_reducible exact ih1 _ _ _)
   | (with_reducible exact corebankref04_Length.mono _ _ _)
   | (with_reducible exact LeO.refl _)
   | (with_reducible exact LeO.none _)
   | (with_reducible refine LeO.ite ?_ ?_)
   | (with_reducible refine LeO.bind ?_ (fun _ => ?_))
   | exact ih0 _ _ _
   | exact ih1 _ _ _
   | exact corebankref04_Length.mono _ _ _
   | exact LeO.none _
   | refine LeO.ite ?_ ?_
   | refine LeO.bind ?_ (fun _ => ?_)
  ·intro y0 y1 y2
   unfold corebankref04_Civil.l1
   repeat' first
   | (with_reducible exact ih0 _ _ _)
   | (with_reducible exact ih1 _ _ _)
   | (with_reducible exact corebankref04_Length.mono _ _ _)
   | (with_reducible exact LeO.refl _)
   | (with_reducible exact LeO.none _)
   | (with_reducible refine LeO.ite ?_ ?_)
   | (with_reducible refine LeO.bind ?_ (fun _ => ?_))
   | exact ih0 _ _ _
   | exact ih1 _ _ _
   | exact corebankref04_Length.mono _ _ _
   | exact LeO.none _
   | refine LeO.ite ?_ ?_
   | refine LeO.bind ?_ (fun _ => ?_)
theorem corebankref04_Civil.mono : ∀ a0 k, LeO (corebankref04_Civil.f k a0) (corebankref04_Civil.f (k + 1) a0) := by
 intro a0 k
 obtain ⟨ih0, ih1⟩ := corebankref04_Civil.mono_l k
 unfold corebankref04_Civil.f
 repeat' first
   | (with_reducible exact ih0 _ _ _)
   | (with_reducible exact ih1 _ _ _)
   | (with_reducible exact corebankref04_Length.mono _ _ _)
   | (with_reducible exact LeO.refl _)
   | (with_reducible exact LeO.none _)
   | (with_reducible refine LeO.ite ?_ ?_)
   | (with_reducible refine LeO.bind ?_ (fun _ => ?_))
   | exact ih0 _ _ _
   | exact ih1 _ _ _
   | exact corebankref04_Length.mono _ _ _
   | exact LeO.none _
   | refine LeO.ite ?_ ?_
   | refine LeO.bind ?_ (fun _ => ?_)
set_option maxHeartbeats 8000000 in
set_option maxRecDepth 100000 in
theorem corebankref04_Civil.calls (k : Nat) (a0 : Int) (r1 : Int) (r2 : Int) (r3 : Int) (w : World) (h : corebankref04_Civil.f k a0 = some (r1, r2, r3)) :
  Calls Tryd.prog 53 #[.int .i64 a0] w fun e w' => e = .returned (.tuple #[.int .i64 r1, .int .i64 r2, .int .i64 r3]) ∧ Drawn0 w w' := by
 have H : ((corebankref04_Valid.f a0).bind fun t184 => (if t184 = true then (corebankref04_Civil.l0 k a0 2000 1) else (some (0, 0, 0)))) = some (r1, r2, r3) := h
 clear h
 replace H := Option.bind_eq_some_iff.mp H
 obtain ⟨t184, A20, H⟩ := H
 replace H : (if t184 = true then (corebankref04_Civil.l0 k a0 2000 1) else (some (0, 0, 0))) = some (r1, r2, r3) := H
 have A2 := Aside0.mk A20
 clear A20
 by_cases c3 : t184 = true
 ·subst c3
  have H1 : (corebankref04_Civil.l0 k a0 2000 1) = some (r1, r2, r3) := by rw [if_pos rfl] at H; exact H
  clear H
  have H := H1
  clear H1
  have H' := Aside0.mk H
  clear H
  go_enter Tryd.func53, Tryd.ntmps53
  go_wp2_with (first | ((with_reducible refine gate_callee (f := 26) rfl ?_); refine goesL_ (some 8) rfl rfl Tryd.func26 (by kernel_rfl) rfl #[.int .i64 a0] rfl (by (try simp only [List.map_toArray, List.map_cons, List.map_nil]); first | done | rfl | (simp only [List.length_drop, List.length_take]; rfl)) ?_; (with_reducible refine (corebankref04_Valid.calls a0 true _ A2.out).mono ?_); rintro e w' ⟨rfl, ⟨nd, rfl⟩⟩; refine ⟨_, rfl, ?_⟩))
  go_loopg [0, 5] k (fun kq v0 v5 w' => ∃ (x0_1 : Int) (x5_1 : Int), v0 = .int .i64 x0_1 ∧ v5 = .int .i64 x5_1 ∧ Aside0 (corebankref04_Civil.l0 kq x0_1 x5_1 1 = some (r1, r2, r3)) ∧ Aside0 (kq ≤ k) ∧ Drawn0 w w')
  case atStart => exact ⟨(a0), (2000), (by first | rfl | (simp; done) | (simp [*]; done)), (by first | rfl | (simp; done) | (simp [*]; done)), H', ⟨Nat.le_refl _⟩, by repeat (first | exact Drawn0.refl _ | apply Drawn0.step)⟩
  case round =>
   clear H'
   try clear c2
   try clear p2
   try clear c3
   obtain ⟨x0_1, x5_1, rfl, rfl, HA, HK1, ⟨m1, rfl⟩⟩ := hrel
   cases gk with
   | zero => exact absurd HA.out (by simp [corebankref04_Civil.l0])
   | succ k1 =>
    have H := HA.out
    clear HA
    simp only [corebankref04_Civil.l0] at H
    replace H := Option.bind_eq_some_iff.mp H
    obtain ⟨t185, A40, H⟩ := H
    replace H : (if x0_1 ≥ t185 then ((corebankref04_yearLength.f x5_1).bind fun t186 => (corebankref04_Civil.l0 k1 (wrap64 (x0_1 - t186)) (wrap64 (x5_1 + 1)) 1)) else (corebankref04_Civil.l1 k1 x0_1 x5_1 1)) = some (r1, r2, r3) := H
    have A4 := Aside0.mk A40
    clear A40
    by_cases c5 : x0_1 ≥ t185
    ·rw [if_pos c5] at H
     have c5b0 : decide (t185 ≤ x0_1) = true := decide_eq_true c5
     clear c5
     replace H := Option.bind_eq_some_iff.mp H
     obtain ⟨t186, A60, H⟩ := H
     replace H : (corebankref04_Civil.l0 k1 (wrap64 (x0_1 - t186)) (wrap64 (x5_1 + 1)) 1) = some (r1, r2, r3) := H
     have A6 := Aside0.mk A60
     clear A60
     have H' := Aside0.mk H
     clear H
     go_wp2_with (first | ((with_reducible refine gate_callee (f := 62) rfl ?_); refine goesL_ (some 12) rfl rfl Tryd.func62 (by kernel_rfl) rfl #[.int .i64 x5_1] rfl (by (try simp only [List.map_toArray, List.map_cons, List.map_nil]); first | done | rfl | (simp only [List.length_drop, List.length_take]; rfl)) ?_; (with_reducible refine (corebankref04_yearLength.calls x5_1 t185 _ A4.out).mono ?_); rintro e w' ⟨rfl, ⟨nd, rfl⟩⟩; refine ⟨_, rfl, ?_⟩) | ((with_reducible refine gate_callee (f := 62) rfl ?_); refine goesL_ (some 16) rfl rfl Tryd.func62 (by kernel_rfl) rfl #[.int .i64 x5_1] rfl (by (try simp only [List.map_toArray, List.map_cons, List.map_nil]); first | done | rfl | (simp only [List.length_drop, List.length_take]; rfl)) ?_; (with_reducible refine (corebankref04_yearLength.calls x5_1 t186 _ A6.out).mono ?_); rintro e w' ⟨rfl, ⟨nd, rfl⟩⟩; refine ⟨_, rfl, ?_⟩))
     go_roundg k1
     case measure => have := HK1.out; omega
     case rel => exact ⟨(wrap64 (x0_1 - t186)), (wrap64 (x5_1 + 1)), (by first | rfl | (simp; done) | (simp [*]; done)), (by first | rfl | (simp; done) | (simp [*]; done)), H', ⟨by have := HK1.out; omega⟩, by repeat (first | exact Drawn0.refl _ | apply Drawn0.step)⟩
    ·rw [if_neg c5] at H
     have c5b0 : decide (t185 ≤ x0_1) = false := decide_eq_false c5
     clear c5
     have H' := Aside0.mk H
     clear H
     go_wp2_with (first | ((with_reducible refine gate_callee (f := 62) rfl ?_); refine goesL_ (some 12) rfl rfl Tryd.func62 (by kernel_rfl) rfl #[.int .i64 x5_1] rfl (by (try simp only [List.map_toArray, List.map_cons, List.map_nil]); first | done | rfl | (simp only [List.length_drop, List.length_take]; rfl)) ?_; (with_reducible refine (corebankref04_yearLength.calls x5_1 t185 _ A4.out).mono ?_); rintro e w' ⟨rfl, ⟨nd, rfl⟩⟩; refine ⟨_, rfl, ?_⟩))
     go_loopg [0, 6] k1 (fun kq v0 v6 w' => ∃ (x0_2 : Int) (x6_2 : Int), v0 = .int .i64 x0_2 ∧ v6 = .int .i64 x6_2 ∧ Aside0 (corebankref04_Civil.l1 kq x0_2 x5_1 x6_2 = some (r1, r2, r3)) ∧ Aside0 (kq ≤ k1) ∧ Drawn0 w w')
     case atStart => exact ⟨(x0_1), (1), (by first | rfl | (simp; done) | (simp [*]; done)), (by first | rfl | (simp; done) | (simp [*]; done)), H', ⟨Nat.le_refl _⟩, by repeat (first | exact Drawn0.refl _ | apply Drawn0.step)⟩
     case round =>
      clear H'
      try clear c2
      try clear p2
      try clear c3
      try clear c5
      try clear c5b0
      try clear c6
      try clear p6
      try clear p2
      obtain ⟨x0_2, x6_2, rfl, rfl, HA, HK2, ⟨m2, rfl⟩⟩ := hrel
      cases gk with
      | zero => exact absurd HA.out (by simp [corebankref04_Civil.l1])
      | succ k2 =>
       have H := HA.out
       clear HA
       simp only [corebankref04_Civil.l1] at H
       replace H := Option.bind_eq_some_iff.mp H
       obtain ⟨t187, A70, H⟩ := H
       replace H : (if x0_2 ≥ t187 then ((corebankref04_Length.f k2 x5_1 x6_2).bind fun t188 => (corebankref04_Civil.l1 k2 (wrap64 (x0_2 - t188)) x5_1 (wrap64 (x6_2 + 1)))) else (some (x5_1, x6_2, wrap64 (x0_2 + 1)))) = some (r1, r2, r3) := H
       have A7 := Aside0.mk A70
       clear A70
       by_cases c8 : x0_2 ≥ t187
       ·rw [if_pos c8] at H
        have c8b0 : decide (t187 ≤ x0_2) = true := decide_eq_true c8
        clear c8
        replace H := Option.bind_eq_some_iff.mp H
        obtain ⟨t188, A90, H⟩ := H
        replace H : (corebankref04_Civil.l1 k2 (wrap64 (x0_2 - t188)) x5_1 (wrap64 (x6_2 + 1))) = some (r1, r2, r3) := H
        have A9 := Aside0.mk A90
        clear A90
        have H' := Aside0.mk H
        clear H
        go_wp2_with (first | ((with_reducible refine gate_callee (f := 63) rfl ?_); refine goesL_ (some 23) rfl rfl Tryd.func63 (by kernel_rfl) rfl #[.int .i64 x5_1, .int .i64 x6_2] rfl (by (try simp only [List.map_toArray, List.map_cons, List.map_nil]); first | done | rfl | (simp only [List.length_drop, List.length_take]; rfl)) ?_; (with_reducible refine (corebankref04_Length.calls k2 x5_1 x6_2 t187 _ A7.out).mono ?_); rintro e w' ⟨rfl, ⟨nd, rfl⟩⟩; refine ⟨_, rfl, ?_⟩) | ((with_reducible refine gate_callee (f := 63) rfl ?_); refine goesL_ (some 28) rfl rfl Tryd.func63 (by kernel_rfl) rfl #[.int .i64 x5_1, .int .i64 x6_2] rfl (by (try simp only [List.map_toArray, List.map_cons, List.map_nil]); first | done | rfl | (simp only [List.length_drop, List.length_take]; rfl)) ?_; (with_reducible refine (corebankref04_Length.calls k2 x5_1 x6_2 t188 _ A9.out).mono ?_); rintro e w' ⟨rfl, ⟨nd, rfl⟩⟩; refine ⟨_, rfl, ?_⟩))
        go_roundg k2
        case measure => have := HK1.out; have := HK2.out; omega
        case rel => exact ⟨(wrap64 (x0_2 - t188)), (wrap64 (x6_2 + 1)), (by first | rfl | (simp; done) | (simp [*]; done)), (by first | rfl | (simp; done) | (simp [*]; done)), H', ⟨by have := HK1.out; have := HK2.out; omega⟩, by repeat (first | exact Drawn0.refl _ | apply Drawn0.step)⟩
       ·rw [if_neg c8] at H
        have c8b0 : decide (t187 ≤ x0_2) = false := decide_eq_false c8
        clear c8
        simp only [Option.some.injEq, Prod.mk.injEq] at H
        obtain ⟨rfl, rfl, rfl⟩ := H
        go_wp2_with (first | ((with_reducible refine gate_callee (f := 63) rfl ?_); refine goesL_ (some 23) rfl rfl Tryd.func63 (by kernel_rfl) rfl #[.int .i64 x5_1, .int .i64 x6_2] rfl (by (try simp only [List.map_toArray, List.map_cons, List.map_nil]); first | done | rfl | (simp only [List.length_drop, List.length_take]; rfl)) ?_; (with_reducible refine (corebankref04_Length.calls k2 x5_1 x6_2 t187 _ A7.out).mono ?_); rintro e w' ⟨rfl, ⟨nd, rfl⟩⟩; refine ⟨_, rfl, ?_⟩))
        go_ret3
        exact ⟨by first | rfl | (simp; done) | (simp [*]; done), by repeat (first | exact Drawn0.refl _ | apply Drawn0.step)⟩
 ·replace c3 := Bool.eq_false_iff.mpr c3
  subst c3
  have H1 : (some (0, 0, 0)) = some (r1, r2, r3) := by rw [if_neg (show ¬ (false = true) by decide)] at H; exact H
  clear H
  have H := H1
  clear H1
  simp only [Option.some.injEq, Prod.mk.injEq] at H
  obtain ⟨rfl, rfl, rfl⟩ := H
  go_enter Tryd.func53, Tryd.ntmps53
  go_wp2_with (first | ((with_reducible refine gate_callee (f := 26) rfl ?_); refine goesL_ (some 8) rfl rfl Tryd.func26 (by kernel_rfl) rfl #[.int .i64 a0] rfl (by (try simp only [List.map_toArray, List.map_cons, List.map_nil]); first | done | rfl | (simp only [List.length_drop, List.length_take]; rfl)) ?_; (with_reducible refine (corebankref04_Valid.calls a0 false _ A2.out).mono ?_); rintro e w' ⟨rfl, ⟨nd, rfl⟩⟩; refine ⟨_, rfl, ?_⟩))
  go_ret3
  exact ⟨by first | rfl | (simp; done) | (simp [*]; done), by repeat (first | exact Drawn0.refl _ | apply Drawn0.step)⟩

/-! ### corebankref04_digits: function 54 -/
def corebankref04_digits.l0 : Nat → Int → Int → ByteArray → Int → Option (ByteArray)
 | 0, _, _, _, _ => none
 | k + 1, x0, x1, x5, x6 => if x6 < x1 then (if 0 ≤ (Int.tmod x0 10) then (if (Int.tmod x0 10) ≤ (wrap64 ((Int.tmod x0 10) + 1)) then (if (wrap64 ((Int.tmod x0 10) + 1)) ≤ 10 then (if ((⟨#[48, 49, 50, 51, 52, 53, 54, 55, 56, 57]⟩ : ByteArray).extract ((Int.tmod x0 10) : Int).toNat ((wrap64 ((Int.tmod x0 10) + 1)) : Int).toNat).size + x5.size ≤ 9223372036854775807 then (corebankref04_digits.l0 k (wrap64 (Int.tdiv x0 10)) x1 (((⟨#[48, 49, 50, 51, 52, 53, 54, 55, 56, 57]⟩ : ByteArray).extract ((Int.tmod x0 10) : Int).toNat ((wrap64 ((Int.tmod x0 10) + 1)) : Int).toNat) ++ x5) (wrap64 (x6 + 1))) else (none)) else (none)) else (none)) else (none)) else (some x5)
def corebankref04_digits.f (k : Nat) (a0 : Int) (a1 : Int) : Option (ByteArray) := corebankref04_digits.l0 k a0 a1 (⟨#[]⟩ : ByteArray) 0
theorem corebankref04_digits.mono_l : ∀ k, (∀ y0 y1 y2 y3, LeO (corebankref04_digits.l0 k y0 y1 y2 y3) (corebankref04_digits.l0 (k + 1) y0 y1 y2 y3))
 | 0 => fun _ _ _ _ r h => by simp [corebankref04_digits.l0] at h
 | k + 1 => by
  have ih0 := corebankref04_digits.mono_l k
  ·intro y0 y1 y2 y3
   unfold corebankref04_digits.l0
   repeat' first
   | (with_reducible exact ih0 _ _ _ _)
   | (with_reducible exact LeO.refl _)
   | (with_reducible exact LeO.none _)
   | (with_reducible refine LeO.ite ?_ ?_)
   | (with_reducible refine LeO.bind ?_ (fun _ => ?_))
   | exact ih0 _ _ _ _
   | exact LeO.none _
   | refine LeO.ite ?_ ?_
   | refine LeO.bind ?_ (fun _ => ?_)
theorem corebankref04_digits.mono : ∀ a0 a1 k, LeO (corebankref04_digits.f k a0 a1) (corebankref04_digits.f (k + 1) a0 a1) := by
 intro a0 a1 k
 have ih0 := corebankref04_digits.mono_l k
 unfold corebankref04_digits.f
 repeat' first
   | (with_reducible exact ih0 _ _ _ _)
   | (with_reducible exact LeO.refl _)
   | (with_reducible exact LeO.none _)
   | (with_reducible refine LeO.ite ?_ ?_)
   | (with_reducible refine LeO.bind ?_ (fun _ => ?_))
   | exact ih0 _ _ _ _
   | exact LeO.none _
   | refine LeO.ite ?_ ?_
   | refine LeO.bind ?_ (fun _ => ?_)
set_option maxHeartbeats 8000000 in
set_option maxRecDepth 100000 in
theorem corebankref04_digits.calls (k : Nat) (a0 : Int) (a1 : Int) (r : ByteArray) (w : World) (h : corebankref04_digits.f k a0 a1 = some r) :
  Calls Tryd.prog 54 #[.int .i64 a0, .int .i64 a1] w fun e w' => e = .returned (.string r) ∧ Drawn0 w w' := by
 have H : (corebankref04_digits.l0 k a0 a1 (⟨#[]⟩ : ByteArray) 0) = some r := h
 clear h
 have H' := Aside0.mk H
 clear H
 go_enter Tryd.func54, Tryd.ntmps54
 go_wp2
 go_loopg [0, 5, 6] k (fun kq v0 v5 v6 w' => ∃ (x0_1 : Int) (x5_1 : ByteArray) (x6_1 : Int), v0 = .int .i64 x0_1 ∧ v5 = .string x5_1 ∧ v6 = .int .i64 x6_1 ∧ Aside0 (corebankref04_digits.l0 kq x0_1 a1 x5_1 x6_1 = some r) ∧ Aside0 (kq ≤ k) ∧ Drawn0 w w')
 case atStart => exact ⟨(a0), ((⟨#[]⟩ : ByteArray)), (0), (by first | rfl | (simp; done) | (simp [*]; done)), (by first | rfl | (simp; done) | (simp [*]; done)), (by first | rfl | (simp; done) | (simp [*]; done)), H', ⟨Nat.le_refl _⟩, by repeat (first | exact Drawn0.refl _ | apply Drawn0.step)⟩
 case round =>
  clear H'
  try clear p2
  obtain ⟨x0_1, x5_1, x6_1, rfl, rfl, rfl, HA, HK1, ⟨m1, rfl⟩⟩ := hrel
  cases gk with
  | zero => exact absurd HA.out (by simp [corebankref04_digits.l0])
  | succ k1 =>
   have H := HA.out
   clear HA
   simp only [corebankref04_digits.l0] at H
   by_cases c3 : x6_1 < a1
   ·rw [if_pos c3] at H
    have c3b0 : decide (x6_1 < a1) = true := decide_eq_true c3
    clear c3
    obtain ⟨ji4, hji4⟩ : ∃ j_ : Int, (Int.tmod x0_1 10) = j_ := ⟨_, rfl⟩
    replace H : (if 0 ≤ (ji4) then (if (ji4) ≤ (wrap64 ((ji4) + 1)) then (if (wrap64 ((ji4) + 1)) ≤ 10 then (if ((⟨#[48, 49, 50, 51, 52, 53, 54, 55, 56, 57]⟩ : ByteArray).extract ((ji4) : Int).toNat ((wrap64 ((ji4) + 1)) : Int).toNat).size + x5_1.size ≤ 9223372036854775807 then (corebankref04_digits.l0 k1 (wrap64 (Int.tdiv x0_1 10)) a1 (((⟨#[48, 49, 50, 51, 52, 53, 54, 55, 56, 57]⟩ : ByteArray).extract ((ji4) : Int).toNat ((wrap64 ((ji4) + 1)) : Int).toNat) ++ x5_1) (wrap64 (x6_1 + 1))) else (none)) else (none)) else (none)) else (none)) = some r := by first | (rw [hji4] at H; exact H) | (simp only [hji4] at H ⊢; exact H)
    by_cases c5 : 0 ≤ (ji4)
    ·rw [if_pos c5] at H
     have c5b0 := eq_true c5
     have c5b1 : decide (0 ≤ (ji4)) = true := decide_eq_true c5
     clear c5
     by_cases c6 : (ji4) ≤ (wrap64 ((ji4) + 1))
     ·rw [if_pos c6] at H
      have c6b0 := eq_true c6
      have c6b1 : decide ((ji4) ≤ (wrap64 ((ji4) + 1))) = true := decide_eq_true c6
      by_cases c7 : (wrap64 ((ji4) + 1)) ≤ 10
      ·rw [if_pos c7] at H
       have c7b0 := eq_true c7
       have c7b1 : decide ((wrap64 ((ji4) + 1)) ≤ 10) = true := decide_eq_true c7
       by_cases c8 : ((⟨#[48, 49, 50, 51, 52, 53, 54, 55, 56, 57]⟩ : ByteArray).extract ((ji4) : Int).toNat ((wrap64 ((ji4) + 1)) : Int).toNat).size + x5_1.size ≤ 9223372036854775807
       ·rw [if_pos c8] at H
        have c8b0 := eq_true c8
        have c8b1 : decide (((⟨#[48, 49, 50, 51, 52, 53, 54, 55, 56, 57]⟩ : ByteArray).extract ((ji4) : Int).toNat ((wrap64 ((ji4) + 1)) : Int).toNat).size + x5_1.size ≤ 9223372036854775807) = true := decide_eq_true c8
        try have c8b2 : (9223372036854775807 < ((⟨#[48, 49, 50, 51, 52, 53, 54, 55, 56, 57]⟩ : ByteArray).extract ((ji4) : Int).toNat ((wrap64 ((ji4) + 1)) : Int).toNat).size + x5_1.size) = False := eq_false (Nat.not_lt.2 c8)
        try (have c8b4 := c8; simp only [ByteArray.size_append, ByteArray.size_extract, Nat.sub_zero] at c8b4)
        try have c5q := of_eq_true c5b0
        try have hw_ : wrap64 (ji4 + 1) = ji4 + 1 := by unfold wrap64 at *; omega
        try have g10_ : ji4 + 1 ≤ 10 := by unfold wrap64 at *; omega
        try have g0_ : 0 ≤ ji4 + 1 := by omega
        try have hz_ : (9223372036854775807 < (ji4 + 1).toNat - ji4.toNat + x5_1.size) = False := eq_false (by have hq_ := c8b4; rw [hw_] at hq_; simp only [show (⟨#[48, 49, 50, 51, 52, 53, 54, 55, 56, 57]⟩ : ByteArray).size = 10 from rfl] at hq_; omega)
        have HW_ := Aside0.mk hw_
        try clear hw_ c8b4
        have H' := Aside0.mk H
        clear H
        go_wp2
        go_roundg k1
        case measure => have := HK1.out; omega
        case rel => exact ⟨(wrap64 (Int.tdiv x0_1 10)), (((⟨#[48, 49, 50, 51, 52, 53, 54, 55, 56, 57]⟩ : ByteArray).extract ((ji4) : Int).toNat ((wrap64 ((ji4) + 1)) : Int).toNat) ++ x5_1), (wrap64 (x6_1 + 1)), (by first | (rw [HW_.out]; done) | (simp [HW_.out]; done) | rfl | (simp; done) | (simp [*]; done)), (by first | (rw [HW_.out]; done) | (simp [HW_.out]; done) | rfl | (simp; done) | (simp only [← hji4] <;> (first | rfl | simp)) | (simp [*]; done)), (by first | (rw [HW_.out]; done) | (simp [HW_.out]; done) | rfl | (simp; done) | (simp [*]; done)), H', ⟨by have := HK1.out; omega⟩, by repeat (first | exact Drawn0.refl _ | apply Drawn0.step)⟩
       ·rw [if_neg c8] at H
        exact absurd H (by simp)
      ·rw [if_neg c7] at H
       exact absurd H (by simp)
     ·rw [if_neg c6] at H
      exact absurd H (by simp)
    ·rw [if_neg c5] at H
     exact absurd H (by simp)
   ·rw [if_neg c3] at H
    have c3b0 : decide (x6_1 < a1) = false := decide_eq_false c3
    clear c3
    obtain rfl := Option.some.inj H
    go_wp2
    go_ret
    exact ⟨by first | rfl | (simp; done) | (simp [*]; done), by repeat (first | exact Drawn0.refl _ | apply Drawn0.step)⟩

/-! ### corebankref04_Format: function 40 -/
def corebankref04_Format.f (k : Nat) (a0 : Int) : Option (ByteArray) := (corebankref04_Valid.f a0).bind fun t189 => (if t189 = true then ((corebankref04_Civil.f k a0).bind fun bt190 => ((corebankref04_digits.f k bt190.1 4).bind fun t193 => (if t193.size + 1 ≤ 9223372036854775807 then ((corebankref04_digits.f k bt190.2.1 2).bind fun t194 => (if (t193 ++ (⟨#[45]⟩ : ByteArray)).size + t194.size ≤ 9223372036854775807 then (if ((t193 ++ (⟨#[45]⟩ : ByteArray)) ++ t194).size + 1 ≤ 9223372036854775807 then ((corebankref04_digits.f k bt190.2.2 2).bind fun t195 => (if (((t193 ++ (⟨#[45]⟩ : ByteArray)) ++ t194) ++ (⟨#[45]⟩ : ByteArray)).size + t195.size ≤ 9223372036854775807 then (some ((((t193 ++ (⟨#[45]⟩ : ByteArray)) ++ t194) ++ (⟨#[45]⟩ : ByteArray)) ++ t195)) else (none))) else (none)) else (none))) else (none)))) else (some (⟨#[]⟩ : ByteArray)))
theorem corebankref04_Format.mono : ∀ a0 k, LeO (corebankref04_Format.f k a0) (corebankref04_Format.f (k + 1) a0) := by
 intro a0 k
 unfold corebankref04_Format.f
 repeat' first
   | (with_reducible exact corebankref04_Civil.mono _ _)
   | (with_reducible exact corebankref04_digits.mono _ _ _)
   | (with_reducible exact LeO.refl _)
   | (with_reducible exact LeO.none _)
   | (with_reducible refine LeO.ite ?_ ?_)
   | (with_reducible refine LeO.bind ?_ (fun _ => ?_))
   | exact corebankref04_Civil.mono _ _
   | exact corebankref04_digits.mono _ _ _
   | exact LeO.none _
   | refine LeO.ite ?_ ?_
   | refine LeO.bind ?_ (fun _ => ?_)
set_option maxHeartbeats 8000000 in
set_option maxRecDepth 100000 in
theorem corebankref04_Format.calls (k : Nat) (a0 : Int) (r : ByteArray) (w : World) (h : corebankref04_Format.f k a0 = some r) :
  Calls Tryd.prog 40 #[.int .i64 a0] w fun e w' => e = .returned (.string r) ∧ Drawn0 w w' := by
 have H : ((corebankref04_Valid.f a0).bind fun t189 => (if t189 = true then ((corebankref04_Civil.f k a0).bind fun bt190 => ((corebankref04_digits.f k bt190.1 4).bind fun t193 => (if t193.size + 1 ≤ 9223372036854775807 then ((corebankref04_digits.f k bt190.2.1 2).bind fun t194 => (if (t193 ++ (⟨#[45]⟩ : ByteArray)).size + t194.size ≤ 9223372036854775807 then (if ((t193 ++ (⟨#[45]⟩ : ByteArray)) ++ t194).size + 1 ≤ 9223372036854775807 then ((corebankref04_digits.f k bt190.2.2 2).bind fun t195 => (if (((t193 ++ (⟨#[45]⟩ : ByteArray)) ++ t194) ++ (⟨#[45]⟩ : ByteArray)).size + t195.size ≤ 9223372036854775807 then (some ((((t193 ++ (⟨#[45]⟩ : ByteArray)) ++ t194) ++ (⟨#[45]⟩ : ByteArray)) ++ t195)) else (none))) else (none)) else (none))) else (none)))) else (some (⟨#[]⟩ : ByteArray)))) = some r := h
 clear h
 replace H := Option.bind_eq_some_iff.mp H
 obtain ⟨t189, A20, H⟩ := H
 replace H : (if t189 = true then ((corebankref04_Civil.f k a0).bind fun bt190 => ((corebankref04_digits.f k bt190.1 4).bind fun t193 => (if t193.size + 1 ≤ 9223372036854775807 then ((corebankref04_digits.f k bt190.2.1 2).bind fun t194 => (if (t193 ++ (⟨#[45]⟩ : ByteArray)).size + t194.size ≤ 9223372036854775807 then (if ((t193 ++ (⟨#[45]⟩ : ByteArray)) ++ t194).size + 1 ≤ 9223372036854775807 then ((corebankref04_digits.f k bt190.2.2 2).bind fun t195 => (if (((t193 ++ (⟨#[45]⟩ : ByteArray)) ++ t194) ++ (⟨#[45]⟩ : ByteArray)).size + t195.size ≤ 9223372036854775807 then (some ((((t193 ++ (⟨#[45]⟩ : ByteArray)) ++ t194) ++ (⟨#[45]⟩ : ByteArray)) ++ t195)) else (none))) else (none)) else (none))) else (none)))) else (some (⟨#[]⟩ : ByteArray))) = some r := H
 have A2 := Aside0.mk A20
 clear A20
 by_cases c3 : t189 = true
 ·subst c3
  have H1 : ((corebankref04_Civil.f k a0).bind fun bt190 => ((corebankref04_digits.f k bt190.1 4).bind fun t193 => (if t193.size + 1 ≤ 9223372036854775807 then ((corebankref04_digits.f k bt190.2.1 2).bind fun t194 => (if (t193 ++ (⟨#[45]⟩ : ByteArray)).size + t194.size ≤ 9223372036854775807 then (if ((t193 ++ (⟨#[45]⟩ : ByteArray)) ++ t194).size + 1 ≤ 9223372036854775807 then ((corebankref04_digits.f k bt190.2.2 2).bind fun t195 => (if (((t193 ++ (⟨#[45]⟩ : ByteArray)) ++ t194) ++ (⟨#[45]⟩ : ByteArray)).size + t195.size ≤ 9223372036854775807 then (some ((((t193 ++ (⟨#[45]⟩ : ByteArray)) ++ t194) ++ (⟨#[45]⟩ : ByteArray)) ++ t195)) else (none))) else (none)) else (none))) else (none)))) = some r := by rw [if_pos rfl] at H; exact H
  clear H
  have H := H1
  clear H1
  replace H := Option.bind_eq_some_iff.mp H
  obtain ⟨⟨t190, t191, t192⟩, A40, H⟩ := H
  replace H : ((corebankref04_digits.f k t190 4).bind fun t193 => (if t193.size + 1 ≤ 9223372036854775807 then ((corebankref04_digits.f k t191 2).bind fun t194 => (if (t193 ++ (⟨#[45]⟩ : ByteArray)).size + t194.size ≤ 9223372036854775807 then (if ((t193 ++ (⟨#[45]⟩ : ByteArray)) ++ t194).size + 1 ≤ 9223372036854775807 then ((corebankref04_digits.f k t192 2).bind fun t195 => (if (((t193 ++ (⟨#[45]⟩ : ByteArray)) ++ t194) ++ (⟨#[45]⟩ : ByteArray)).size + t195.size ≤ 9223372036854775807 then (some ((((t193 ++ (⟨#[45]⟩ : ByteArray)) ++ t194) ++ (⟨#[45]⟩ : ByteArray)) ++ t195)) else (none))) else (none)) else (none))) else (none))) = some r := H
  have A4 := Aside0.mk A40
  clear A40
  replace H := Option.bind_eq_some_iff.mp H
  obtain ⟨t193, A50, H⟩ := H
  replace H : (if t193.size + 1 ≤ 9223372036854775807 then ((corebankref04_digits.f k t191 2).bind fun t194 => (if (t193 ++ (⟨#[45]⟩ : ByteArray)).size + t194.size ≤ 9223372036854775807 then (if ((t193 ++ (⟨#[45]⟩ : ByteArray)) ++ t194).size + 1 ≤ 9223372036854775807 then ((corebankref04_digits.f k t192 2).bind fun t195 => (if (((t193 ++ (⟨#[45]⟩ : ByteArray)) ++ t194) ++ (⟨#[45]⟩ : ByteArray)).size + t195.size ≤ 9223372036854775807 then (some ((((t193 ++ (⟨#[45]⟩ : ByteArray)) ++ t194) ++ (⟨#[45]⟩ : ByteArray)) ++ t195)) else (none))) else (none)) else (none))) else (none)) = some r := H
  have A5 := Aside0.mk A50
  clear A50
  by_cases c6 : t193.size + 1 ≤ 9223372036854775807
  ·rw [if_pos c6] at H
   have c6b0 := eq_true c6
   have c6b1 : decide (t193.size + 1 ≤ 9223372036854775807) = true := decide_eq_true c6
   try have c6b2 : (9223372036854775807 < t193.size + 1) = False := eq_false (Nat.not_lt.2 c6)
   replace H := Option.bind_eq_some_iff.mp H
   obtain ⟨t194, A70, H⟩ := H
   replace H : (if (t193 ++ (⟨#[45]⟩ : ByteArray)).size + t194.size ≤ 9223372036854775807 then (if ((t193 ++ (⟨#[45]⟩ : ByteArray)) ++ t194).size + 1 ≤ 9223372036854775807 then ((corebankref04_digits.f k t192 2).bind fun t195 => (if (((t193 ++ (⟨#[45]⟩ : ByteArray)) ++ t194) ++ (⟨#[45]⟩ : ByteArray)).size + t195.size ≤ 9223372036854775807 then (some ((((t193 ++ (⟨#[45]⟩ : ByteArray)) ++ t194) ++ (⟨#[45]⟩ : ByteArray)) ++ t195)) else (none))) else (none)) else (none)) = some r := H
   have A7 := Aside0.mk A70
   clear A70
   by_cases c8 : (t193 ++ (⟨#[45]⟩ : ByteArray)).size + t194.size ≤ 9223372036854775807
   ·rw [if_pos c8] at H
    have c8b0 := eq_true c8
    have c8b1 : decide ((t193 ++ (⟨#[45]⟩ : ByteArray)).size + t194.size ≤ 9223372036854775807) = true := decide_eq_true c8
    try have c8b2 : (9223372036854775807 < (t193 ++ (⟨#[45]⟩ : ByteArray)).size + t194.size) = False := eq_false (Nat.not_lt.2 c8)
    try have c8b3 : (9223372036854775807 < t193.size + 1 + t194.size) = False := eq_false (Nat.not_lt.2 (by have z_ := c8; simp only [ByteArray.size_append] at z_; exact z_))
    by_cases c9 : ((t193 ++ (⟨#[45]⟩ : ByteArray)) ++ t194).size + 1 ≤ 9223372036854775807
    ·rw [if_pos c9] at H
     have c9b0 := eq_true c9
     have c9b1 : decide (((t193 ++ (⟨#[45]⟩ : ByteArray)) ++ t194).size + 1 ≤ 9223372036854775807) = true := decide_eq_true c9
     try have c9b2 : (9223372036854775807 < ((t193 ++ (⟨#[45]⟩ : ByteArray)) ++ t194).size + 1) = False := eq_false (Nat.not_lt.2 c9)
     try have c9b3 : (9223372036854775807 < t193.size + 1 + t194.size + 1) = False := eq_false (Nat.not_lt.2 (by have z_ := c9; simp only [ByteArray.size_append] at z_; exact z_))
     replace H := Option.bind_eq_some_iff.mp H
     obtain ⟨t195, A100, H⟩ := H
     replace H : (if (((t193 ++ (⟨#[45]⟩ : ByteArray)) ++ t194) ++ (⟨#[45]⟩ : ByteArray)).size + t195.size ≤ 9223372036854775807 then (some ((((t193 ++ (⟨#[45]⟩ : ByteArray)) ++ t194) ++ (⟨#[45]⟩ : ByteArray)) ++ t195)) else (none)) = some r := H
     have A10 := Aside0.mk A100
     clear A100
     by_cases c11 : (((t193 ++ (⟨#[45]⟩ : ByteArray)) ++ t194) ++ (⟨#[45]⟩ : ByteArray)).size + t195.size ≤ 9223372036854775807
     ·rw [if_pos c11] at H
      have c11b0 := eq_true c11
      have c11b1 : decide ((((t193 ++ (⟨#[45]⟩ : ByteArray)) ++ t194) ++ (⟨#[45]⟩ : ByteArray)).size + t195.size ≤ 9223372036854775807) = true := decide_eq_true c11
      try have c11b2 : (9223372036854775807 < (((t193 ++ (⟨#[45]⟩ : ByteArray)) ++ t194) ++ (⟨#[45]⟩ : ByteArray)).size + t195.size) = False := eq_false (Nat.not_lt.2 c11)
      try have c11b3 : (9223372036854775807 < t193.size + 1 + t194.size + 1 + t195.size) = False := eq_false (Nat.not_lt.2 (by have z_ := c11; simp only [ByteArray.size_append] at z_; exact z_))
      obtain rfl := Option.some.inj H
      go_enter Tryd.func40, Tryd.ntmps40
      go_wp2_with (first | ((with_reducible refine gate_callee (f := 26) rfl ?_); refine goesL_ (some 7) rfl rfl Tryd.func26 (by kernel_rfl) rfl #[.int .i64 a0] rfl (by (try simp only [List.map_toArray, List.map_cons, List.map_nil]); first | done | rfl | (simp only [List.length_drop, List.length_take]; rfl)) ?_; (with_reducible refine (corebankref04_Valid.calls a0 true _ A2.out).mono ?_); rintro e w' ⟨rfl, ⟨nd, rfl⟩⟩; refine ⟨_, rfl, ?_⟩) | ((with_reducible refine gate_callee (f := 53) rfl ?_); refine goesL_ (some 11) rfl rfl Tryd.func53 (by kernel_rfl) rfl #[.int .i64 a0] rfl (by (try simp only [List.map_toArray, List.map_cons, List.map_nil]); first | done | rfl | (simp only [List.length_drop, List.length_take]; rfl)) ?_; (with_reducible refine (corebankref04_Civil.calls k a0 t190 t191 t192 _ A4.out).mono ?_); rintro e w' ⟨rfl, ⟨nd, rfl⟩⟩; refine ⟨_, rfl, ?_⟩) | ((with_reducible refine gate_callee (f := 54) rfl ?_); refine goesL_ (some 16) rfl rfl Tryd.func54 (by kernel_rfl) rfl #[.int .i64 t190, .int .i64 4] rfl (by (try simp only [List.map_toArray, List.map_cons, List.map_nil]); first | done | rfl | (simp only [List.length_drop, List.length_take]; rfl)) ?_; (with_reducible refine (corebankref04_digits.calls k t190 4 t193 _ A5.out).mono ?_); rintro e w' ⟨rfl, ⟨nd, rfl⟩⟩; refine ⟨_, rfl, ?_⟩) | ((with_reducible refine gate_callee (f := 54) rfl ?_); refine goesL_ (some 19) rfl rfl Tryd.func54 (by kernel_rfl) rfl #[.int .i64 t191, .int .i64 2] rfl (by (try simp only [List.map_toArray, List.map_cons, List.map_nil]); first | done | rfl | (simp only [List.length_drop, List.length_take]; rfl)) ?_; (with_reducible refine (corebankref04_digits.calls k t191 2 t194 _ A7.out).mono ?_); rintro e w' ⟨rfl, ⟨nd, rfl⟩⟩; refine ⟨_, rfl, ?_⟩) | ((with_reducible refine gate_callee (f := 54) rfl ?_); refine goesL_ (some 23) rfl rfl Tryd.func54 (by kernel_rfl) rfl #[.int .i64 t192, .int .i64 2] rfl (by (try simp only [List.map_toArray, List.map_cons, List.map_nil]); first | done | rfl | (simp only [List.length_drop, List.length_take]; rfl)) ?_; (with_reducible refine (corebankref04_digits.calls k t192 2 t195 _ A10.out).mono ?_); rintro e w' ⟨rfl, ⟨nd, rfl⟩⟩; refine ⟨_, rfl, ?_⟩))
      go_ret
      exact ⟨by first | rfl | (simp; done) | (simp [*]; done), by repeat (first | exact Drawn0.refl _ | apply Drawn0.step)⟩
     ·rw [if_neg c11] at H
      exact absurd H (by simp)
    ·rw [if_neg c9] at H
     exact absurd H (by simp)
   ·rw [if_neg c8] at H
    exact absurd H (by simp)
  ·rw [if_neg c6] at H
   exact absurd H (by simp)
 ·replace c3 := Bool.eq_false_iff.mpr c3
  subst c3
  have H1 : (some (⟨#[]⟩ : ByteArray)) = some r := by rw [if_neg (show ¬ (false = true) by decide)] at H; exact H
  clear H
  have H := H1
  clear H1
  obtain rfl := Option.some.inj H
  go_enter Tryd.func40, Tryd.ntmps40
  go_wp2_with (first | ((with_reducible refine gate_callee (f := 26) rfl ?_); refine goesL_ (some 7) rfl rfl Tryd.func26 (by kernel_rfl) rfl #[.int .i64 a0] rfl (by (try simp only [List.map_toArray, List.map_cons, List.map_nil]); first | done | rfl | (simp only [List.length_drop, List.length_take]; rfl)) ?_; (with_reducible refine (corebankref04_Valid.calls a0 false _ A2.out).mono ?_); rintro e w' ⟨rfl, ⟨nd, rfl⟩⟩; refine ⟨_, rfl, ?_⟩))
  go_ret
  exact ⟨by first | rfl | (simp; done) | (simp [*]; done), by repeat (first | exact Drawn0.refl _ | apply Drawn0.step)⟩

/-! ### corebankref45_Text: function 19 -/
def corebankref45_Text.l0 : Nat → Int → ByteArray → Int → Int → Int → Int → Int → Int → Int → List (S66) → Option (ByteArray × Int)
 | 0, _, _, _, _, _, _, _, _, _, _ => none
 | k + 1, x1, x9, x10, x197000, x197001, x197002, x197003, x197004, x197005, x197006 => if x10 < (x197006.length : Int) then (if 0 ≤ x10 then ((corebankref03_Format.f k ((rd_T66 x197006 x10).f2) x1).bind fun bt207 => (if bt207.2 = 0 then ((corebankref04_Format.f k ((rd_T66 x197006 x10).f1)).bind fun t210 => (if x9.size + t210.size ≤ 9223372036854775807 then (if (x9 ++ t210).size + 1 ≤ 9223372036854775807 then (if ((x9 ++ t210) ++ (⟨#[32]⟩ : ByteArray)).size + bt207.1.size ≤ 9223372036854775807 then (if (((x9 ++ t210) ++ (⟨#[32]⟩ : ByteArray)) ++ bt207.1).size + 1 ≤ 9223372036854775807 then (if ((((x9 ++ t210) ++ (⟨#[32]⟩ : ByteArray)) ++ bt207.1) ++ (⟨#[32]⟩ : ByteArray)).size + ((rd_T66 x197006 x10).f3).size ≤ 9223372036854775807 then (if (((((x9 ++ t210) ++ (⟨#[32]⟩ : ByteArray)) ++ bt207.1) ++ (⟨#[32]⟩ : ByteArray)) ++ ((rd_T66 x197006 x10).f3)).size + 1 ≤ 9223372036854775807 then (corebankref45_Text.l0 k x1 ((((((x9 ++ t210) ++ (⟨#[32]⟩ : ByteArray)) ++ bt207.1) ++ (⟨#[32]⟩ : ByteArray)) ++ ((rd_T66 x197006 x10).f3)) ++ (⟨#[10]⟩ : ByteArray)) (wrap64 (x10 + 1)) x197000 x197001 x197002 x197003 x197004 x197005 x197006) else (none)) else (none)) else (none)) else (none)) else (none)) else (none))) else (some ((⟨#[]⟩ : ByteArray), bt207.2)))) else (none)) else ((corebankref03_Format.f k x197005 x1).bind fun bt204 => (if bt204.2 = 0 then (if x9.size + 8 ≤ 9223372036854775807 then (if (x9 ++ (⟨#[99, 108, 111, 115, 105, 110, 103, 32]⟩ : ByteArray)).size + bt204.1.size ≤ 9223372036854775807 then (if ((x9 ++ (⟨#[99, 108, 111, 115, 105, 110, 103, 32]⟩ : ByteArray)) ++ bt204.1).size + 1 ≤ 9223372036854775807 then (some (((x9 ++ (⟨#[99, 108, 111, 115, 105, 110, 103, 32]⟩ : ByteArray)) ++ bt204.1) ++ (⟨#[10]⟩ : ByteArray), 0)) else (none)) else (none)) else (none)) else (some ((⟨#[]⟩ : ByteArray), bt204.2))))
def corebankref45_Text.f (k : Nat) (a0_0 : Int) (a0_1 : Int) (a0_2 : Int) (a0_3 : Int) (a0_4 : Int) (a0_5 : Int) (l0_6 : List (S66)) (a1 : Int) : Option (ByteArray × Int) := (corebankref45_Check.f k a0_0 a0_1 a0_2 a0_3 a0_4 a0_5 l0_6).bind fun t197 => (if t197 = 0 then ((corebankref03_Format.f k a0_4 a1).bind fun bt198 => (if bt198.2 = 0 then ((corebankref12_Digits.f k a0_1).bind fun t200 => (if 10 + t200.size ≤ 9223372036854775807 then (if ((⟨#[115, 116, 97, 116, 101, 109, 101, 110, 116, 32]⟩ : ByteArray) ++ t200).size + 9 ≤ 9223372036854775807 then ((corebankref12_Digits.f k a0_0).bind fun t201 => (if (((⟨#[115, 116, 97, 116, 101, 109, 101, 110, 116, 32]⟩ : ByteArray) ++ t200) ++ (⟨#[32, 97, 99, 99, 111, 117, 110, 116, 32]⟩ : ByteArray)).size + t201.size ≤ 9223372036854775807 then (if ((((⟨#[115, 116, 97, 116, 101, 109, 101, 110, 116, 32]⟩ : ByteArray) ++ t200) ++ (⟨#[32, 97, 99, 99, 111, 117, 110, 116, 32]⟩ : ByteArray)) ++ t201).size + 1 ≤ 9223372036854775807 then ((corebankref04_Format.f k a0_2).bind fun t202 => (if (((((⟨#[115, 116, 97, 116, 101, 109, 101, 110, 116, 32]⟩ : ByteArray) ++ t200) ++ (⟨#[32, 97, 99, 99, 111, 117, 110, 116, 32]⟩ : ByteArray)) ++ t201) ++ (⟨#[10]⟩ : ByteArray)).size + t202.size ≤ 9223372036854775807 then (if ((((((⟨#[115, 116, 97, 116, 101, 109, 101, 110, 116, 32]⟩ : ByteArray) ++ t200) ++ (⟨#[32, 97, 99, 99, 111, 117, 110, 116, 32]⟩ : ByteArray)) ++ t201) ++ (⟨#[10]⟩ : ByteArray)) ++ t202).size + 4 ≤ 9223372036854775807 then ((corebankref04_Format.f k a0_3).bind fun t203 => (if (((((((⟨#[115, 116, 97, 116, 101, 109, 101, 110, 116, 32]⟩ : ByteArray) ++ t200) ++ (⟨#[32, 97, 99, 99, 111, 117, 110, 116, 32]⟩ : ByteArray)) ++ t201) ++ (⟨#[10]⟩ : ByteArray)) ++ t202) ++ (⟨#[32, 116, 111, 32]⟩ : ByteArray)).size + t203.size ≤ 9223372036854775807 then (if ((((((((⟨#[115, 116, 97, 116, 101, 109, 101, 110, 116, 32]⟩ : ByteArray) ++ t200) ++ (⟨#[32, 97, 99, 99, 111, 117, 110, 116, 32]⟩ : ByteArray)) ++ t201) ++ (⟨#[10]⟩ : ByteArray)) ++ t202) ++ (⟨#[32, 116, 111, 32]⟩ : ByteArray)) ++ t203).size + 9 ≤ 9223372036854775807 then (if (((((((((⟨#[115, 116, 97, 116, 101, 109, 101, 110, 116, 32]⟩ : ByteArray) ++ t200) ++ (⟨#[32, 97, 99, 99, 111, 117, 110, 116, 32]⟩ : ByteArray)) ++ t201) ++ (⟨#[10]⟩ : ByteArray)) ++ t202) ++ (⟨#[32, 116, 111, 32]⟩ : ByteArray)) ++ t203) ++ (⟨#[10, 111, 112, 101, 110, 105, 110, 103, 32]⟩ : ByteArray)).size + bt198.1.size ≤ 9223372036854775807 then (if ((((((((((⟨#[115, 116, 97, 116, 101, 109, 101, 110, 116, 32]⟩ : ByteArray) ++ t200) ++ (⟨#[32, 97, 99, 99, 111, 117, 110, 116, 32]⟩ : ByteArray)) ++ t201) ++ (⟨#[10]⟩ : ByteArray)) ++ t202) ++ (⟨#[32, 116, 111, 32]⟩ : ByteArray)) ++ t203) ++ (⟨#[10, 111, 112, 101, 110, 105, 110, 103, 32]⟩ : ByteArray)) ++ bt198.1).size + 1 ≤ 9223372036854775807 then (corebankref45_Text.l0 k a1 (((((((((((⟨#[115, 116, 97, 116, 101, 109, 101, 110, 116, 32]⟩ : ByteArray) ++ t200) ++ (⟨#[32, 97, 99, 99, 111, 117, 110, 116, 32]⟩ : ByteArray)) ++ t201) ++ (⟨#[10]⟩ : ByteArray)) ++ t202) ++ (⟨#[32, 116, 111, 32]⟩ : ByteArray)) ++ t203) ++ (⟨#[10, 111, 112, 101, 110, 105, 110, 103, 32]⟩ : ByteArray)) ++ bt198.1) ++ (⟨#[10]⟩ : ByteArray)) 0 a0_0 a0_1 a0_2 a0_3 a0_4 a0_5 l0_6) else (none)) else (none)) else (none)) else (none))) else (none)) else (none))) else (none)) else (none))) else (none)) else (none))) else (some ((⟨#[]⟩ : ByteArray), bt198.2)))) else (some ((⟨#[]⟩ : ByteArray), t197)))
theorem corebankref45_Text.mono_l : ∀ k, (∀ y0 y1 y2 y3 y4 y5 y6 y7 y8 y9, LeO (corebankref45_Text.l0 k y0 y1 y2 y3 y4 y5 y6 y7 y8 y9) (corebankref45_Text.l0 (k + 1) y0 y1 y2 y3 y4 y5 y6 y7 y8 y9))
 | 0 => fun _ _ _ _ _ _ _ _ _ _ r h => by simp [corebankref45_Text.l0] at h
 | k + 1 => by
  have ih0 := corebankref45_Text.mono_l k
  ·intro y0 y1 y2 y3 y4 y5 y6 y7 y8 y9
   unfold corebankref45_Text.l0
   repeat' first
   | (with_reducible exact ih0 _ _ _ _ _ _ _ _ _ _)
   | (with_reducible exact corebankref03_Format.mono _ _ _)
   | (with_reducible exact corebankref04_Format.mono _ _)
   | (with_reducible exact corebankref12_Digits.mono _ _)
   | (with_reducible exact corebankref45_Check.mono _ _ _ _ _ _ _ _)
   | (with_reducible exact LeO.refl _)
   | (with_reducible exact LeO.none _)
   | (with_reducible refine LeO.ite ?_ ?_)
   | (with_reducible refine LeO.bind ?_ (fun _ => ?_))
   | exact ih0 _ _ _ _ _ _ _ _ _ _
   | exact corebankref03_Format.mono _ _ _
   | exact corebankref04_Format.mono _ _
   | exact corebankref12_Digits.mono _ _
   | exact corebankref45_Check.mono _ _ _ _ _ _ _ _
   | exact LeO.none _
   | refine LeO.ite ?_ ?_
   | refine LeO.bind ?_ (fun _ => ?_)
theorem corebankref45_Text.mono : ∀ a0 a1 a2 a3 a4 a5 a6 a7 k, LeO (corebankref45_Text.f k a0 a1 a2 a3 a4 a5 a6 a7) (corebankref45_Text.f (k + 1) a0 a1 a2 a3 a4 a5 a6 a7) := by
 intro a0 a1 a2 a3 a4 a5 a6 a7 k
 have ih0 := corebankref45_Text.mono_l k
 unfold corebankref45_Text.f
 repeat' first
   | (with_reducible exact ih0 _ _ _ _ _ _ _ _ _ _)
   | (with_reducible exact corebankref03_Format.mono _ _ _)
   | (with_reducible exact corebankref04_Format.mono _ _)
   | (with_reducible exact corebankref12_Digits.mono _ _)
   | (with_reducible exact corebankref45_Check.mono _ _ _ _ _ _ _ _)
   | (with_reducible exact LeO.refl _)
   | (with_reducible exact LeO.none _)
   | (with_reducible refine LeO.ite ?_ ?_)
   | (with_reducible refine LeO.bind ?_ (fun _ => ?_))
   | exact ih0 _ _ _ _ _ _ _ _ _ _
   | exact corebankref03_Format.mono _ _ _
   | exact corebankref04_Format.mono _ _
   | exact corebankref12_Digits.mono _ _
   | exact corebankref45_Check.mono _ _ _ _ _ _ _ _
   | exact LeO.none _
   | refine LeO.ite ?_ ?_
   | refine LeO.bind ?_ (fun _ => ?_)
set_option maxHeartbeats 8000000 in
set_option maxRecDepth 100000 in
theorem corebankref45_Text.calls (k : Nat) (a0_0 : Int) (a0_1 : Int) (a0_2 : Int) (a0_3 : Int) (a0_4 : Int) (a0_5 : Int) (A0_6 : Option Addr) (c0_6 : Nat) (l0_6 : List (S66)) (a1 : Int) (r1 : ByteArray) (r2 : Int) (w : World) (hr0_6 : Kd.C k66 w A0_6 l0_6.length l0_6) (hc0_6 : l0_6.length ≤ c0_6) (h : corebankref45_Text.f k a0_0 a0_1 a0_2 a0_3 a0_4 a0_5 l0_6 a1 = some (r1, r2)) :
  Calls Tryd.prog 19 #[.agg #[.int .i64 a0_0, .int .i64 a0_1, .int .i64 a0_2, .int .i64 a0_3, .int .i64 a0_4, .int .i64 a0_5, .slice A0_6 l0_6.length c0_6], .int .i64 a1] w fun e w' => e = .returned (.tuple #[.string r1, .int .i64 r2]) ∧ Below w.heap.size w w' := by
 have hu40 := Tryd.underlying40
 have HR0_6 := Aside0.mk hr0_6
 have HC0_6 := Aside0.mk hc0_6
 clear hr0_6 hc0_6
 have HB := Aside0.mk (Below.refl w.heap.size w)
 have H : ((corebankref45_Check.f k a0_0 a0_1 a0_2 a0_3 a0_4 a0_5 l0_6).bind fun t197 => (if t197 = 0 then ((corebankref03_Format.f k a0_4 a1).bind fun bt198 => (if bt198.2 = 0 then ((corebankref12_Digits.f k a0_1).bind fun t200 => (if 10 + t200.size ≤ 9223372036854775807 then (if ((⟨#[115, 116, 97, 116, 101, 109, 101, 110, 116, 32]⟩ : ByteArray) ++ t200).size + 9 ≤ 9223372036854775807 then ((corebankref12_Digits.f k a0_0).bind fun t201 => (if (((⟨#[115, 116, 97, 116, 101, 109, 101, 110, 116, 32]⟩ : ByteArray) ++ t200) ++ (⟨#[32, 97, 99, 99, 111, 117, 110, 116, 32]⟩ : ByteArray)).size + t201.size ≤ 9223372036854775807 then (if ((((⟨#[115, 116, 97, 116, 101, 109, 101, 110, 116, 32]⟩ : ByteArray) ++ t200) ++ (⟨#[32, 97, 99, 99, 111, 117, 110, 116, 32]⟩ : ByteArray)) ++ t201).size + 1 ≤ 9223372036854775807 then ((corebankref04_Format.f k a0_2).bind fun t202 => (if (((((⟨#[115, 116, 97, 116, 101, 109, 101, 110, 116, 32]⟩ : ByteArray) ++ t200) ++ (⟨#[32, 97, 99, 99, 111, 117, 110, 116, 32]⟩ : ByteArray)) ++ t201) ++ (⟨#[10]⟩ : ByteArray)).size + t202.size ≤ 9223372036854775807 then (if ((((((⟨#[115, 116, 97, 116, 101, 109, 101, 110, 116, 32]⟩ : ByteArray) ++ t200) ++ (⟨#[32, 97, 99, 99, 111, 117, 110, 116, 32]⟩ : ByteArray)) ++ t201) ++ (⟨#[10]⟩ : ByteArray)) ++ t202).size + 4 ≤ 9223372036854775807 then ((corebankref04_Format.f k a0_3).bind fun t203 => (if (((((((⟨#[115, 116, 97, 116, 101, 109, 101, 110, 116, 32]⟩ : ByteArray) ++ t200) ++ (⟨#[32, 97, 99, 99, 111, 117, 110, 116, 32]⟩ : ByteArray)) ++ t201) ++ (⟨#[10]⟩ : ByteArray)) ++ t202) ++ (⟨#[32, 116, 111, 32]⟩ : ByteArray)).size + t203.size ≤ 9223372036854775807 then (if ((((((((⟨#[115, 116, 97, 116, 101, 109, 101, 110, 116, 32]⟩ : ByteArray) ++ t200) ++ (⟨#[32, 97, 99, 99, 111, 117, 110, 116, 32]⟩ : ByteArray)) ++ t201) ++ (⟨#[10]⟩ : ByteArray)) ++ t202) ++ (⟨#[32, 116, 111, 32]⟩ : ByteArray)) ++ t203).size + 9 ≤ 9223372036854775807 then (if (((((((((⟨#[115, 116, 97, 116, 101, 109, 101, 110, 116, 32]⟩ : ByteArray) ++ t200) ++ (⟨#[32, 97, 99, 99, 111, 117, 110, 116, 32]⟩ : ByteArray)) ++ t201) ++ (⟨#[10]⟩ : ByteArray)) ++ t202) ++ (⟨#[32, 116, 111, 32]⟩ : ByteArray)) ++ t203) ++ (⟨#[10, 111, 112, 101, 110, 105, 110, 103, 32]⟩ : ByteArray)).size + bt198.1.size ≤ 9223372036854775807 then (if ((((((((((⟨#[115, 116, 97, 116, 101, 109, 101, 110, 116, 32]⟩ : ByteArray) ++ t200) ++ (⟨#[32, 97, 99, 99, 111, 117, 110, 116, 32]⟩ : ByteArray)) ++ t201) ++ (⟨#[10]⟩ : ByteArray)) ++ t202) ++ (⟨#[32, 116, 111, 32]⟩ : ByteArray)) ++ t203) ++ (⟨#[10, 111, 112, 101, 110, 105, 110, 103, 32]⟩ : ByteArray)) ++ bt198.1).size + 1 ≤ 9223372036854775807 then (corebankref45_Text.l0 k a1 (((((((((((⟨#[115, 116, 97, 116, 101, 109, 101, 110, 116, 32]⟩ : ByteArray) ++ t200) ++ (⟨#[32, 97, 99, 99, 111, 117, 110, 116, 32]⟩ : ByteArray)) ++ t201) ++ (⟨#[10]⟩ : ByteArray)) ++ t202) ++ (⟨#[32, 116, 111, 32]⟩ : ByteArray)) ++ t203) ++ (⟨#[10, 111, 112, 101, 110, 105, 110, 103, 32]⟩ : ByteArray)) ++ bt198.1) ++ (⟨#[10]⟩ : ByteArray)) 0 a0_0 a0_1 a0_2 a0_3 a0_4 a0_5 l0_6) else (none)) else (none)) else (none)) else (none))) else (none)) else (none))) else (none)) else (none))) else (none)) else (none))) else (some ((⟨#[]⟩ : ByteArray), bt198.2)))) else (some ((⟨#[]⟩ : ByteArray), t197)))) = some (r1, r2) := h
 clear h
 replace H := Option.bind_eq_some_iff.mp H
 obtain ⟨t197, A30, H⟩ := H
 replace H : (if t197 = 0 then ((corebankref03_Format.f k a0_4 a1).bind fun bt198 => (if bt198.2 = 0 then ((corebankref12_Digits.f k a0_1).bind fun t200 => (if 10 + t200.size ≤ 9223372036854775807 then (if ((⟨#[115, 116, 97, 116, 101, 109, 101, 110, 116, 32]⟩ : ByteArray) ++ t200).size + 9 ≤ 9223372036854775807 then ((corebankref12_Digits.f k a0_0).bind fun t201 => (if (((⟨#[115, 116, 97, 116, 101, 109, 101, 110, 116, 32]⟩ : ByteArray) ++ t200) ++ (⟨#[32, 97, 99, 99, 111, 117, 110, 116, 32]⟩ : ByteArray)).size + t201.size ≤ 9223372036854775807 then (if ((((⟨#[115, 116, 97, 116, 101, 109, 101, 110, 116, 32]⟩ : ByteArray) ++ t200) ++ (⟨#[32, 97, 99, 99, 111, 117, 110, 116, 32]⟩ : ByteArray)) ++ t201).size + 1 ≤ 9223372036854775807 then ((corebankref04_Format.f k a0_2).bind fun t202 => (if (((((⟨#[115, 116, 97, 116, 101, 109, 101, 110, 116, 32]⟩ : ByteArray) ++ t200) ++ (⟨#[32, 97, 99, 99, 111, 117, 110, 116, 32]⟩ : ByteArray)) ++ t201) ++ (⟨#[10]⟩ : ByteArray)).size + t202.size ≤ 9223372036854775807 then (if ((((((⟨#[115, 116, 97, 116, 101, 109, 101, 110, 116, 32]⟩ : ByteArray) ++ t200) ++ (⟨#[32, 97, 99, 99, 111, 117, 110, 116, 32]⟩ : ByteArray)) ++ t201) ++ (⟨#[10]⟩ : ByteArray)) ++ t202).size + 4 ≤ 9223372036854775807 then ((corebankref04_Format.f k a0_3).bind fun t203 => (if (((((((⟨#[115, 116, 97, 116, 101, 109, 101, 110, 116, 32]⟩ : ByteArray) ++ t200) ++ (⟨#[32, 97, 99, 99, 111, 117, 110, 116, 32]⟩ : ByteArray)) ++ t201) ++ (⟨#[10]⟩ : ByteArray)) ++ t202) ++ (⟨#[32, 116, 111, 32]⟩ : ByteArray)).size + t203.size ≤ 9223372036854775807 then (if ((((((((⟨#[115, 116, 97, 116, 101, 109, 101, 110, 116, 32]⟩ : ByteArray) ++ t200) ++ (⟨#[32, 97, 99, 99, 111, 117, 110, 116, 32]⟩ : ByteArray)) ++ t201) ++ (⟨#[10]⟩ : ByteArray)) ++ t202) ++ (⟨#[32, 116, 111, 32]⟩ : ByteArray)) ++ t203).size + 9 ≤ 9223372036854775807 then (if (((((((((⟨#[115, 116, 97, 116, 101, 109, 101, 110, 116, 32]⟩ : ByteArray) ++ t200) ++ (⟨#[32, 97, 99, 99, 111, 117, 110, 116, 32]⟩ : ByteArray)) ++ t201) ++ (⟨#[10]⟩ : ByteArray)) ++ t202) ++ (⟨#[32, 116, 111, 32]⟩ : ByteArray)) ++ t203) ++ (⟨#[10, 111, 112, 101, 110, 105, 110, 103, 32]⟩ : ByteArray)).size + bt198.1.size ≤ 9223372036854775807 then (if ((((((((((⟨#[115, 116, 97, 116, 101, 109, 101, 110, 116, 32]⟩ : ByteArray) ++ t200) ++ (⟨#[32, 97, 99, 99, 111, 117, 110, 116, 32]⟩ : ByteArray)) ++ t201) ++ (⟨#[10]⟩ : ByteArray)) ++ t202) ++ (⟨#[32, 116, 111, 32]⟩ : ByteArray)) ++ t203) ++ (⟨#[10, 111, 112, 101, 110, 105, 110, 103, 32]⟩ : ByteArray)) ++ bt198.1).size + 1 ≤ 9223372036854775807 then (corebankref45_Text.l0 k a1 (((((((((((⟨#[115, 116, 97, 116, 101, 109, 101, 110, 116, 32]⟩ : ByteArray) ++ t200) ++ (⟨#[32, 97, 99, 99, 111, 117, 110, 116, 32]⟩ : ByteArray)) ++ t201) ++ (⟨#[10]⟩ : ByteArray)) ++ t202) ++ (⟨#[32, 116, 111, 32]⟩ : ByteArray)) ++ t203) ++ (⟨#[10, 111, 112, 101, 110, 105, 110, 103, 32]⟩ : ByteArray)) ++ bt198.1) ++ (⟨#[10]⟩ : ByteArray)) 0 a0_0 a0_1 a0_2 a0_3 a0_4 a0_5 l0_6) else (none)) else (none)) else (none)) else (none))) else (none)) else (none))) else (none)) else (none))) else (none)) else (none))) else (some ((⟨#[]⟩ : ByteArray), bt198.2)))) else (some ((⟨#[]⟩ : ByteArray), t197))) = some (r1, r2) := H
 have A3 := Aside0.mk A30
 clear A30
 by_cases c4 : t197 = 0
 ·rw [if_pos c4] at H
  have c4b0 : (t197 == 0) = true := beq_iff_eq.mpr c4
  have c4b1 : (t197 != 0) = false := bne_eq_false_iff_eq.mpr c4
  clear c4
  replace H := Option.bind_eq_some_iff.mp H
  obtain ⟨⟨t198, t199⟩, A50, H⟩ := H
  replace H : (if t199 = 0 then ((corebankref12_Digits.f k a0_1).bind fun t200 => (if 10 + t200.size ≤ 9223372036854775807 then (if ((⟨#[115, 116, 97, 116, 101, 109, 101, 110, 116, 32]⟩ : ByteArray) ++ t200).size + 9 ≤ 9223372036854775807 then ((corebankref12_Digits.f k a0_0).bind fun t201 => (if (((⟨#[115, 116, 97, 116, 101, 109, 101, 110, 116, 32]⟩ : ByteArray) ++ t200) ++ (⟨#[32, 97, 99, 99, 111, 117, 110, 116, 32]⟩ : ByteArray)).size + t201.size ≤ 9223372036854775807 then (if ((((⟨#[115, 116, 97, 116, 101, 109, 101, 110, 116, 32]⟩ : ByteArray) ++ t200) ++ (⟨#[32, 97, 99, 99, 111, 117, 110, 116, 32]⟩ : ByteArray)) ++ t201).size + 1 ≤ 9223372036854775807 then ((corebankref04_Format.f k a0_2).bind fun t202 => (if (((((⟨#[115, 116, 97, 116, 101, 109, 101, 110, 116, 32]⟩ : ByteArray) ++ t200) ++ (⟨#[32, 97, 99, 99, 111, 117, 110, 116, 32]⟩ : ByteArray)) ++ t201) ++ (⟨#[10]⟩ : ByteArray)).size + t202.size ≤ 9223372036854775807 then (if ((((((⟨#[115, 116, 97, 116, 101, 109, 101, 110, 116, 32]⟩ : ByteArray) ++ t200) ++ (⟨#[32, 97, 99, 99, 111, 117, 110, 116, 32]⟩ : ByteArray)) ++ t201) ++ (⟨#[10]⟩ : ByteArray)) ++ t202).size + 4 ≤ 9223372036854775807 then ((corebankref04_Format.f k a0_3).bind fun t203 => (if (((((((⟨#[115, 116, 97, 116, 101, 109, 101, 110, 116, 32]⟩ : ByteArray) ++ t200) ++ (⟨#[32, 97, 99, 99, 111, 117, 110, 116, 32]⟩ : ByteArray)) ++ t201) ++ (⟨#[10]⟩ : ByteArray)) ++ t202) ++ (⟨#[32, 116, 111, 32]⟩ : ByteArray)).size + t203.size ≤ 9223372036854775807 then (if ((((((((⟨#[115, 116, 97, 116, 101, 109, 101, 110, 116, 32]⟩ : ByteArray) ++ t200) ++ (⟨#[32, 97, 99, 99, 111, 117, 110, 116, 32]⟩ : ByteArray)) ++ t201) ++ (⟨#[10]⟩ : ByteArray)) ++ t202) ++ (⟨#[32, 116, 111, 32]⟩ : ByteArray)) ++ t203).size + 9 ≤ 9223372036854775807 then (if (((((((((⟨#[115, 116, 97, 116, 101, 109, 101, 110, 116, 32]⟩ : ByteArray) ++ t200) ++ (⟨#[32, 97, 99, 99, 111, 117, 110, 116, 32]⟩ : ByteArray)) ++ t201) ++ (⟨#[10]⟩ : ByteArray)) ++ t202) ++ (⟨#[32, 116, 111, 32]⟩ : ByteArray)) ++ t203) ++ (⟨#[10, 111, 112, 101, 110, 105, 110, 103, 32]⟩ : ByteArray)).size + t198.size ≤ 9223372036854775807 then (if ((((((((((⟨#[115, 116, 97, 116, 101, 109, 101, 110, 116, 32]⟩ : ByteArray) ++ t200) ++ (⟨#[32, 97, 99, 99, 111, 117, 110, 116, 32]⟩ : ByteArray)) ++ t201) ++ (⟨#[10]⟩ : ByteArray)) ++ t202) ++ (⟨#[32, 116, 111, 32]⟩ : ByteArray)) ++ t203) ++ (⟨#[10, 111, 112, 101, 110, 105, 110, 103, 32]⟩ : ByteArray)) ++ t198).size + 1 ≤ 9223372036854775807 then (corebankref45_Text.l0 k a1 (((((((((((⟨#[115, 116, 97, 116, 101, 109, 101, 110, 116, 32]⟩ : ByteArray) ++ t200) ++ (⟨#[32, 97, 99, 99, 111, 117, 110, 116, 32]⟩ : ByteArray)) ++ t201) ++ (⟨#[10]⟩ : ByteArray)) ++ t202) ++ (⟨#[32, 116, 111, 32]⟩ : ByteArray)) ++ t203) ++ (⟨#[10, 111, 112, 101, 110, 105, 110, 103, 32]⟩ : ByteArray)) ++ t198) ++ (⟨#[10]⟩ : ByteArray)) 0 a0_0 a0_1 a0_2 a0_3 a0_4 a0_5 l0_6) else (none)) else (none)) else (none)) else (none))) else (none)) else (none))) else (none)) else (none))) else (none)) else (none))) else (some ((⟨#[]⟩ : ByteArray), t199))) = some (r1, r2) := H
  have A5 := Aside0.mk A50
  clear A50
  by_cases c6 : t199 = 0
  ·rw [if_pos c6] at H
   have c6b0 : (t199 == 0) = true := beq_iff_eq.mpr c6
   have c6b1 : (t199 != 0) = false := bne_eq_false_iff_eq.mpr c6
   clear c6
   replace H := Option.bind_eq_some_iff.mp H
   obtain ⟨t200, A70, H⟩ := H
   replace H : (if 10 + t200.size ≤ 9223372036854775807 then (if ((⟨#[115, 116, 97, 116, 101, 109, 101, 110, 116, 32]⟩ : ByteArray) ++ t200).size + 9 ≤ 9223372036854775807 then ((corebankref12_Digits.f k a0_0).bind fun t201 => (if (((⟨#[115, 116, 97, 116, 101, 109, 101, 110, 116, 32]⟩ : ByteArray) ++ t200) ++ (⟨#[32, 97, 99, 99, 111, 117, 110, 116, 32]⟩ : ByteArray)).size + t201.size ≤ 9223372036854775807 then (if ((((⟨#[115, 116, 97, 116, 101, 109, 101, 110, 116, 32]⟩ : ByteArray) ++ t200) ++ (⟨#[32, 97, 99, 99, 111, 117, 110, 116, 32]⟩ : ByteArray)) ++ t201).size + 1 ≤ 9223372036854775807 then ((corebankref04_Format.f k a0_2).bind fun t202 => (if (((((⟨#[115, 116, 97, 116, 101, 109, 101, 110, 116, 32]⟩ : ByteArray) ++ t200) ++ (⟨#[32, 97, 99, 99, 111, 117, 110, 116, 32]⟩ : ByteArray)) ++ t201) ++ (⟨#[10]⟩ : ByteArray)).size + t202.size ≤ 9223372036854775807 then (if ((((((⟨#[115, 116, 97, 116, 101, 109, 101, 110, 116, 32]⟩ : ByteArray) ++ t200) ++ (⟨#[32, 97, 99, 99, 111, 117, 110, 116, 32]⟩ : ByteArray)) ++ t201) ++ (⟨#[10]⟩ : ByteArray)) ++ t202).size + 4 ≤ 9223372036854775807 then ((corebankref04_Format.f k a0_3).bind fun t203 => (if (((((((⟨#[115, 116, 97, 116, 101, 109, 101, 110, 116, 32]⟩ : ByteArray) ++ t200) ++ (⟨#[32, 97, 99, 99, 111, 117, 110, 116, 32]⟩ : ByteArray)) ++ t201) ++ (⟨#[10]⟩ : ByteArray)) ++ t202) ++ (⟨#[32, 116, 111, 32]⟩ : ByteArray)).size + t203.size ≤ 9223372036854775807 then (if ((((((((⟨#[115, 116, 97, 116, 101, 109, 101, 110, 116, 32]⟩ : ByteArray) ++ t200) ++ (⟨#[32, 97, 99, 99, 111, 117, 110, 116, 32]⟩ : ByteArray)) ++ t201) ++ (⟨#[10]⟩ : ByteArray)) ++ t202) ++ (⟨#[32, 116, 111, 32]⟩ : ByteArray)) ++ t203).size + 9 ≤ 9223372036854775807 then (if (((((((((⟨#[115, 116, 97, 116, 101, 109, 101, 110, 116, 32]⟩ : ByteArray) ++ t200) ++ (⟨#[32, 97, 99, 99, 111, 117, 110, 116, 32]⟩ : ByteArray)) ++ t201) ++ (⟨#[10]⟩ : ByteArray)) ++ t202) ++ (⟨#[32, 116, 111, 32]⟩ : ByteArray)) ++ t203) ++ (⟨#[10, 111, 112, 101, 110, 105, 110, 103, 32]⟩ : ByteArray)).size + t198.size ≤ 9223372036854775807 then (if ((((((((((⟨#[115, 116, 97, 116, 101, 109, 101, 110, 116, 32]⟩ : ByteArray) ++ t200) ++ (⟨#[32, 97, 99, 99, 111, 117, 110, 116, 32]⟩ : ByteArray)) ++ t201) ++ (⟨#[10]⟩ : ByteArray)) ++ t202) ++ (⟨#[32, 116, 111, 32]⟩ : ByteArray)) ++ t203) ++ (⟨#[10, 111, 112, 101, 110, 105, 110, 103, 32]⟩ : ByteArray)) ++ t198).size + 1 ≤ 9223372036854775807 then (corebankref45_Text.l0 k a1 (((((((((((⟨#[115, 116, 97, 116, 101, 109, 101, 110, 116, 32]⟩ : ByteArray) ++ t200) ++ (⟨#[32, 97, 99, 99, 111, 117, 110, 116, 32]⟩ : ByteArray)) ++ t201) ++ (⟨#[10]⟩ : ByteArray)) ++ t202) ++ (⟨#[32, 116, 111, 32]⟩ : ByteArray)) ++ t203) ++ (⟨#[10, 111, 112, 101, 110, 105, 110, 103, 32]⟩ : ByteArray)) ++ t198) ++ (⟨#[10]⟩ : ByteArray)) 0 a0_0 a0_1 a0_2 a0_3 a0_4 a0_5 l0_6) else (none)) else (none)) else (none)) else (none))) else (none)) else (none))) else (none)) else (none))) else (none)) else (none)) = some (r1, r2) := H
   have A7 := Aside0.mk A70
   clear A70
   by_cases c8 : 10 + t200.size ≤ 9223372036854775807
   ·rw [if_pos c8] at H
    have c8b0 := eq_true c8
    have c8b1 : decide (10 + t200.size ≤ 9223372036854775807) = true := decide_eq_true c8
    try have c8b2 : (9223372036854775807 < 10 + t200.size) = False := eq_false (Nat.not_lt.2 c8)
    by_cases c9 : ((⟨#[115, 116, 97, 116, 101, 109, 101, 110, 116, 32]⟩ : ByteArray) ++ t200).size + 9 ≤ 9223372036854775807
    ·rw [if_pos c9] at H
     have c9b0 := eq_true c9
     have c9b1 : decide (((⟨#[115, 116, 97, 116, 101, 109, 101, 110, 116, 32]⟩ : ByteArray) ++ t200).size + 9 ≤ 9223372036854775807) = true := decide_eq_true c9
     try have c9b2 : (9223372036854775807 < ((⟨#[115, 116, 97, 116, 101, 109, 101, 110, 116, 32]⟩ : ByteArray) ++ t200).size + 9) = False := eq_false (Nat.not_lt.2 c9)
     try have c9b3 : (9223372036854775807 < 10 + t200.size + 9) = False := eq_false (Nat.not_lt.2 (by have z_ := c9; simp only [ByteArray.size_append] at z_; exact z_))
     replace H := Option.bind_eq_some_iff.mp H
     obtain ⟨t201, A100, H⟩ := H
     replace H : (if (((⟨#[115, 116, 97, 116, 101, 109, 101, 110, 116, 32]⟩ : ByteArray) ++ t200) ++ (⟨#[32, 97, 99, 99, 111, 117, 110, 116, 32]⟩ : ByteArray)).size + t201.size ≤ 9223372036854775807 then (if ((((⟨#[115, 116, 97, 116, 101, 109, 101, 110, 116, 32]⟩ : ByteArray) ++ t200) ++ (⟨#[32, 97, 99, 99, 111, 117, 110, 116, 32]⟩ : ByteArray)) ++ t201).size + 1 ≤ 9223372036854775807 then ((corebankref04_Format.f k a0_2).bind fun t202 => (if (((((⟨#[115, 116, 97, 116, 101, 109, 101, 110, 116, 32]⟩ : ByteArray) ++ t200) ++ (⟨#[32, 97, 99, 99, 111, 117, 110, 116, 32]⟩ : ByteArray)) ++ t201) ++ (⟨#[10]⟩ : ByteArray)).size + t202.size ≤ 9223372036854775807 then (if ((((((⟨#[115, 116, 97, 116, 101, 109, 101, 110, 116, 32]⟩ : ByteArray) ++ t200) ++ (⟨#[32, 97, 99, 99, 111, 117, 110, 116, 32]⟩ : ByteArray)) ++ t201) ++ (⟨#[10]⟩ : ByteArray)) ++ t202).size + 4 ≤ 9223372036854775807 then ((corebankref04_Format.f k a0_3).bind fun t203 => (if (((((((⟨#[115, 116, 97, 116, 101, 109, 101, 110, 116, 32]⟩ : ByteArray) ++ t200) ++ (⟨#[32, 97, 99, 99, 111, 117, 110, 116, 32]⟩ : ByteArray)) ++ t201) ++ (⟨#[10]⟩ : ByteArray)) ++ t202) ++ (⟨#[32, 116, 111, 32]⟩ : ByteArray)).size + t203.size ≤ 9223372036854775807 then (if ((((((((⟨#[115, 116, 97, 116, 101, 109, 101, 110, 116, 32]⟩ : ByteArray) ++ t200) ++ (⟨#[32, 97, 99, 99, 111, 117, 110, 116, 32]⟩ : ByteArray)) ++ t201) ++ (⟨#[10]⟩ : ByteArray)) ++ t202) ++ (⟨#[32, 116, 111, 32]⟩ : ByteArray)) ++ t203).size + 9 ≤ 9223372036854775807 then (if (((((((((⟨#[115, 116, 97, 116, 101, 109, 101, 110, 116, 32]⟩ : ByteArray) ++ t200) ++ (⟨#[32, 97, 99, 99, 111, 117, 110, 116, 32]⟩ : ByteArray)) ++ t201) ++ (⟨#[10]⟩ : ByteArray)) ++ t202) ++ (⟨#[32, 116, 111, 32]⟩ : ByteArray)) ++ t203) ++ (⟨#[10, 111, 112, 101, 110, 105, 110, 103, 32]⟩ : ByteArray)).size + t198.size ≤ 9223372036854775807 then (if ((((((((((⟨#[115, 116, 97, 116, 101, 109, 101, 110, 116, 32]⟩ : ByteArray) ++ t200) ++ (⟨#[32, 97, 99, 99, 111, 117, 110, 116, 32]⟩ : ByteArray)) ++ t201) ++ (⟨#[10]⟩ : ByteArray)) ++ t202) ++ (⟨#[32, 116, 111, 32]⟩ : ByteArray)) ++ t203) ++ (⟨#[10, 111, 112, 101, 110, 105, 110, 103, 32]⟩ : ByteArray)) ++ t198).size + 1 ≤ 9223372036854775807 then (corebankref45_Text.l0 k a1 (((((((((((⟨#[115, 116, 97, 116, 101, 109, 101, 110, 116, 32]⟩ : ByteArray) ++ t200) ++ (⟨#[32, 97, 99, 99, 111, 117, 110, 116, 32]⟩ : ByteArray)) ++ t201) ++ (⟨#[10]⟩ : ByteArray)) ++ t202) ++ (⟨#[32, 116, 111, 32]⟩ : ByteArray)) ++ t203) ++ (⟨#[10, 111, 112, 101, 110, 105, 110, 103, 32]⟩ : ByteArray)) ++ t198) ++ (⟨#[10]⟩ : ByteArray)) 0 a0_0 a0_1 a0_2 a0_3 a0_4 a0_5 l0_6) else (none)) else (none)) else (none)) else (none))) else (none)) else (none))) else (none)) else (none)) = some (r1, r2) := H
     have A10 := Aside0.mk A100
     clear A100
     by_cases c11 : (((⟨#[115, 116, 97, 116, 101, 109, 101, 110, 116, 32]⟩ : ByteArray) ++ t200) ++ (⟨#[32, 97, 99, 99, 111, 117, 110, 116, 32]⟩ : ByteArray)).size + t201.size ≤ 9223372036854775807
     ·rw [if_pos c11] at H
      have c11b0 := eq_true c11
      have c11b1 : decide ((((⟨#[115, 116, 97, 116, 101, 109, 101, 110, 116, 32]⟩ : ByteArray) ++ t200) ++ (⟨#[32, 97, 99, 99, 111, 117, 110, 116, 32]⟩ : ByteArray)).size + t201.size ≤ 9223372036854775807) = true := decide_eq_true c11
      try have c11b2 : (9223372036854775807 < (((⟨#[115, 116, 97, 116, 101, 109, 101, 110, 116, 32]⟩ : ByteArray) ++ t200) ++ (⟨#[32, 97, 99, 99, 111, 117, 110, 116, 32]⟩ : ByteArray)).size + t201.size) = False := eq_false (Nat.not_lt.2 c11)
      try have c11b3 : (9223372036854775807 < 10 + t200.size + 9 + t201.size) = False := eq_false (Nat.not_lt.2 (by have z_ := c11; simp only [ByteArray.size_append] at z_; exact z_))
      by_cases c12 : ((((⟨#[115, 116, 97, 116, 101, 109, 101, 110, 116, 32]⟩ : ByteArray) ++ t200) ++ (⟨#[32, 97, 99, 99, 111, 117, 110, 116, 32]⟩ : ByteArray)) ++ t201).size + 1 ≤ 9223372036854775807
      ·rw [if_pos c12] at H
       have c12b0 := eq_true c12
       have c12b1 : decide (((((⟨#[115, 116, 97, 116, 101, 109, 101, 110, 116, 32]⟩ : ByteArray) ++ t200) ++ (⟨#[32, 97, 99, 99, 111, 117, 110, 116, 32]⟩ : ByteArray)) ++ t201).size + 1 ≤ 9223372036854775807) = true := decide_eq_true c12
       try have c12b2 : (9223372036854775807 < ((((⟨#[115, 116, 97, 116, 101, 109, 101, 110, 116, 32]⟩ : ByteArray) ++ t200) ++ (⟨#[32, 97, 99, 99, 111, 117, 110, 116, 32]⟩ : ByteArray)) ++ t201).size + 1) = False := eq_false (Nat.not_lt.2 c12)
       try have c12b3 : (9223372036854775807 < 10 + t200.size + 9 + t201.size + 1) = False := eq_false (Nat.not_lt.2 (by have z_ := c12; simp only [ByteArray.size_append] at z_; exact z_))
       replace H := Option.bind_eq_some_iff.mp H
       obtain ⟨t202, A130, H⟩ := H
       replace H : (if (((((⟨#[115, 116, 97, 116, 101, 109, 101, 110, 116, 32]⟩ : ByteArray) ++ t200) ++ (⟨#[32, 97, 99, 99, 111, 117, 110, 116, 32]⟩ : ByteArray)) ++ t201) ++ (⟨#[10]⟩ : ByteArray)).size + t202.size ≤ 9223372036854775807 then (if ((((((⟨#[115, 116, 97, 116, 101, 109, 101, 110, 116, 32]⟩ : ByteArray) ++ t200) ++ (⟨#[32, 97, 99, 99, 111, 117, 110, 116, 32]⟩ : ByteArray)) ++ t201) ++ (⟨#[10]⟩ : ByteArray)) ++ t202).size + 4 ≤ 9223372036854775807 then ((corebankref04_Format.f k a0_3).bind fun t203 => (if (((((((⟨#[115, 116, 97, 116, 101, 109, 101, 110, 116, 32]⟩ : ByteArray) ++ t200) ++ (⟨#[32, 97, 99, 99, 111, 117, 110, 116, 32]⟩ : ByteArray)) ++ t201) ++ (⟨#[10]⟩ : ByteArray)) ++ t202) ++ (⟨#[32, 116, 111, 32]⟩ : ByteArray)).size + t203.size ≤ 9223372036854775807 then (if ((((((((⟨#[115, 116, 97, 116, 101, 109, 101, 110, 116, 32]⟩ : ByteArray) ++ t200) ++ (⟨#[32, 97, 99, 99, 111, 117, 110, 116, 32]⟩ : ByteArray)) ++ t201) ++ (⟨#[10]⟩ : ByteArray)) ++ t202) ++ (⟨#[32, 116, 111, 32]⟩ : ByteArray)) ++ t203).size + 9 ≤ 9223372036854775807 then (if (((((((((⟨#[115, 116, 97, 116, 101, 109, 101, 110, 116, 32]⟩ : ByteArray) ++ t200) ++ (⟨#[32, 97, 99, 99, 111, 117, 110, 116, 32]⟩ : ByteArray)) ++ t201) ++ (⟨#[10]⟩ : ByteArray)) ++ t202) ++ (⟨#[32, 116, 111, 32]⟩ : ByteArray)) ++ t203) ++ (⟨#[10, 111, 112, 101, 110, 105, 110, 103, 32]⟩ : ByteArray)).size + t198.size ≤ 9223372036854775807 then (if ((((((((((⟨#[115, 116, 97, 116, 101, 109, 101, 110, 116, 32]⟩ : ByteArray) ++ t200) ++ (⟨#[32, 97, 99, 99, 111, 117, 110, 116, 32]⟩ : ByteArray)) ++ t201) ++ (⟨#[10]⟩ : ByteArray)) ++ t202) ++ (⟨#[32, 116, 111, 32]⟩ : ByteArray)) ++ t203) ++ (⟨#[10, 111, 112, 101, 110, 105, 110, 103, 32]⟩ : ByteArray)) ++ t198).size + 1 ≤ 9223372036854775807 then (corebankref45_Text.l0 k a1 (((((((((((⟨#[115, 116, 97, 116, 101, 109, 101, 110, 116, 32]⟩ : ByteArray) ++ t200) ++ (⟨#[32, 97, 99, 99, 111, 117, 110, 116, 32]⟩ : ByteArray)) ++ t201) ++ (⟨#[10]⟩ : ByteArray)) ++ t202) ++ (⟨#[32, 116, 111, 32]⟩ : ByteArray)) ++ t203) ++ (⟨#[10, 111, 112, 101, 110, 105, 110, 103, 32]⟩ : ByteArray)) ++ t198) ++ (⟨#[10]⟩ : ByteArray)) 0 a0_0 a0_1 a0_2 a0_3 a0_4 a0_5 l0_6) else (none)) else (none)) else (none)) else (none))) else (none)) else (none)) = some (r1, r2) := H
       have A13 := Aside0.mk A130
       clear A130
       by_cases c14 : (((((⟨#[115, 116, 97, 116, 101, 109, 101, 110, 116, 32]⟩ : ByteArray) ++ t200) ++ (⟨#[32, 97, 99, 99, 111, 117, 110, 116, 32]⟩ : ByteArray)) ++ t201) ++ (⟨#[10]⟩ : ByteArray)).size + t202.size ≤ 9223372036854775807
       ·rw [if_pos c14] at H
        have c14b0 := eq_true c14
        have c14b1 : decide ((((((⟨#[115, 116, 97, 116, 101, 109, 101, 110, 116, 32]⟩ : ByteArray) ++ t200) ++ (⟨#[32, 97, 99, 99, 111, 117, 110, 116, 32]⟩ : ByteArray)) ++ t201) ++ (⟨#[10]⟩ : ByteArray)).size + t202.size ≤ 9223372036854775807) = true := decide_eq_true c14
        try have c14b2 : (9223372036854775807 < (((((⟨#[115, 116, 97, 116, 101, 109, 101, 110, 116, 32]⟩ : ByteArray) ++ t200) ++ (⟨#[32, 97, 99, 99, 111, 117, 110, 116, 32]⟩ : ByteArray)) ++ t201) ++ (⟨#[10]⟩ : ByteArray)).size + t202.size) = False := eq_false (Nat.not_lt.2 c14)
        try have c14b3 : (9223372036854775807 < 10 + t200.size + 9 + t201.size + 1 + t202.size) = False := eq_false (Nat.not_lt.2 (by have z_ := c14; simp only [ByteArray.size_append] at z_; exact z_))
        by_cases c15 : ((((((⟨#[115, 116, 97, 116, 101, 109, 101, 110, 116, 32]⟩ : ByteArray) ++ t200) ++ (⟨#[32, 97, 99, 99, 111, 117, 110, 116, 32]⟩ : ByteArray)) ++ t201) ++ (⟨#[10]⟩ : ByteArray)) ++ t202).size + 4 ≤ 9223372036854775807
        ·rw [if_pos c15] at H
         have c15b0 := eq_true c15
         have c15b1 : decide (((((((⟨#[115, 116, 97, 116, 101, 109, 101, 110, 116, 32]⟩ : ByteArray) ++ t200) ++ (⟨#[32, 97, 99, 99, 111, 117, 110, 116, 32]⟩ : ByteArray)) ++ t201) ++ (⟨#[10]⟩ : ByteArray)) ++ t202).size + 4 ≤ 9223372036854775807) = true := decide_eq_true c15
         try have c15b2 : (9223372036854775807 < ((((((⟨#[115, 116, 97, 116, 101, 109, 101, 110, 116, 32]⟩ : ByteArray) ++ t200) ++ (⟨#[32, 97, 99, 99, 111, 117, 110, 116, 32]⟩ : ByteArray)) ++ t201) ++ (⟨#[10]⟩ : ByteArray)) ++ t202).size + 4) = False := eq_false (Nat.not_lt.2 c15)
         try have c15b3 : (9223372036854775807 < 10 + t200.size + 9 + t201.size + 1 + t202.size + 4) = False := eq_false (Nat.not_lt.2 (by have z_ := c15; simp only [ByteArray.size_append] at z_; exact z_))
         replace H := Option.bind_eq_some_iff.mp H
         obtain ⟨t203, A160, H⟩ := H
         replace H : (if (((((((⟨#[115, 116, 97, 116, 101, 109, 101, 110, 116, 32]⟩ : ByteArray) ++ t200) ++ (⟨#[32, 97, 99, 99, 111, 117, 110, 116, 32]⟩ : ByteArray)) ++ t201) ++ (⟨#[10]⟩ : ByteArray)) ++ t202) ++ (⟨#[32, 116, 111, 32]⟩ : ByteArray)).size + t203.size ≤ 9223372036854775807 then (if ((((((((⟨#[115, 116, 97, 116, 101, 109, 101, 110, 116, 32]⟩ : ByteArray) ++ t200) ++ (⟨#[32, 97, 99, 99, 111, 117, 110, 116, 32]⟩ : ByteArray)) ++ t201) ++ (⟨#[10]⟩ : ByteArray)) ++ t202) ++ (⟨#[32, 116, 111, 32]⟩ : ByteArray)) ++ t203).size + 9 ≤ 9223372036854775807 then (if (((((((((⟨#[115, 116, 97, 116, 101, 109, 101, 110, 116, 32]⟩ : ByteArray) ++ t200) ++ (⟨#[32, 97, 99, 99, 111, 117, 110, 116, 32]⟩ : ByteArray)) ++ t201) ++ (⟨#[10]⟩ : ByteArray)) ++ t202) ++ (⟨#[32, 116, 111, 32]⟩ : ByteArray)) ++ t203) ++ (⟨#[10, 111, 112, 101, 110, 105, 110, 103, 32]⟩ : ByteArray)).size + t198.size ≤ 9223372036854775807 then (if ((((((((((⟨#[115, 116, 97, 116, 101, 109, 101, 110, 116, 32]⟩ : ByteArray) ++ t200) ++ (⟨#[32, 97, 99, 99, 111, 117, 110, 116, 32]⟩ : ByteArray)) ++ t201) ++ (⟨#[10]⟩ : ByteArray)) ++ t202) ++ (⟨#[32, 116, 111, 32]⟩ : ByteArray)) ++ t203) ++ (⟨#[10, 111, 112, 101, 110, 105, 110, 103, 32]⟩ : ByteArray)) ++ t198).size + 1 ≤ 9223372036854775807 then (corebankref45_Text.l0 k a1 (((((((((((⟨#[115, 116, 97, 116, 101, 109, 101, 110, 116, 32]⟩ : ByteArray) ++ t200) ++ (⟨#[32, 97, 99, 99, 111, 117, 110, 116, 32]⟩ : ByteArray)) ++ t201) ++ (⟨#[10]⟩ : ByteArray)) ++ t202) ++ (⟨#[32, 116, 111, 32]⟩ : ByteArray)) ++ t203) ++ (⟨#[10, 111, 112, 101, 110, 105, 110, 103, 32]⟩ : ByteArray)) ++ t198) ++ (⟨#[10]⟩ : ByteArray)) 0 a0_0 a0_1 a0_2 a0_3 a0_4 a0_5 l0_6) else (none)) else (none)) else (none)) else (none)) = some (r1, r2) := H
         have A16 := Aside0.mk A160
         clear A160
         by_cases c17 : (((((((⟨#[115, 116, 97, 116, 101, 109, 101, 110, 116, 32]⟩ : ByteArray) ++ t200) ++ (⟨#[32, 97, 99, 99, 111, 117, 110, 116, 32]⟩ : ByteArray)) ++ t201) ++ (⟨#[10]⟩ : ByteArray)) ++ t202) ++ (⟨#[32, 116, 111, 32]⟩ : ByteArray)).size + t203.size ≤ 9223372036854775807
         ·rw [if_pos c17] at H
          have c17b0 := eq_true c17
          have c17b1 : decide ((((((((⟨#[115, 116, 97, 116, 101, 109, 101, 110, 116, 32]⟩ : ByteArray) ++ t200) ++ (⟨#[32, 97, 99, 99, 111, 117, 110, 116, 32]⟩ : ByteArray)) ++ t201) ++ (⟨#[10]⟩ : ByteArray)) ++ t202) ++ (⟨#[32, 116, 111, 32]⟩ : ByteArray)).size + t203.size ≤ 9223372036854775807) = true := decide_eq_true c17
          try have c17b2 : (9223372036854775807 < (((((((⟨#[115, 116, 97, 116, 101, 109, 101, 110, 116, 32]⟩ : ByteArray) ++ t200) ++ (⟨#[32, 97, 99, 99, 111, 117, 110, 116, 32]⟩ : ByteArray)) ++ t201) ++ (⟨#[10]⟩ : ByteArray)) ++ t202) ++ (⟨#[32, 116, 111, 32]⟩ : ByteArray)).size + t203.size) = False := eq_false (Nat.not_lt.2 c17)
          try have c17b3 : (9223372036854775807 < 10 + t200.size + 9 + t201.size + 1 + t202.size + 4 + t203.size) = False := eq_false (Nat.not_lt.2 (by have z_ := c17; simp only [ByteArray.size_append] at z_; exact z_))
          by_cases c18 : ((((((((⟨#[115, 116, 97, 116, 101, 109, 101, 110, 116, 32]⟩ : ByteArray) ++ t200) ++ (⟨#[32, 97, 99, 99, 111, 117, 110, 116, 32]⟩ : ByteArray)) ++ t201) ++ (⟨#[10]⟩ : ByteArray)) ++ t202) ++ (⟨#[32, 116, 111, 32]⟩ : ByteArray)) ++ t203).size + 9 ≤ 9223372036854775807
          ·rw [if_pos c18] at H
           have c18b0 := eq_true c18
           have c18b1 : decide (((((((((⟨#[115, 116, 97, 116, 101, 109, 101, 110, 116, 32]⟩ : ByteArray) ++ t200) ++ (⟨#[32, 97, 99, 99, 111, 117, 110, 116, 32]⟩ : ByteArray)) ++ t201) ++ (⟨#[10]⟩ : ByteArray)) ++ t202) ++ (⟨#[32, 116, 111, 32]⟩ : ByteArray)) ++ t203).size + 9 ≤ 9223372036854775807) = true := decide_eq_true c18
           try have c18b2 : (9223372036854775807 < ((((((((⟨#[115, 116, 97, 116, 101, 109, 101, 110, 116, 32]⟩ : ByteArray) ++ t200) ++ (⟨#[32, 97, 99, 99, 111, 117, 110, 116, 32]⟩ : ByteArray)) ++ t201) ++ (⟨#[10]⟩ : ByteArray)) ++ t202) ++ (⟨#[32, 116, 111, 32]⟩ : ByteArray)) ++ t203).size + 9) = False := eq_false (Nat.not_lt.2 c18)
           try have c18b3 : (9223372036854775807 < 10 + t200.size + 9 + t201.size + 1 + t202.size + 4 + t203.size + 9) = False := eq_false (Nat.not_lt.2 (by have z_ := c18; simp only [ByteArray.size_append] at z_; exact z_))
           by_cases c19 : (((((((((⟨#[115, 116, 97, 116, 101, 109, 101, 110, 116, 32]⟩ : ByteArray) ++ t200) ++ (⟨#[32, 97, 99, 99, 111, 117, 110, 116, 32]⟩ : ByteArray)) ++ t201) ++ (⟨#[10]⟩ : ByteArray)) ++ t202) ++ (⟨#[32, 116, 111, 32]⟩ : ByteArray)) ++ t203) ++ (⟨#[10, 111, 112, 101, 110, 105, 110, 103, 32]⟩ : ByteArray)).size + t198.size ≤ 9223372036854775807
           ·rw [if_pos c19] at H
            have c19b0 := eq_true c19
            have c19b1 : decide ((((((((((⟨#[115, 116, 97, 116, 101, 109, 101, 110, 116, 32]⟩ : ByteArray) ++ t200) ++ (⟨#[32, 97, 99, 99, 111, 117, 110, 116, 32]⟩ : ByteArray)) ++ t201) ++ (⟨#[10]⟩ : ByteArray)) ++ t202) ++ (⟨#[32, 116, 111, 32]⟩ : ByteArray)) ++ t203) ++ (⟨#[10, 111, 112, 101, 110, 105, 110, 103, 32]⟩ : ByteArray)).size + t198.size ≤ 9223372036854775807) = true := decide_eq_true c19
            try have c19b2 : (9223372036854775807 < (((((((((⟨#[115, 116, 97, 116, 101, 109, 101, 110, 116, 32]⟩ : ByteArray) ++ t200) ++ (⟨#[32, 97, 99, 99, 111, 117, 110, 116, 32]⟩ : ByteArray)) ++ t201) ++ (⟨#[10]⟩ : ByteArray)) ++ t202) ++ (⟨#[32, 116, 111, 32]⟩ : ByteArray)) ++ t203) ++ (⟨#[10, 111, 112, 101, 110, 105, 110, 103, 32]⟩ : ByteArray)).size + t198.size) = False := eq_false (Nat.not_lt.2 c19)
            try have c19b3 : (9223372036854775807 < 10 + t200.size + 9 + t201.size + 1 + t202.size + 4 + t203.size + 9 + t198.size) = False := eq_false (Nat.not_lt.2 (by have z_ := c19; simp only [ByteArray.size_append] at z_; exact z_))
            by_cases c20 : ((((((((((⟨#[115, 116, 97, 116, 101, 109, 101, 110, 116, 32]⟩ : ByteArray) ++ t200) ++ (⟨#[32, 97, 99, 99, 111, 117, 110, 116, 32]⟩ : ByteArray)) ++ t201) ++ (⟨#[10]⟩ : ByteArray)) ++ t202) ++ (⟨#[32, 116, 111, 32]⟩ : ByteArray)) ++ t203) ++ (⟨#[10, 111, 112, 101, 110, 105, 110, 103, 32]⟩ : ByteArray)) ++ t198).size + 1 ≤ 9223372036854775807
            ·rw [if_pos c20] at H
             have c20b0 := eq_true c20
             have c20b1 : decide (((((((((((⟨#[115, 116, 97, 116, 101, 109, 101, 110, 116, 32]⟩ : ByteArray) ++ t200) ++ (⟨#[32, 97, 99, 99, 111, 117, 110, 116, 32]⟩ : ByteArray)) ++ t201) ++ (⟨#[10]⟩ : ByteArray)) ++ t202) ++ (⟨#[32, 116, 111, 32]⟩ : ByteArray)) ++ t203) ++ (⟨#[10, 111, 112, 101, 110, 105, 110, 103, 32]⟩ : ByteArray)) ++ t198).size + 1 ≤ 9223372036854775807) = true := decide_eq_true c20
             try have c20b2 : (9223372036854775807 < ((((((((((⟨#[115, 116, 97, 116, 101, 109, 101, 110, 116, 32]⟩ : ByteArray) ++ t200) ++ (⟨#[32, 97, 99, 99, 111, 117, 110, 116, 32]⟩ : ByteArray)) ++ t201) ++ (⟨#[10]⟩ : ByteArray)) ++ t202) ++ (⟨#[32, 116, 111, 32]⟩ : ByteArray)) ++ t203) ++ (⟨#[10, 111, 112, 101, 110, 105, 110, 103, 32]⟩ : ByteArray)) ++ t198).size + 1) = False := eq_false (Nat.not_lt.2 c20)
             try have c20b3 : (9223372036854775807 < 10 + t200.size + 9 + t201.size + 1 + t202.size + 4 + t203.size + 9 + t198.size + 1) = False := eq_false (Nat.not_lt.2 (by have z_ := c20; simp only [ByteArray.size_append] at z_; exact z_))
             have H' := Aside0.mk H
             clear H
             go_enter Tryd.func19, Tryd.ntmps19
             go_wp2_with (first | ((with_reducible refine gate_dst (N := 2) rfl ?_); refine box_event ?hg (N := 2) ?hd (cs := #[.int .i64 a0_0, .int .i64 a0_1, .int .i64 a0_2, .int .i64 a0_3, .int .i64 a0_4, .int .i64 a0_5, .slice A0_6 l0_6.length c0_6]) (t := 40) ?hr ?_; (case hd => rfl); (case hg => rfl); (case hr => first | (go_simp; done) | (go_simp; rfl)); intro gb196 hg w21 hbox hb; have n0_ := Aside0.mk (below_step (by repeat (first | (with_reducible first | exact HB.out | apply below_alloc | apply pw_below_drewN | apply below_drew1) | exact HB.out)) hb); have n1_ := Aside0.mk (hbox); have n2_ := Aside0.mk ((by rw [hg]; exact (below_size (by repeat (first | (with_reducible first | exact HB.out | apply below_alloc | apply pw_below_drewN | apply below_drew1) | exact HB.out))) : w.heap.size ≤ gb196)); have n3_ := n2_; clear HB; have HB := n0_; have BK196 := n1_; have GW196 := n2_; have GE196 := n3_; clear n0_ n1_ n2_ n3_; clear hb hbox hg; obtain ⟨hcz22_0, hcz22_1, hcz22_2, hcz22_3, hcz22_4, hcz22_5, hcz22_6⟩ := cells7_ BK196.out; obtain ⟨hfz22_0, hfz22_1, hfz22_2, hfz22_3, hfz22_4, hfz22_5, hfz22_6⟩ := froz7_ BK196.out) | (go_at_call 15; (with_reducible refine (corebankref45_Check.calls k a0_0 a0_1 a0_2 a0_3 a0_4 a0_5 _ _ l0_6 t197 _ ?side1 ?side2 A3.out).mono ?_); (case side1 => repeat (first | exact (Kd.C_below HR0_6.out HB.out) | (with_reducible refine Kd.C_alloc ?_ _) | (with_reducible refine Kd.C_drewN ?_ _) | (with_reducible refine Kd.C_drew ?_))); (case side2 => exact HC0_6.out); rintro e w23 ⟨rfl, hb⟩; have n0_ := Aside0.mk (blk_below (g := gb196) (by repeat (first | exact BK196.out | apply blk_alloc)) hb); have n1_ := Aside0.mk (below_step (by repeat (first | (with_reducible first | exact HB.out | apply below_alloc | apply pw_below_drewN | apply below_drew1 | refine below_set ?_ GE196.out) | exact HB.out)) hb); clear BK196 HB; have BK196 := n0_; have HB := n1_; clear n0_ n1_; (try clear hb); (try clear hb2); (try clear hk); (try clear hi); obtain ⟨hcz24_0, hcz24_1, hcz24_2, hcz24_3, hcz24_4, hcz24_5, hcz24_6⟩ := cells7_ BK196.out; obtain ⟨hfz24_0, hfz24_1, hfz24_2, hfz24_3, hfz24_4, hfz24_5, hfz24_6⟩ := froz7_ BK196.out) | (go_at_call 38; (with_reducible refine (corebankref03_Format.calls k a0_4 a1 t198 t199 _ A5.out).mono ?_); rintro e w' ⟨rfl, ⟨nd, rfl⟩⟩; (try first | exact ⟨rfl, _, World.drewN_drewN _ _ _⟩ | exact ⟨rfl, _, Eq.trans (World.drewN_drewN _ _ _) (congrArg (World.drewN _) (Nat.add_assoc _ _ _))⟩)) | (go_at_call 39; (with_reducible refine (corebankref12_Digits.calls k a0_1 t200 _ A7.out).mono ?_); rintro e w' ⟨rfl, ⟨nd, rfl⟩⟩; (try first | exact ⟨rfl, _, World.drewN_drewN _ _ _⟩ | exact ⟨rfl, _, Eq.trans (World.drewN_drewN _ _ _) (congrArg (World.drewN _) (Nat.add_assoc _ _ _))⟩)) | (go_at_call 39; (with_reducible refine (corebankref12_Digits.calls k a0_0 t201 _ A10.out).mono ?_); rintro e w' ⟨rfl, ⟨nd, rfl⟩⟩; (try first | exact ⟨rfl, _, World.drewN_drewN _ _ _⟩ | exact ⟨rfl, _, Eq.trans (World.drewN_drewN _ _ _) (congrArg (World.drewN _) (Nat.add_assoc _ _ _))⟩)) | (go_at_call 40; (with_reducible refine (corebankref04_Format.calls k a0_2 t202 _ A13.out).mono ?_); rintro e w' ⟨rfl, ⟨nd, rfl⟩⟩; (try first | exact ⟨rfl, _, World.drewN_drewN _ _ _⟩ | exact ⟨rfl, _, Eq.trans (World.drewN_drewN _ _ _) (congrArg (World.drewN _) (Nat.add_assoc _ _ _))⟩)) | (go_at_call 40; (with_reducible refine (corebankref04_Format.calls k a0_3 t203 _ A16.out).mono ?_); rintro e w' ⟨rfl, ⟨nd, rfl⟩⟩; (try first | exact ⟨rfl, _, World.drewN_drewN _ _ _⟩ | exact ⟨rfl, _, Eq.trans (World.drewN_drewN _ _ _) (congrArg (World.drewN _) (Nat.add_assoc _ _ _))⟩)))
             repeat (go_quiet (first | ((with_reducible refine gate_dst (N := 2) rfl ?_); refine box_event ?hg (N := 2) ?hd (cs := #[.int .i64 a0_0, .int .i64 a0_1, .int .i64 a0_2, .int .i64 a0_3, .int .i64 a0_4, .int .i64 a0_5, .slice A0_6 l0_6.length c0_6]) (t := 40) ?hr ?_; (case hd => rfl); (case hg => rfl); (case hr => first | (go_simp; done) | (go_simp; rfl)); intro gb196 hg w21 hbox hb; have n0_ := Aside0.mk (below_step (by repeat (first | (with_reducible first | exact HB.out | apply below_alloc | apply pw_below_drewN | apply below_drew1) | exact HB.out)) hb); have n1_ := Aside0.mk (hbox); have n2_ := Aside0.mk ((by rw [hg]; exact (below_size (by repeat (first | (with_reducible first | exact HB.out | apply below_alloc | apply pw_below_drewN | apply below_drew1) | exact HB.out))) : w.heap.size ≤ gb196)); have n3_ := n2_; clear HB; have HB := n0_; have BK196 := n1_; have GW196 := n2_; have GE196 := n3_; clear n0_ n1_ n2_ n3_; clear hb hbox hg; obtain ⟨hcz22_0, hcz22_1, hcz22_2, hcz22_3, hcz22_4, hcz22_5, hcz22_6⟩ := cells7_ BK196.out; obtain ⟨hfz22_0, hfz22_1, hfz22_2, hfz22_3, hfz22_4, hfz22_5, hfz22_6⟩ := froz7_ BK196.out) | (go_at_call 15; (with_reducible refine (corebankref45_Check.calls k a0_0 a0_1 a0_2 a0_3 a0_4 a0_5 _ _ l0_6 t197 _ ?side1 ?side2 A3.out).mono ?_); (case side1 => repeat (first | exact (Kd.C_below HR0_6.out HB.out) | (with_reducible refine Kd.C_alloc ?_ _) | (with_reducible refine Kd.C_drewN ?_ _) | (with_reducible refine Kd.C_drew ?_))); (case side2 => exact HC0_6.out); rintro e w23 ⟨rfl, hb⟩; have n0_ := Aside0.mk (blk_below (g := gb196) (by repeat (first | exact BK196.out | apply blk_alloc)) hb); have n1_ := Aside0.mk (below_step (by repeat (first | (with_reducible first | exact HB.out | apply below_alloc | apply pw_below_drewN | apply below_drew1 | refine below_set ?_ GE196.out) | exact HB.out)) hb); clear BK196 HB; have BK196 := n0_; have HB := n1_; clear n0_ n1_; (try clear hb); (try clear hb2); (try clear hk); (try clear hi); obtain ⟨hcz24_0, hcz24_1, hcz24_2, hcz24_3, hcz24_4, hcz24_5, hcz24_6⟩ := cells7_ BK196.out; obtain ⟨hfz24_0, hfz24_1, hfz24_2, hfz24_3, hfz24_4, hfz24_5, hfz24_6⟩ := froz7_ BK196.out) | (go_at_call 38; (with_reducible refine (corebankref03_Format.calls k a0_4 a1 t198 t199 _ A5.out).mono ?_); rintro e w' ⟨rfl, ⟨nd, rfl⟩⟩; (try first | exact ⟨rfl, _, World.drewN_drewN _ _ _⟩ | exact ⟨rfl, _, Eq.trans (World.drewN_drewN _ _ _) (congrArg (World.drewN _) (Nat.add_assoc _ _ _))⟩)) | (go_at_call 39; (with_reducible refine (corebankref12_Digits.calls k a0_1 t200 _ A7.out).mono ?_); rintro e w' ⟨rfl, ⟨nd, rfl⟩⟩; (try first | exact ⟨rfl, _, World.drewN_drewN _ _ _⟩ | exact ⟨rfl, _, Eq.trans (World.drewN_drewN _ _ _) (congrArg (World.drewN _) (Nat.add_assoc _ _ _))⟩)) | (go_at_call 39; (with_reducible refine (corebankref12_Digits.calls k a0_0 t201 _ A10.out).mono ?_); rintro e w' ⟨rfl, ⟨nd, rfl⟩⟩; (try first | exact ⟨rfl, _, World.drewN_drewN _ _ _⟩ | exact ⟨rfl, _, Eq.trans (World.drewN_drewN _ _ _) (congrArg (World.drewN _) (Nat.add_assoc _ _ _))⟩)) | (go_at_call 40; (with_reducible refine (corebankref04_Format.calls k a0_2 t202 _ A13.out).mono ?_); rintro e w' ⟨rfl, ⟨nd, rfl⟩⟩; (try first | exact ⟨rfl, _, World.drewN_drewN _ _ _⟩ | exact ⟨rfl, _, Eq.trans (World.drewN_drewN _ _ _) (congrArg (World.drewN _) (Nat.add_assoc _ _ _))⟩)) | (go_at_call 40; (with_reducible refine (corebankref04_Format.calls k a0_3 t203 _ A16.out).mono ?_); rintro e w' ⟨rfl, ⟨nd, rfl⟩⟩; (try first | exact ⟨rfl, _, World.drewN_drewN _ _ _⟩ | exact ⟨rfl, _, Eq.trans (World.drewN_drewN _ _ _) (congrArg (World.drewN _) (Nat.add_assoc _ _ _))⟩))); try go_wp2_with (first | ((with_reducible refine gate_dst (N := 2) rfl ?_); refine box_event ?hg (N := 2) ?hd (cs := #[.int .i64 a0_0, .int .i64 a0_1, .int .i64 a0_2, .int .i64 a0_3, .int .i64 a0_4, .int .i64 a0_5, .slice A0_6 l0_6.length c0_6]) (t := 40) ?hr ?_; (case hd => rfl); (case hg => rfl); (case hr => first | (go_simp; done) | (go_simp; rfl)); intro gb196 hg w21 hbox hb; have n0_ := Aside0.mk (below_step (by repeat (first | (with_reducible first | exact HB.out | apply below_alloc | apply pw_below_drewN | apply below_drew1) | exact HB.out)) hb); have n1_ := Aside0.mk (hbox); have n2_ := Aside0.mk ((by rw [hg]; exact (below_size (by repeat (first | (with_reducible first | exact HB.out | apply below_alloc | apply pw_below_drewN | apply below_drew1) | exact HB.out))) : w.heap.size ≤ gb196)); have n3_ := n2_; clear HB; have HB := n0_; have BK196 := n1_; have GW196 := n2_; have GE196 := n3_; clear n0_ n1_ n2_ n3_; clear hb hbox hg; obtain ⟨hcz22_0, hcz22_1, hcz22_2, hcz22_3, hcz22_4, hcz22_5, hcz22_6⟩ := cells7_ BK196.out; obtain ⟨hfz22_0, hfz22_1, hfz22_2, hfz22_3, hfz22_4, hfz22_5, hfz22_6⟩ := froz7_ BK196.out) | (go_at_call 15; (with_reducible refine (corebankref45_Check.calls k a0_0 a0_1 a0_2 a0_3 a0_4 a0_5 _ _ l0_6 t197 _ ?side1 ?side2 A3.out).mono ?_); (case side1 => repeat (first | exact (Kd.C_below HR0_6.out HB.out) | (with_reducible refine Kd.C_alloc ?_ _) | (with_reducible refine Kd.C_drewN ?_ _) | (with_reducible refine Kd.C_drew ?_))); (case side2 => exact HC0_6.out); rintro e w23 ⟨rfl, hb⟩; have n0_ := Aside0.mk (blk_below (g := gb196) (by repeat (first | exact BK196.out | apply blk_alloc)) hb); have n1_ := Aside0.mk (below_step (by repeat (first | (with_reducible first | exact HB.out | apply below_alloc | apply pw_below_drewN | apply below_drew1 | refine below_set ?_ GE196.out) | exact HB.out)) hb); clear BK196 HB; have BK196 := n0_; have HB := n1_; clear n0_ n1_; (try clear hb); (try clear hb2); (try clear hk); (try clear hi); obtain ⟨hcz24_0, hcz24_1, hcz24_2, hcz24_3, hcz24_4, hcz24_5, hcz24_6⟩ := cells7_ BK196.out; obtain ⟨hfz24_0, hfz24_1, hfz24_2, hfz24_3, hfz24_4, hfz24_5, hfz24_6⟩ := froz7_ BK196.out) | (go_at_call 38; (with_reducible refine (corebankref03_Format.calls k a0_4 a1 t198 t199 _ A5.out).mono ?_); rintro e w' ⟨rfl, ⟨nd, rfl⟩⟩; (try first | exact ⟨rfl, _, World.drewN_drewN _ _ _⟩ | exact ⟨rfl, _, Eq.trans (World.drewN_drewN _ _ _) (congrArg (World.drewN _) (Nat.add_assoc _ _ _))⟩)) | (go_at_call 39; (with_reducible refine (corebankref12_Digits.calls k a0_1 t200 _ A7.out).mono ?_); rintro e w' ⟨rfl, ⟨nd, rfl⟩⟩; (try first | exact ⟨rfl, _, World.drewN_drewN _ _ _⟩ | exact ⟨rfl, _, Eq.trans (World.drewN_drewN _ _ _) (congrArg (World.drewN _) (Nat.add_assoc _ _ _))⟩)) | (go_at_call 39; (with_reducible refine (corebankref12_Digits.calls k a0_0 t201 _ A10.out).mono ?_); rintro e w' ⟨rfl, ⟨nd, rfl⟩⟩; (try first | exact ⟨rfl, _, World.drewN_drewN _ _ _⟩ | exact ⟨rfl, _, Eq.trans (World.drewN_drewN _ _ _) (congrArg (World.drewN _) (Nat.add_assoc _ _ _))⟩)) | (go_at_call 40; (with_reducible refine (corebankref04_Format.calls k a0_2 t202 _ A13.out).mono ?_); rintro e w' ⟨rfl, ⟨nd, rfl⟩⟩; (try first | exact ⟨rfl, _, World.drewN_drewN _ _ _⟩ | exact ⟨rfl, _, Eq.trans (World.drewN_drewN _ _ _) (congrArg (World.drewN _) (Nat.add_assoc _ _ _))⟩)) | (go_at_call 40; (with_reducible refine (corebankref04_Format.calls k a0_3 t203 _ A16.out).mono ?_); rintro e w' ⟨rfl, ⟨nd, rfl⟩⟩; (try first | exact ⟨rfl, _, World.drewN_drewN _ _ _⟩ | exact ⟨rfl, _, Eq.trans (World.drewN_drewN _ _ _) (congrArg (World.drewN _) (Nat.add_assoc _ _ _))⟩))))
             go_loopg [9, 10] k (fun kq v9 v10 w' => ∃ (x9_1 : ByteArray) (x10_1 : Int), v9 = .string x9_1 ∧ v10 = .int .i64 x10_1 ∧ Aside0 (corebankref45_Text.l0 kq a1 x9_1 x10_1 a0_0 a0_1 a0_2 a0_3 a0_4 a0_5 l0_6 = some (r1, r2)) ∧ Aside0 (kq ≤ k) ∧ Aside0 (w'.heap[gb196]? = some (.cells #[.int .i64 a0_0, .int .i64 a0_1, .int .i64 a0_2, .int .i64 a0_3, .int .i64 a0_4, .int .i64 a0_5, (.slice A0_6 l0_6.length c0_6)] 40 (0, 0))) ∧ Aside0 (Below w.heap.size w w'))
             case atStart => exact ⟨(((((((((((⟨#[115, 116, 97, 116, 101, 109, 101, 110, 116, 32]⟩ : ByteArray) ++ t200) ++ (⟨#[32, 97, 99, 99, 111, 117, 110, 116, 32]⟩ : ByteArray)) ++ t201) ++ (⟨#[10]⟩ : ByteArray)) ++ t202) ++ (⟨#[32, 116, 111, 32]⟩ : ByteArray)) ++ t203) ++ (⟨#[10, 111, 112, 101, 110, 105, 110, 103, 32]⟩ : ByteArray)) ++ t198) ++ (⟨#[10]⟩ : ByteArray)), (0), (by first | rfl | (simp; done) | (simp [*]; done)), (by first | rfl | (simp; done) | (simp [*]; done)), H', ⟨Nat.le_refl _⟩, ⟨by repeat (first | exact BK196.out | apply blk_alloc)⟩, ⟨by repeat (first | (with_reducible first | exact HB.out | apply below_alloc | apply pw_below_drewN | apply below_drew1 | refine below_set ?_ GE196.out) | exact HB.out)⟩⟩
             case round =>
              clear H'
              try clear c1
              try clear c2
              try clear p2
              try clear c4
              try clear c4b0
              try clear c4b1
              try clear c6
              try clear c6b0
              try clear c6b1
              try clear c8
              try clear c8b0
              try clear c8b1
              try clear c8b2
              try clear c9
              try clear c9b0
              try clear c9b1
              try clear c9b2
              try clear c11
              try clear c11b0
              try clear c11b1
              try clear c11b2
              try clear c12
              try clear c12b0
              try clear c12b1
              try clear c12b2
              try clear c14
              try clear c14b0
              try clear c14b1
              try clear c14b2
              try clear c15
              try clear c15b0
              try clear c15b1
              try clear c15b2
              try clear c17
              try clear c17b0
              try clear c17b1
              try clear c17b2
              try clear c18
              try clear c18b0
              try clear c18b1
              try clear c18b2
              try clear c19
              try clear c19b0
              try clear c19b1
              try clear c19b2
              try clear c20
              try clear c20b0
              try clear c20b1
              try clear c20b2
              try clear hcz22_0
              try clear hcz22_1
              try clear hcz22_2
              try clear hcz22_3
              try clear hcz22_4
              try clear hcz22_5
              try clear hcz22_6
              try clear hcz24_0
              try clear hcz24_1
              try clear hcz24_2
              try clear hcz24_3
              try clear hcz24_4
              try clear hcz24_5
              try clear hcz24_6
              try clear hfz22_0
              try clear hfz22_1
              try clear hfz22_2
              try clear hfz22_3
              try clear hfz22_4
              try clear hfz22_5
              try clear hfz22_6
              try clear hfz24_0
              try clear hfz24_1
              try clear hfz24_2
              try clear hfz24_3
              try clear hfz24_4
              try clear hfz24_5
              try clear hfz24_6
              obtain ⟨x9_1, x10_1, rfl, rfl, HA, HK1, BK196, HB⟩ := hrel
              cases gk with
              | zero => exact absurd HA.out (by simp [corebankref45_Text.l0])
              | succ k1 =>
               have H := HA.out
               clear HA
               simp only [corebankref45_Text.l0] at H
               by_cases c25 : x10_1 < (l0_6.length : Int)
               ·rw [if_pos c25] at H
                have c25b0 : decide (x10_1 < (l0_6.length : Int)) = true := decide_eq_true c25
                clear c25
                by_cases c26 : 0 ≤ x10_1
                ·rw [if_pos c26] at H
                 have c26b0 : decide (0 ≤ x10_1) = true := decide_eq_true c26
                 clear c26
                 replace H := Option.bind_eq_some_iff.mp H
                 obtain ⟨⟨t207, t208⟩, A270, H⟩ := H
                 replace H : (if t208 = 0 then ((corebankref04_Format.f k1 ((rd_T66 l0_6 x10_1).f1)).bind fun t210 => (if x9_1.size + t210.size ≤ 9223372036854775807 then (if (x9_1 ++ t210).size + 1 ≤ 9223372036854775807 then (if ((x9_1 ++ t210) ++ (⟨#[32]⟩ : ByteArray)).size + t207.size ≤ 9223372036854775807 then (if (((x9_1 ++ t210) ++ (⟨#[32]⟩ : ByteArray)) ++ t207).size + 1 ≤ 9223372036854775807 then (if ((((x9_1 ++ t210) ++ (⟨#[32]⟩ : ByteArray)) ++ t207) ++ (⟨#[32]⟩ : ByteArray)).size + ((rd_T66 l0_6 x10_1).f3).size ≤ 9223372036854775807 then (if (((((x9_1 ++ t210) ++ (⟨#[32]⟩ : ByteArray)) ++ t207) ++ (⟨#[32]⟩ : ByteArray)) ++ ((rd_T66 l0_6 x10_1).f3)).size + 1 ≤ 9223372036854775807 then (corebankref45_Text.l0 k1 a1 ((((((x9_1 ++ t210) ++ (⟨#[32]⟩ : ByteArray)) ++ t207) ++ (⟨#[32]⟩ : ByteArray)) ++ ((rd_T66 l0_6 x10_1).f3)) ++ (⟨#[10]⟩ : ByteArray)) (wrap64 (x10_1 + 1)) a0_0 a0_1 a0_2 a0_3 a0_4 a0_5 l0_6) else (none)) else (none)) else (none)) else (none)) else (none)) else (none))) else (some ((⟨#[]⟩ : ByteArray), t208))) = some (r1, r2) := H
                 have A27 := Aside0.mk A270
                 clear A270
                 by_cases c28 : t208 = 0
                 ·rw [if_pos c28] at H
                  have c28b0 : (t208 == 0) = true := beq_iff_eq.mpr c28
                  have c28b1 : (t208 != 0) = false := bne_eq_false_iff_eq.mpr c28
                  clear c28
                  replace H := Option.bind_eq_some_iff.mp H
                  obtain ⟨t210, A290, H⟩ := H
                  replace H : (if x9_1.size + t210.size ≤ 9223372036854775807 then (if (x9_1 ++ t210).size + 1 ≤ 9223372036854775807 then (if ((x9_1 ++ t210) ++ (⟨#[32]⟩ : ByteArray)).size + t207.size ≤ 9223372036854775807 then (if (((x9_1 ++ t210) ++ (⟨#[32]⟩ : ByteArray)) ++ t207).size + 1 ≤ 9223372036854775807 then (if ((((x9_1 ++ t210) ++ (⟨#[32]⟩ : ByteArray)) ++ t207) ++ (⟨#[32]⟩ : ByteArray)).size + ((rd_T66 l0_6 x10_1).f3).size ≤ 9223372036854775807 then (if (((((x9_1 ++ t210) ++ (⟨#[32]⟩ : ByteArray)) ++ t207) ++ (⟨#[32]⟩ : ByteArray)) ++ ((rd_T66 l0_6 x10_1).f3)).size + 1 ≤ 9223372036854775807 then (corebankref45_Text.l0 k1 a1 ((((((x9_1 ++ t210) ++ (⟨#[32]⟩ : ByteArray)) ++ t207) ++ (⟨#[32]⟩ : ByteArray)) ++ ((rd_T66 l0_6 x10_1).f3)) ++ (⟨#[10]⟩ : ByteArray)) (wrap64 (x10_1 + 1)) a0_0 a0_1 a0_2 a0_3 a0_4 a0_5 l0_6) else (none)) else (none)) else (none)) else (none)) else (none)) else (none)) = some (r1, r2) := H
                  have A29 := Aside0.mk A290
                  clear A290
                  by_cases c30 : x9_1.size + t210.size ≤ 9223372036854775807
                  ·rw [if_pos c30] at H
                   have c30b0 := eq_true c30
                   have c30b1 : decide (x9_1.size + t210.size ≤ 9223372036854775807) = true := decide_eq_true c30
                   try have c30b2 : (9223372036854775807 < x9_1.size + t210.size) = False := eq_false (Nat.not_lt.2 c30)
                   by_cases c31 : (x9_1 ++ t210).size + 1 ≤ 9223372036854775807
                   ·rw [if_pos c31] at H
                    have c31b0 := eq_true c31
                    have c31b1 : decide ((x9_1 ++ t210).size + 1 ≤ 9223372036854775807) = true := decide_eq_true c31
                    try have c31b2 : (9223372036854775807 < (x9_1 ++ t210).size + 1) = False := eq_false (Nat.not_lt.2 c31)
                    try have c31b3 : (9223372036854775807 < x9_1.size + t210.size + 1) = False := eq_false (Nat.not_lt.2 (by have z_ := c31; simp only [ByteArray.size_append] at z_; exact z_))
                    by_cases c32 : ((x9_1 ++ t210) ++ (⟨#[32]⟩ : ByteArray)).size + t207.size ≤ 9223372036854775807
                    ·rw [if_pos c32] at H
                     have c32b0 := eq_true c32
                     have c32b1 : decide (((x9_1 ++ t210) ++ (⟨#[32]⟩ : ByteArray)).size + t207.size ≤ 9223372036854775807) = true := decide_eq_true c32
                     try have c32b2 : (9223372036854775807 < ((x9_1 ++ t210) ++ (⟨#[32]⟩ : ByteArray)).size + t207.size) = False := eq_false (Nat.not_lt.2 c32)
                     try have c32b3 : (9223372036854775807 < x9_1.size + t210.size + 1 + t207.size) = False := eq_false (Nat.not_lt.2 (by have z_ := c32; simp only [ByteArray.size_append] at z_; exact z_))
                     by_cases c33 : (((x9_1 ++ t210) ++ (⟨#[32]⟩ : ByteArray)) ++ t207).size + 1 ≤ 9223372036854775807
                     ·rw [if_pos c33] at H
                      have c33b0 := eq_true c33
                      have c33b1 : decide ((((x9_1 ++ t210) ++ (⟨#[32]⟩ : ByteArray)) ++ t207).size + 1 ≤ 9223372036854775807) = true := decide_eq_true c33
                      try have c33b2 : (9223372036854775807 < (((x9_1 ++ t210) ++ (⟨#[32]⟩ : ByteArray)) ++ t207).size + 1) = False := eq_false (Nat.not_lt.2 c33)
                      try have c33b3 : (9223372036854775807 < x9_1.size + t210.size + 1 + t207.size + 1) = False := eq_false (Nat.not_lt.2 (by have z_ := c33; simp only [ByteArray.size_append] at z_; exact z_))
                      by_cases c34 : ((((x9_1 ++ t210) ++ (⟨#[32]⟩ : ByteArray)) ++ t207) ++ (⟨#[32]⟩ : ByteArray)).size + ((rd_T66 l0_6 x10_1).f3).size ≤ 9223372036854775807
                      ·rw [if_pos c34] at H
                       have c34b0 := eq_true c34
                       have c34b1 : decide (((((x9_1 ++ t210) ++ (⟨#[32]⟩ : ByteArray)) ++ t207) ++ (⟨#[32]⟩ : ByteArray)).size + ((rd_T66 l0_6 x10_1).f3).size ≤ 9223372036854775807) = true := decide_eq_true c34
                       try have c34b2 : (9223372036854775807 < ((((x9_1 ++ t210) ++ (⟨#[32]⟩ : ByteArray)) ++ t207) ++ (⟨#[32]⟩ : ByteArray)).size + ((rd_T66 l0_6 x10_1).f3).size) = False := eq_false (Nat.not_lt.2 c34)
                       try have c34b3 : (9223372036854775807 < x9_1.size + t210.size + 1 + t207.size + 1 + ((rd_T66 l0_6 x10_1).f3).size) = False := eq_false (Nat.not_lt.2 (by have z_ := c34; simp only [ByteArray.size_append] at z_; exact z_))
                       by_cases c35 : (((((x9_1 ++ t210) ++ (⟨#[32]⟩ : ByteArray)) ++ t207) ++ (⟨#[32]⟩ : ByteArray)) ++ ((rd_T66 l0_6 x10_1).f3)).size + 1 ≤ 9223372036854775807
                       ·rw [if_pos c35] at H
                        have c35b0 := eq_true c35
                        have c35b1 : decide ((((((x9_1 ++ t210) ++ (⟨#[32]⟩ : ByteArray)) ++ t207) ++ (⟨#[32]⟩ : ByteArray)) ++ ((rd_T66 l0_6 x10_1).f3)).size + 1 ≤ 9223372036854775807) = true := decide_eq_true c35
                        try have c35b2 : (9223372036854775807 < (((((x9_1 ++ t210) ++ (⟨#[32]⟩ : ByteArray)) ++ t207) ++ (⟨#[32]⟩ : ByteArray)) ++ ((rd_T66 l0_6 x10_1).f3)).size + 1) = False := eq_false (Nat.not_lt.2 c35)
                        try have c35b3 : (9223372036854775807 < x9_1.size + t210.size + 1 + t207.size + 1 + ((rd_T66 l0_6 x10_1).f3).size + 1) = False := eq_false (Nat.not_lt.2 (by have z_ := c35; simp only [ByteArray.size_append] at z_; exact z_))
                        have H' := Aside0.mk H
                        clear H
                        obtain ⟨hcz36_0, hcz36_1, hcz36_2, hcz36_3, hcz36_4, hcz36_5, hcz36_6⟩ := cells7_ BK196.out
                        obtain ⟨hfz36_0, hfz36_1, hfz36_2, hfz36_3, hfz36_4, hfz36_5, hfz36_6⟩ := froz7_ BK196.out
                        have p206 : 0 ≤ (x10_1 : Int) := of_decide_eq_true (by first | (with_reducible assumption) | assumption)
                        have q206 : x10_1 < (l0_6.length : Int) := of_decide_eq_true (by first | (with_reducible assumption) | assumption)
                        obtain ⟨ad206, e206, hx206_0, hx206_1, hx206_2, hx206_3⟩ := at_T66 HR0_6.out x10_1 p206 q206
                        cases e206
                        replace hx206_0 := (HB.out.cell (World.block_lt_of_cell? w _ hx206_0)).trans hx206_0
                        replace hx206_1 := (HB.out.cell (World.block_lt_of_cell? w _ hx206_1)).trans hx206_1
                        replace hx206_2 := (HB.out.cell (World.block_lt_of_cell? w _ hx206_2)).trans hx206_2
                        replace hx206_3 := (HB.out.cell (World.block_lt_of_cell? w _ hx206_3)).trans hx206_3
                        replace p206 := eq_true p206
                        replace q206 := eq_true q206
                        go_wp2_with (first | (go_at_call 38; (with_reducible refine (corebankref03_Format.calls k1 ((rd_T66 l0_6 x10_1).f2) a1 t207 t208 _ A27.out).mono ?_); rintro e w' ⟨rfl, ⟨nd, rfl⟩⟩; (try first | exact ⟨rfl, _, World.drewN_drewN _ _ _⟩ | exact ⟨rfl, _, Eq.trans (World.drewN_drewN _ _ _) (congrArg (World.drewN _) (Nat.add_assoc _ _ _))⟩); have p209 : 0 ≤ (x10_1 : Int) := of_decide_eq_true (by first | (with_reducible assumption) | assumption); have q209 : x10_1 < (l0_6.length : Int) := of_decide_eq_true (by first | (with_reducible assumption) | assumption); obtain ⟨ad209, e209, hx209_0, hx209_1, hx209_2, hx209_3⟩ := at_T66 HR0_6.out x10_1 p209 q209; obtain rfl : ad206 = ad209 := (by injection e209); replace hx209_0 := (HB.out.cell (World.block_lt_of_cell? w _ hx209_0)).trans hx209_0; replace hx209_1 := (HB.out.cell (World.block_lt_of_cell? w _ hx209_1)).trans hx209_1; replace hx209_2 := (HB.out.cell (World.block_lt_of_cell? w _ hx209_2)).trans hx209_2; replace hx209_3 := (HB.out.cell (World.block_lt_of_cell? w _ hx209_3)).trans hx209_3; replace p209 := eq_true p209; replace q209 := eq_true q209) | (go_at_call 40; (with_reducible refine (corebankref04_Format.calls k1 ((rd_T66 l0_6 x10_1).f1) t210 _ A29.out).mono ?_); rintro e w' ⟨rfl, ⟨nd, rfl⟩⟩; (try first | exact ⟨rfl, _, World.drewN_drewN _ _ _⟩ | exact ⟨rfl, _, Eq.trans (World.drewN_drewN _ _ _) (congrArg (World.drewN _) (Nat.add_assoc _ _ _))⟩); have p211 : 0 ≤ (x10_1 : Int) := of_decide_eq_true (by first | (with_reducible assumption) | assumption); have q211 : x10_1 < (l0_6.length : Int) := of_decide_eq_true (by first | (with_reducible assumption) | assumption); obtain ⟨ad211, e211, hx211_0, hx211_1, hx211_2, hx211_3⟩ := at_T66 HR0_6.out x10_1 p211 q211; obtain rfl : ad206 = ad211 := (by injection e211); replace hx211_0 := (HB.out.cell (World.block_lt_of_cell? w _ hx211_0)).trans hx211_0; replace hx211_1 := (HB.out.cell (World.block_lt_of_cell? w _ hx211_1)).trans hx211_1; replace hx211_2 := (HB.out.cell (World.block_lt_of_cell? w _ hx211_2)).trans hx211_2; replace hx211_3 := (HB.out.cell (World.block_lt_of_cell? w _ hx211_3)).trans hx211_3; replace p211 := eq_true p211; replace q211 := eq_true q211))
                        repeat (go_quiet (first | (go_at_call 38; (with_reducible refine (corebankref03_Format.calls k1 ((rd_T66 l0_6 x10_1).f2) a1 t207 t208 _ A27.out).mono ?_); rintro e w' ⟨rfl, ⟨nd, rfl⟩⟩; (try first | exact ⟨rfl, _, World.drewN_drewN _ _ _⟩ | exact ⟨rfl, _, Eq.trans (World.drewN_drewN _ _ _) (congrArg (World.drewN _) (Nat.add_assoc _ _ _))⟩); have p209 : 0 ≤ (x10_1 : Int) := of_decide_eq_true (by first | (with_reducible assumption) | assumption); have q209 : x10_1 < (l0_6.length : Int) := of_decide_eq_true (by first | (with_reducible assumption) | assumption); obtain ⟨ad209, e209, hx209_0, hx209_1, hx209_2, hx209_3⟩ := at_T66 HR0_6.out x10_1 p209 q209; obtain rfl : ad206 = ad209 := (by injection e209); replace hx209_0 := (HB.out.cell (World.block_lt_of_cell? w _ hx209_0)).trans hx209_0; replace hx209_1 := (HB.out.cell (World.block_lt_of_cell? w _ hx209_1)).trans hx209_1; replace hx209_2 := (HB.out.cell (World.block_lt_of_cell? w _ hx209_2)).trans hx209_2; replace hx209_3 := (HB.out.cell (World.block_lt_of_cell? w _ hx209_3)).trans hx209_3; replace p209 := eq_true p209; replace q209 := eq_true q209) | (go_at_call 40; (with_reducible refine (corebankref04_Format.calls k1 ((rd_T66 l0_6 x10_1).f1) t210 _ A29.out).mono ?_); rintro e w' ⟨rfl, ⟨nd, rfl⟩⟩; (try first | exact ⟨rfl, _, World.drewN_drewN _ _ _⟩ | exact ⟨rfl, _, Eq.trans (World.drewN_drewN _ _ _) (congrArg (World.drewN _) (Nat.add_assoc _ _ _))⟩); have p211 : 0 ≤ (x10_1 : Int) := of_decide_eq_true (by first | (with_reducible assumption) | assumption); have q211 : x10_1 < (l0_6.length : Int) := of_decide_eq_true (by first | (with_reducible assumption) | assumption); obtain ⟨ad211, e211, hx211_0, hx211_1, hx211_2, hx211_3⟩ := at_T66 HR0_6.out x10_1 p211 q211; obtain rfl : ad206 = ad211 := (by injection e211); replace hx211_0 := (HB.out.cell (World.block_lt_of_cell? w _ hx211_0)).trans hx211_0; replace hx211_1 := (HB.out.cell (World.block_lt_of_cell? w _ hx211_1)).trans hx211_1; replace hx211_2 := (HB.out.cell (World.block_lt_of_cell? w _ hx211_2)).trans hx211_2; replace hx211_3 := (HB.out.cell (World.block_lt_of_cell? w _ hx211_3)).trans hx211_3; replace p211 := eq_true p211; replace q211 := eq_true q211)); try go_wp2_with (first | (go_at_call 38; (with_reducible refine (corebankref03_Format.calls k1 ((rd_T66 l0_6 x10_1).f2) a1 t207 t208 _ A27.out).mono ?_); rintro e w' ⟨rfl, ⟨nd, rfl⟩⟩; (try first | exact ⟨rfl, _, World.drewN_drewN _ _ _⟩ | exact ⟨rfl, _, Eq.trans (World.drewN_drewN _ _ _) (congrArg (World.drewN _) (Nat.add_assoc _ _ _))⟩); have p209 : 0 ≤ (x10_1 : Int) := of_decide_eq_true (by first | (with_reducible assumption) | assumption); have q209 : x10_1 < (l0_6.length : Int) := of_decide_eq_true (by first | (with_reducible assumption) | assumption); obtain ⟨ad209, e209, hx209_0, hx209_1, hx209_2, hx209_3⟩ := at_T66 HR0_6.out x10_1 p209 q209; obtain rfl : ad206 = ad209 := (by injection e209); replace hx209_0 := (HB.out.cell (World.block_lt_of_cell? w _ hx209_0)).trans hx209_0; replace hx209_1 := (HB.out.cell (World.block_lt_of_cell? w _ hx209_1)).trans hx209_1; replace hx209_2 := (HB.out.cell (World.block_lt_of_cell? w _ hx209_2)).trans hx209_2; replace hx209_3 := (HB.out.cell (World.block_lt_of_cell? w _ hx209_3)).trans hx209_3; replace p209 := eq_true p209; replace q209 := eq_true q209) | (go_at_call 40; (with_reducible refine (corebankref04_Format.calls k1 ((rd_T66 l0_6 x10_1).f1) t210 _ A29.out).mono ?_); rintro e w' ⟨rfl, ⟨nd, rfl⟩⟩; (try first | exact ⟨rfl, _, World.drewN_drewN _ _ _⟩ | exact ⟨rfl, _, Eq.trans (World.drewN_drewN _ _ _) (congrArg (World.drewN _) (Nat.add_assoc _ _ _))⟩); have p211 : 0 ≤ (x10_1 : Int) := of_decide_eq_true (by first | (with_reducible assumption) | assumption); have q211 : x10_1 < (l0_6.length : Int) := of_decide_eq_true (by first | (with_reducible assumption) | assumption); obtain ⟨ad211, e211, hx211_0, hx211_1, hx211_2, hx211_3⟩ := at_T66 HR0_6.out x10_1 p211 q211; obtain rfl : ad206 = ad211 := (by injection e211); replace hx211_0 := (HB.out.cell (World.block_lt_of_cell? w _ hx211_0)).trans hx211_0; replace hx211_1 := (HB.out.cell (World.block_lt_of_cell? w _ hx211_1)).trans hx211_1; replace hx211_2 := (HB.out.cell (World.block_lt_of_cell? w _ hx211_2)).trans hx211_2; replace hx211_3 := (HB.out.cell (World.block_lt_of_cell? w _ hx211_3)).trans hx211_3; replace p211 := eq_true p211; replace q211 := eq_true q211)))
                        go_roundg k1
                        case measure => have := HK1.out; omega
                        case rel => exact ⟨((((((x9_1 ++ t210) ++ (⟨#[32]⟩ : ByteArray)) ++ t207) ++ (⟨#[32]⟩ : ByteArray)) ++ ((rd_T66 l0_6 x10_1).f3)) ++ (⟨#[10]⟩ : ByteArray)), (wrap64 (x10_1 + 1)), (by first | rfl | (simp; done) | (simp [*]; done)), (by first | rfl | (simp; done) | (simp [*]; done)), H', ⟨by have := HK1.out; omega⟩, ⟨by repeat (first | exact BK196.out | apply blk_alloc)⟩, ⟨by repeat (first | (with_reducible first | exact HB.out | apply below_alloc | apply pw_below_drewN | apply below_drew1 | refine below_set ?_ GE196.out) | exact HB.out)⟩⟩
                       ·rw [if_neg c35] at H
                        exact absurd H (by simp)
                      ·rw [if_neg c34] at H
                       exact absurd H (by simp)
                     ·rw [if_neg c33] at H
                      exact absurd H (by simp)
                    ·rw [if_neg c32] at H
                     exact absurd H (by simp)
                   ·rw [if_neg c31] at H
                    exact absurd H (by simp)
                  ·rw [if_neg c30] at H
                   exact absurd H (by simp)
                 ·rw [if_neg c28] at H
                  have c28b0 : (t208 == 0) = false := beq_eq_false_iff_ne.mpr c28
                  have c28b1 : (t208 != 0) = true := bne_iff_ne.mpr c28
                  simp only [Option.some.injEq, Prod.mk.injEq] at H
                  obtain ⟨rfl, rfl⟩ := H
                  obtain ⟨hcz37_0, hcz37_1, hcz37_2, hcz37_3, hcz37_4, hcz37_5, hcz37_6⟩ := cells7_ BK196.out
                  obtain ⟨hfz37_0, hfz37_1, hfz37_2, hfz37_3, hfz37_4, hfz37_5, hfz37_6⟩ := froz7_ BK196.out
                  have p206 : 0 ≤ (x10_1 : Int) := of_decide_eq_true (by first | (with_reducible assumption) | assumption)
                  have q206 : x10_1 < (l0_6.length : Int) := of_decide_eq_true (by first | (with_reducible assumption) | assumption)
                  obtain ⟨ad206, e206, hx206_0, hx206_1, hx206_2, hx206_3⟩ := at_T66 HR0_6.out x10_1 p206 q206
                  cases e206
                  replace hx206_0 := (HB.out.cell (World.block_lt_of_cell? w _ hx206_0)).trans hx206_0
                  replace hx206_1 := (HB.out.cell (World.block_lt_of_cell? w _ hx206_1)).trans hx206_1
                  replace hx206_2 := (HB.out.cell (World.block_lt_of_cell? w _ hx206_2)).trans hx206_2
                  replace hx206_3 := (HB.out.cell (World.block_lt_of_cell? w _ hx206_3)).trans hx206_3
                  replace p206 := eq_true p206
                  replace q206 := eq_true q206
                  go_wp2_with (first | (go_at_call 38; (with_reducible refine (corebankref03_Format.calls k1 ((rd_T66 l0_6 x10_1).f2) a1 t207 t208 _ A27.out).mono ?_); rintro e w' ⟨rfl, ⟨nd, rfl⟩⟩; (try first | exact ⟨rfl, _, World.drewN_drewN _ _ _⟩ | exact ⟨rfl, _, Eq.trans (World.drewN_drewN _ _ _) (congrArg (World.drewN _) (Nat.add_assoc _ _ _))⟩)))
                  repeat (go_quiet (first | (go_at_call 38; (with_reducible refine (corebankref03_Format.calls k1 ((rd_T66 l0_6 x10_1).f2) a1 t207 t208 _ A27.out).mono ?_); rintro e w' ⟨rfl, ⟨nd, rfl⟩⟩; (try first | exact ⟨rfl, _, World.drewN_drewN _ _ _⟩ | exact ⟨rfl, _, Eq.trans (World.drewN_drewN _ _ _) (congrArg (World.drewN _) (Nat.add_assoc _ _ _))⟩))); try go_wp2_with (first | (go_at_call 38; (with_reducible refine (corebankref03_Format.calls k1 ((rd_T66 l0_6 x10_1).f2) a1 t207 t208 _ A27.out).mono ?_); rintro e w' ⟨rfl, ⟨nd, rfl⟩⟩; (try first | exact ⟨rfl, _, World.drewN_drewN _ _ _⟩ | exact ⟨rfl, _, Eq.trans (World.drewN_drewN _ _ _) (congrArg (World.drewN _) (Nat.add_assoc _ _ _))⟩))))
                  go_ret2
                  exact ⟨by first | rfl | (simp [errW_none, errW_some] <;> rfl) | (simp [*, errW_none, errW_some] <;> rfl), by repeat (first | (with_reducible first | exact HB.out | apply below_alloc | apply pw_below_drewN | apply below_drew1 | refine below_set ?_ GE196.out) | exact HB.out)⟩
                ·rw [if_neg c26] at H
                 exact absurd H (by simp)
               ·rw [if_neg c25] at H
                have c25b0 : decide (x10_1 < (l0_6.length : Int)) = false := decide_eq_false c25
                clear c25
                replace H := Option.bind_eq_some_iff.mp H
                obtain ⟨⟨t204, t205⟩, A380, H⟩ := H
                replace H : (if t205 = 0 then (if x9_1.size + 8 ≤ 9223372036854775807 then (if (x9_1 ++ (⟨#[99, 108, 111, 115, 105, 110, 103, 32]⟩ : ByteArray)).size + t204.size ≤ 9223372036854775807 then (if ((x9_1 ++ (⟨#[99, 108, 111, 115, 105, 110, 103, 32]⟩ : ByteArray)) ++ t204).size + 1 ≤ 9223372036854775807 then (some (((x9_1 ++ (⟨#[99, 108, 111, 115, 105, 110, 103, 32]⟩ : ByteArray)) ++ t204) ++ (⟨#[10]⟩ : ByteArray), 0)) else (none)) else (none)) else (none)) else (some ((⟨#[]⟩ : ByteArray), t205))) = some (r1, r2) := H
                have A38 := Aside0.mk A380
                clear A380
                by_cases c39 : t205 = 0
                ·rw [if_pos c39] at H
                 have c39b0 : (t205 == 0) = true := beq_iff_eq.mpr c39
                 have c39b1 : (t205 != 0) = false := bne_eq_false_iff_eq.mpr c39
                 clear c39
                 by_cases c40 : x9_1.size + 8 ≤ 9223372036854775807
                 ·rw [if_pos c40] at H
                  have c40b0 := eq_true c40
                  have c40b1 : decide (x9_1.size + 8 ≤ 9223372036854775807) = true := decide_eq_true c40
                  try have c40b2 : (9223372036854775807 < x9_1.size + 8) = False := eq_false (Nat.not_lt.2 c40)
                  by_cases c41 : (x9_1 ++ (⟨#[99, 108, 111, 115, 105, 110, 103, 32]⟩ : ByteArray)).size + t204.size ≤ 9223372036854775807
                  ·rw [if_pos c41] at H
                   have c41b0 := eq_true c41
                   have c41b1 : decide ((x9_1 ++ (⟨#[99, 108, 111, 115, 105, 110, 103, 32]⟩ : ByteArray)).size + t204.size ≤ 9223372036854775807) = true := decide_eq_true c41
                   try have c41b2 : (9223372036854775807 < (x9_1 ++ (⟨#[99, 108, 111, 115, 105, 110, 103, 32]⟩ : ByteArray)).size + t204.size) = False := eq_false (Nat.not_lt.2 c41)
                   try have c41b3 : (9223372036854775807 < x9_1.size + 8 + t204.size) = False := eq_false (Nat.not_lt.2 (by have z_ := c41; simp only [ByteArray.size_append] at z_; exact z_))
                   by_cases c42 : ((x9_1 ++ (⟨#[99, 108, 111, 115, 105, 110, 103, 32]⟩ : ByteArray)) ++ t204).size + 1 ≤ 9223372036854775807
                   ·rw [if_pos c42] at H
                    have c42b0 := eq_true c42
                    have c42b1 : decide (((x9_1 ++ (⟨#[99, 108, 111, 115, 105, 110, 103, 32]⟩ : ByteArray)) ++ t204).size + 1 ≤ 9223372036854775807) = true := decide_eq_true c42
                    try have c42b2 : (9223372036854775807 < ((x9_1 ++ (⟨#[99, 108, 111, 115, 105, 110, 103, 32]⟩ : ByteArray)) ++ t204).size + 1) = False := eq_false (Nat.not_lt.2 c42)
                    try have c42b3 : (9223372036854775807 < x9_1.size + 8 + t204.size + 1) = False := eq_false (Nat.not_lt.2 (by have z_ := c42; simp only [ByteArray.size_append] at z_; exact z_))
                    simp only [Option.some.injEq, Prod.mk.injEq] at H
                    obtain ⟨rfl, rfl⟩ := H
                    obtain ⟨hcz43_0, hcz43_1, hcz43_2, hcz43_3, hcz43_4, hcz43_5, hcz43_6⟩ := cells7_ BK196.out
                    obtain ⟨hfz43_0, hfz43_1, hfz43_2, hfz43_3, hfz43_4, hfz43_5, hfz43_6⟩ := froz7_ BK196.out
                    go_wp2_with (first | (go_at_call 38; (with_reducible refine (corebankref03_Format.calls k1 a0_5 a1 t204 t205 _ A38.out).mono ?_); rintro e w' ⟨rfl, ⟨nd, rfl⟩⟩; (try first | exact ⟨rfl, _, World.drewN_drewN _ _ _⟩ | exact ⟨rfl, _, Eq.trans (World.drewN_drewN _ _ _) (congrArg (World.drewN _) (Nat.add_assoc _ _ _))⟩)))
                    repeat (go_quiet (first | (go_at_call 38; (with_reducible refine (corebankref03_Format.calls k1 a0_5 a1 t204 t205 _ A38.out).mono ?_); rintro e w' ⟨rfl, ⟨nd, rfl⟩⟩; (try first | exact ⟨rfl, _, World.drewN_drewN _ _ _⟩ | exact ⟨rfl, _, Eq.trans (World.drewN_drewN _ _ _) (congrArg (World.drewN _) (Nat.add_assoc _ _ _))⟩))); try go_wp2_with (first | (go_at_call 38; (with_reducible refine (corebankref03_Format.calls k1 a0_5 a1 t204 t205 _ A38.out).mono ?_); rintro e w' ⟨rfl, ⟨nd, rfl⟩⟩; (try first | exact ⟨rfl, _, World.drewN_drewN _ _ _⟩ | exact ⟨rfl, _, Eq.trans (World.drewN_drewN _ _ _) (congrArg (World.drewN _) (Nat.add_assoc _ _ _))⟩))))
                    go_ret2
                    exact ⟨by first | rfl | (simp [errW_none, errW_some] <;> rfl) | (simp [*, errW_none, errW_some] <;> rfl), by repeat (first | (with_reducible first | exact HB.out | apply below_alloc | apply pw_below_drewN | apply below_drew1 | refine below_set ?_ GE196.out) | exact HB.out)⟩
                   ·rw [if_neg c42] at H
                    exact absurd H (by simp)
                  ·rw [if_neg c41] at H
                   exact absurd H (by simp)
                 ·rw [if_neg c40] at H
                  exact absurd H (by simp)
                ·rw [if_neg c39] at H
                 have c39b0 : (t205 == 0) = false := beq_eq_false_iff_ne.mpr c39
                 have c39b1 : (t205 != 0) = true := bne_iff_ne.mpr c39
                 simp only [Option.some.injEq, Prod.mk.injEq] at H
                 obtain ⟨rfl, rfl⟩ := H
                 obtain ⟨hcz44_0, hcz44_1, hcz44_2, hcz44_3, hcz44_4, hcz44_5, hcz44_6⟩ := cells7_ BK196.out
                 obtain ⟨hfz44_0, hfz44_1, hfz44_2, hfz44_3, hfz44_4, hfz44_5, hfz44_6⟩ := froz7_ BK196.out
                 go_wp2_with (first | (go_at_call 38; (with_reducible refine (corebankref03_Format.calls k1 a0_5 a1 t204 t205 _ A38.out).mono ?_); rintro e w' ⟨rfl, ⟨nd, rfl⟩⟩; (try first | exact ⟨rfl, _, World.drewN_drewN _ _ _⟩ | exact ⟨rfl, _, Eq.trans (World.drewN_drewN _ _ _) (congrArg (World.drewN _) (Nat.add_assoc _ _ _))⟩)))
                 repeat (go_quiet (first | (go_at_call 38; (with_reducible refine (corebankref03_Format.calls k1 a0_5 a1 t204 t205 _ A38.out).mono ?_); rintro e w' ⟨rfl, ⟨nd, rfl⟩⟩; (try first | exact ⟨rfl, _, World.drewN_drewN _ _ _⟩ | exact ⟨rfl, _, Eq.trans (World.drewN_drewN _ _ _) (congrArg (World.drewN _) (Nat.add_assoc _ _ _))⟩))); try go_wp2_with (first | (go_at_call 38; (with_reducible refine (corebankref03_Format.calls k1 a0_5 a1 t204 t205 _ A38.out).mono ?_); rintro e w' ⟨rfl, ⟨nd, rfl⟩⟩; (try first | exact ⟨rfl, _, World.drewN_drewN _ _ _⟩ | exact ⟨rfl, _, Eq.trans (World.drewN_drewN _ _ _) (congrArg (World.drewN _) (Nat.add_assoc _ _ _))⟩))))
                 go_ret2
                 exact ⟨by first | rfl | (simp [errW_none, errW_some] <;> rfl) | (simp [*, errW_none, errW_some] <;> rfl), by repeat (first | (with_reducible first | exact HB.out | apply below_alloc | apply pw_below_drewN | apply below_drew1 | refine below_set ?_ GE196.out) | exact HB.out)⟩
            ·rw [if_neg c20] at H
             exact absurd H (by simp)
           ·rw [if_neg c19] at H
            exact absurd H (by simp)
          ·rw [if_neg c18] at H
           exact absurd H (by simp)
         ·rw [if_neg c17] at H
          exact absurd H (by simp)
        ·rw [if_neg c15] at H
         exact absurd H (by simp)
       ·rw [if_neg c14] at H
        exact absurd H (by simp)
      ·rw [if_neg c12] at H
       exact absurd H (by simp)
     ·rw [if_neg c11] at H
      exact absurd H (by simp)
    ·rw [if_neg c9] at H
     exact absurd H (by simp)
   ·rw [if_neg c8] at H
    exact absurd H (by simp)
  ·rw [if_neg c6] at H
   have c6b0 : (t199 == 0) = false := beq_eq_false_iff_ne.mpr c6
   have c6b1 : (t199 != 0) = true := bne_iff_ne.mpr c6
   simp only [Option.some.injEq, Prod.mk.injEq] at H
   obtain ⟨rfl, rfl⟩ := H
   go_enter Tryd.func19, Tryd.ntmps19
   go_wp2_with (first | ((with_reducible refine gate_dst (N := 2) rfl ?_); refine box_event ?hg (N := 2) ?hd (cs := #[.int .i64 a0_0, .int .i64 a0_1, .int .i64 a0_2, .int .i64 a0_3, .int .i64 a0_4, .int .i64 a0_5, .slice A0_6 l0_6.length c0_6]) (t := 40) ?hr ?_; (case hd => rfl); (case hg => rfl); (case hr => first | (go_simp; done) | (go_simp; rfl)); intro gb196 hg w45 hbox hb; have n0_ := Aside0.mk (below_step (by repeat (first | (with_reducible first | exact HB.out | apply below_alloc | apply pw_below_drewN | apply below_drew1) | exact HB.out)) hb); have n1_ := Aside0.mk (hbox); have n2_ := Aside0.mk ((by rw [hg]; exact (below_size (by repeat (first | (with_reducible first | exact HB.out | apply below_alloc | apply pw_below_drewN | apply below_drew1) | exact HB.out))) : w.heap.size ≤ gb196)); have n3_ := n2_; clear HB; have HB := n0_; have BK196 := n1_; have GW196 := n2_; have GE196 := n3_; clear n0_ n1_ n2_ n3_; clear hb hbox hg; obtain ⟨hcz46_0, hcz46_1, hcz46_2, hcz46_3, hcz46_4, hcz46_5, hcz46_6⟩ := cells7_ BK196.out; obtain ⟨hfz46_0, hfz46_1, hfz46_2, hfz46_3, hfz46_4, hfz46_5, hfz46_6⟩ := froz7_ BK196.out) | (go_at_call 15; (with_reducible refine (corebankref45_Check.calls k a0_0 a0_1 a0_2 a0_3 a0_4 a0_5 _ _ l0_6 t197 _ ?side1 ?side2 A3.out).mono ?_); (case side1 => repeat (first | exact (Kd.C_below HR0_6.out HB.out) | (with_reducible refine Kd.C_alloc ?_ _) | (with_reducible refine Kd.C_drewN ?_ _) | (with_reducible refine Kd.C_drew ?_))); (case side2 => exact HC0_6.out); rintro e w47 ⟨rfl, hb⟩; have n0_ := Aside0.mk (blk_below (g := gb196) (by repeat (first | exact BK196.out | apply blk_alloc)) hb); have n1_ := Aside0.mk (below_step (by repeat (first | (with_reducible first | exact HB.out | apply below_alloc | apply pw_below_drewN | apply below_drew1 | refine below_set ?_ GE196.out) | exact HB.out)) hb); clear BK196 HB; have BK196 := n0_; have HB := n1_; clear n0_ n1_; (try clear hb); (try clear hb2); (try clear hk); (try clear hi); obtain ⟨hcz48_0, hcz48_1, hcz48_2, hcz48_3, hcz48_4, hcz48_5, hcz48_6⟩ := cells7_ BK196.out; obtain ⟨hfz48_0, hfz48_1, hfz48_2, hfz48_3, hfz48_4, hfz48_5, hfz48_6⟩ := froz7_ BK196.out) | (go_at_call 38; (with_reducible refine (corebankref03_Format.calls k a0_4 a1 t198 t199 _ A5.out).mono ?_); rintro e w' ⟨rfl, ⟨nd, rfl⟩⟩; (try first | exact ⟨rfl, _, World.drewN_drewN _ _ _⟩ | exact ⟨rfl, _, Eq.trans (World.drewN_drewN _ _ _) (congrArg (World.drewN _) (Nat.add_assoc _ _ _))⟩)))
   repeat (go_quiet (first | ((with_reducible refine gate_dst (N := 2) rfl ?_); refine box_event ?hg (N := 2) ?hd (cs := #[.int .i64 a0_0, .int .i64 a0_1, .int .i64 a0_2, .int .i64 a0_3, .int .i64 a0_4, .int .i64 a0_5, .slice A0_6 l0_6.length c0_6]) (t := 40) ?hr ?_; (case hd => rfl); (case hg => rfl); (case hr => first | (go_simp; done) | (go_simp; rfl)); intro gb196 hg w45 hbox hb; have n0_ := Aside0.mk (below_step (by repeat (first | (with_reducible first | exact HB.out | apply below_alloc | apply pw_below_drewN | apply below_drew1) | exact HB.out)) hb); have n1_ := Aside0.mk (hbox); have n2_ := Aside0.mk ((by rw [hg]; exact (below_size (by repeat (first | (with_reducible first | exact HB.out | apply below_alloc | apply pw_below_drewN | apply below_drew1) | exact HB.out))) : w.heap.size ≤ gb196)); have n3_ := n2_; clear HB; have HB := n0_; have BK196 := n1_; have GW196 := n2_; have GE196 := n3_; clear n0_ n1_ n2_ n3_; clear hb hbox hg; obtain ⟨hcz46_0, hcz46_1, hcz46_2, hcz46_3, hcz46_4, hcz46_5, hcz46_6⟩ := cells7_ BK196.out; obtain ⟨hfz46_0, hfz46_1, hfz46_2, hfz46_3, hfz46_4, hfz46_5, hfz46_6⟩ := froz7_ BK196.out) | (go_at_call 15; (with_reducible refine (corebankref45_Check.calls k a0_0 a0_1 a0_2 a0_3 a0_4 a0_5 _ _ l0_6 t197 _ ?side1 ?side2 A3.out).mono ?_); (case side1 => repeat (first | exact (Kd.C_below HR0_6.out HB.out) | (with_reducible refine Kd.C_alloc ?_ _) | (with_reducible refine Kd.C_drewN ?_ _) | (with_reducible refine Kd.C_drew ?_))); (case side2 => exact HC0_6.out); rintro e w47 ⟨rfl, hb⟩; have n0_ := Aside0.mk (blk_below (g := gb196) (by repeat (first | exact BK196.out | apply blk_alloc)) hb); have n1_ := Aside0.mk (below_step (by repeat (first | (with_reducible first | exact HB.out | apply below_alloc | apply pw_below_drewN | apply below_drew1 | refine below_set ?_ GE196.out) | exact HB.out)) hb); clear BK196 HB; have BK196 := n0_; have HB := n1_; clear n0_ n1_; (try clear hb); (try clear hb2); (try clear hk); (try clear hi); obtain ⟨hcz48_0, hcz48_1, hcz48_2, hcz48_3, hcz48_4, hcz48_5, hcz48_6⟩ := cells7_ BK196.out; obtain ⟨hfz48_0, hfz48_1, hfz48_2, hfz48_3, hfz48_4, hfz48_5, hfz48_6⟩ := froz7_ BK196.out) | (go_at_call 38; (with_reducible refine (corebankref03_Format.calls k a0_4 a1 t198 t199 _ A5.out).mono ?_); rintro e w' ⟨rfl, ⟨nd, rfl⟩⟩; (try first | exact ⟨rfl, _, World.drewN_drewN _ _ _⟩ | exact ⟨rfl, _, Eq.trans (World.drewN_drewN _ _ _) (congrArg (World.drewN _) (Nat.add_assoc _ _ _))⟩))); try go_wp2_with (first | ((with_reducible refine gate_dst (N := 2) rfl ?_); refine box_event ?hg (N := 2) ?hd (cs := #[.int .i64 a0_0, .int .i64 a0_1, .int .i64 a0_2, .int .i64 a0_3, .int .i64 a0_4, .int .i64 a0_5, .slice A0_6 l0_6.length c0_6]) (t := 40) ?hr ?_; (case hd => rfl); (case hg => rfl); (case hr => first | (go_simp; done) | (go_simp; rfl)); intro gb196 hg w45 hbox hb; have n0_ := Aside0.mk (below_step (by repeat (first | (with_reducible first | exact HB.out | apply below_alloc | apply pw_below_drewN | apply below_drew1) | exact HB.out)) hb); have n1_ := Aside0.mk (hbox); have n2_ := Aside0.mk ((by rw [hg]; exact (below_size (by repeat (first | (with_reducible first | exact HB.out | apply below_alloc | apply pw_below_drewN | apply below_drew1) | exact HB.out))) : w.heap.size ≤ gb196)); have n3_ := n2_; clear HB; have HB := n0_; have BK196 := n1_; have GW196 := n2_; have GE196 := n3_; clear n0_ n1_ n2_ n3_; clear hb hbox hg; obtain ⟨hcz46_0, hcz46_1, hcz46_2, hcz46_3, hcz46_4, hcz46_5, hcz46_6⟩ := cells7_ BK196.out; obtain ⟨hfz46_0, hfz46_1, hfz46_2, hfz46_3, hfz46_4, hfz46_5, hfz46_6⟩ := froz7_ BK196.out) | (go_at_call 15; (with_reducible refine (corebankref45_Check.calls k a0_0 a0_1 a0_2 a0_3 a0_4 a0_5 _ _ l0_6 t197 _ ?side1 ?side2 A3.out).mono ?_); (case side1 => repeat (first | exact (Kd.C_below HR0_6.out HB.out) | (with_reducible refine Kd.C_alloc ?_ _) | (with_reducible refine Kd.C_drewN ?_ _) | (with_reducible refine Kd.C_drew ?_))); (case side2 => exact HC0_6.out); rintro e w47 ⟨rfl, hb⟩; have n0_ := Aside0.mk (blk_below (g := gb196) (by repeat (first | exact BK196.out | apply blk_alloc)) hb); have n1_ := Aside0.mk (below_step (by repeat (first | (with_reducible first | exact HB.out | apply below_alloc | apply pw_below_drewN | apply below_drew1 | refine below_set ?_ GE196.out) | exact HB.out)) hb); clear BK196 HB; have BK196 := n0_; have HB := n1_; clear n0_ n1_; (try clear hb); (try clear hb2); (try clear hk); (try clear hi); obtain ⟨hcz48_0, hcz48_1, hcz48_2, hcz48_3, hcz48_4, hcz48_5, hcz48_6⟩ := cells7_ BK196.out; obtain ⟨hfz48_0, hfz48_1, hfz48_2, hfz48_3, hfz48_4, hfz48_5, hfz48_6⟩ := froz7_ BK196.out) | (go_at_call 38; (with_reducible refine (corebankref03_Format.calls k a0_4 a1 t198 t199 _ A5.out).mono ?_); rintro e w' ⟨rfl, ⟨nd, rfl⟩⟩; (try first | exact ⟨rfl, _, World.drewN_drewN _ _ _⟩ | exact ⟨rfl, _, Eq.trans (World.drewN_drewN _ _ _) (congrArg (World.drewN _) (Nat.add_assoc _ _ _))⟩))))
   go_ret2
   exact ⟨by first | rfl | (simp [errW_none, errW_some] <;> rfl) | (simp [*, errW_none, errW_some] <;> rfl), by repeat (first | (with_reducible first | exact HB.out | apply below_alloc | apply pw_below_drewN | apply below_drew1 | refine below_set ?_ GE196.out) | exact HB.out)⟩
 ·rw [if_neg c4] at H
  have c4b0 : (t197 == 0) = false := beq_eq_false_iff_ne.mpr c4
  have c4b1 : (t197 != 0) = true := bne_iff_ne.mpr c4
  simp only [Option.some.injEq, Prod.mk.injEq] at H
  obtain ⟨rfl, rfl⟩ := H
  go_enter Tryd.func19, Tryd.ntmps19
  go_wp2_with (first | ((with_reducible refine gate_dst (N := 2) rfl ?_); refine box_event ?hg (N := 2) ?hd (cs := #[.int .i64 a0_0, .int .i64 a0_1, .int .i64 a0_2, .int .i64 a0_3, .int .i64 a0_4, .int .i64 a0_5, .slice A0_6 l0_6.length c0_6]) (t := 40) ?hr ?_; (case hd => rfl); (case hg => rfl); (case hr => first | (go_simp; done) | (go_simp; rfl)); intro gb196 hg w49 hbox hb; have n0_ := Aside0.mk (below_step (by repeat (first | (with_reducible first | exact HB.out | apply below_alloc | apply pw_below_drewN | apply below_drew1) | exact HB.out)) hb); have n1_ := Aside0.mk (hbox); have n2_ := Aside0.mk ((by rw [hg]; exact (below_size (by repeat (first | (with_reducible first | exact HB.out | apply below_alloc | apply pw_below_drewN | apply below_drew1) | exact HB.out))) : w.heap.size ≤ gb196)); have n3_ := n2_; clear HB; have HB := n0_; have BK196 := n1_; have GW196 := n2_; have GE196 := n3_; clear n0_ n1_ n2_ n3_; clear hb hbox hg; obtain ⟨hcz50_0, hcz50_1, hcz50_2, hcz50_3, hcz50_4, hcz50_5, hcz50_6⟩ := cells7_ BK196.out; obtain ⟨hfz50_0, hfz50_1, hfz50_2, hfz50_3, hfz50_4, hfz50_5, hfz50_6⟩ := froz7_ BK196.out) | (go_at_call 15; (with_reducible refine (corebankref45_Check.calls k a0_0 a0_1 a0_2 a0_3 a0_4 a0_5 _ _ l0_6 t197 _ ?side1 ?side2 A3.out).mono ?_); (case side1 => repeat (first | exact (Kd.C_below HR0_6.out HB.out) | (with_reducible refine Kd.C_alloc ?_ _) | (with_reducible refine Kd.C_drewN ?_ _) | (with_reducible refine Kd.C_drew ?_))); (case side2 => exact HC0_6.out); rintro e w51 ⟨rfl, hb⟩; have n0_ := Aside0.mk (blk_below (g := gb196) (by repeat (first | exact BK196.out | apply blk_alloc)) hb); have n1_ := Aside0.mk (below_step (by repeat (first | (with_reducible first | exact HB.out | apply below_alloc | apply pw_below_drewN | apply below_drew1 | refine below_set ?_ GE196.out) | exact HB.out)) hb); clear BK196 HB; have BK196 := n0_; have HB := n1_; clear n0_ n1_; (try clear hb); (try clear hb2); (try clear hk); (try clear hi)))
  repeat (go_quiet (first | ((with_reducible refine gate_dst (N := 2) rfl ?_); refine box_event ?hg (N := 2) ?hd (cs := #[.int .i64 a0_0, .int .i64 a0_1, .int .i64 a0_2, .int .i64 a0_3, .int .i64 a0_4, .int .i64 a0_5, .slice A0_6 l0_6.length c0_6]) (t := 40) ?hr ?_; (case hd => rfl); (case hg => rfl); (case hr => first | (go_simp; done) | (go_simp; rfl)); intro gb196 hg w49 hbox hb; have n0_ := Aside0.mk (below_step (by repeat (first | (with_reducible first | exact HB.out | apply below_alloc | apply pw_below_drewN | apply below_drew1) | exact HB.out)) hb); have n1_ := Aside0.mk (hbox); have n2_ := Aside0.mk ((by rw [hg]; exact (below_size (by repeat (first | (with_reducible first | exact HB.out | apply below_alloc | apply pw_below_drewN | apply below_drew1) | exact HB.out))) : w.heap.size ≤ gb196)); have n3_ := n2_; clear HB; have HB := n0_; have BK196 := n1_; have GW196 := n2_; have GE196 := n3_; clear n0_ n1_ n2_ n3_; clear hb hbox hg; obtain ⟨hcz50_0, hcz50_1, hcz50_2, hcz50_3, hcz50_4, hcz50_5, hcz50_6⟩ := cells7_ BK196.out; obtain ⟨hfz50_0, hfz50_1, hfz50_2, hfz50_3, hfz50_4, hfz50_5, hfz50_6⟩ := froz7_ BK196.out) | (go_at_call 15; (with_reducible refine (corebankref45_Check.calls k a0_0 a0_1 a0_2 a0_3 a0_4 a0_5 _ _ l0_6 t197 _ ?side1 ?side2 A3.out).mono ?_); (case side1 => repeat (first | exact (Kd.C_below HR0_6.out HB.out) | (with_reducible refine Kd.C_alloc ?_ _) | (with_reducible refine Kd.C_drewN ?_ _) | (with_reducible refine Kd.C_drew ?_))); (case side2 => exact HC0_6.out); rintro e w51 ⟨rfl, hb⟩; have n0_ := Aside0.mk (blk_below (g := gb196) (by repeat (first | exact BK196.out | apply blk_alloc)) hb); have n1_ := Aside0.mk (below_step (by repeat (first | (with_reducible first | exact HB.out | apply below_alloc | apply pw_below_drewN | apply below_drew1 | refine below_set ?_ GE196.out) | exact HB.out)) hb); clear BK196 HB; have BK196 := n0_; have HB := n1_; clear n0_ n1_; (try clear hb); (try clear hb2); (try clear hk); (try clear hi))); try go_wp2_with (first | ((with_reducible refine gate_dst (N := 2) rfl ?_); refine box_event ?hg (N := 2) ?hd (cs := #[.int .i64 a0_0, .int .i64 a0_1, .int .i64 a0_2, .int .i64 a0_3, .int .i64 a0_4, .int .i64 a0_5, .slice A0_6 l0_6.length c0_6]) (t := 40) ?hr ?_; (case hd => rfl); (case hg => rfl); (case hr => first | (go_simp; done) | (go_simp; rfl)); intro gb196 hg w49 hbox hb; have n0_ := Aside0.mk (below_step (by repeat (first | (with_reducible first | exact HB.out | apply below_alloc | apply pw_below_drewN | apply below_drew1) | exact HB.out)) hb); have n1_ := Aside0.mk (hbox); have n2_ := Aside0.mk ((by rw [hg]; exact (below_size (by repeat (first | (with_reducible first | exact HB.out | apply below_alloc | apply pw_below_drewN | apply below_drew1) | exact HB.out))) : w.heap.size ≤ gb196)); have n3_ := n2_; clear HB; have HB := n0_; have BK196 := n1_; have GW196 := n2_; have GE196 := n3_; clear n0_ n1_ n2_ n3_; clear hb hbox hg; obtain ⟨hcz50_0, hcz50_1, hcz50_2, hcz50_3, hcz50_4, hcz50_5, hcz50_6⟩ := cells7_ BK196.out; obtain ⟨hfz50_0, hfz50_1, hfz50_2, hfz50_3, hfz50_4, hfz50_5, hfz50_6⟩ := froz7_ BK196.out) | (go_at_call 15; (with_reducible refine (corebankref45_Check.calls k a0_0 a0_1 a0_2 a0_3 a0_4 a0_5 _ _ l0_6 t197 _ ?side1 ?side2 A3.out).mono ?_); (case side1 => repeat (first | exact (Kd.C_below HR0_6.out HB.out) | (with_reducible refine Kd.C_alloc ?_ _) | (with_reducible refine Kd.C_drewN ?_ _) | (with_reducible refine Kd.C_drew ?_))); (case side2 => exact HC0_6.out); rintro e w51 ⟨rfl, hb⟩; have n0_ := Aside0.mk (blk_below (g := gb196) (by repeat (first | exact BK196.out | apply blk_alloc)) hb); have n1_ := Aside0.mk (below_step (by repeat (first | (with_reducible first | exact HB.out | apply below_alloc | apply pw_below_drewN | apply below_drew1 | refine below_set ?_ GE196.out) | exact HB.out)) hb); clear BK196 HB; have BK196 := n0_; have HB := n1_; clear n0_ n1_; (try clear hb); (try clear hb2); (try clear hk); (try clear hi))))
  go_ret2
  exact ⟨by first | rfl | (simp [errW_none, errW_some] <;> rfl) | (simp [*, errW_none, errW_some] <;> rfl), by repeat (first | (with_reducible first | exact HB.out | apply below_alloc | apply pw_below_drewN | apply below_drew1 | refine below_set ?_ GE196.out) | exact HB.out)⟩

end Go.Proofs.YtimjodgnlahclaaDoor.G
