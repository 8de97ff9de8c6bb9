/-
  The number of days of a month, as the program reckons it (a table of thirteen, and the leap day): its contract, for every year and every month.
-/
import Derived.Test.YtimjodgnlahclaaDoorProg
import Derived.WalkKit
import Derived.WalkSpells
import Derived.Laws.Rows
import Derived.Test.YtimjodgnlahclaaDoorWWords
namespace Go.Proofs.YtimjodgnlahclaaDoor.G
open Go.RowKit Go.Proofs.YtimjodgnlahclaaDoorW.PrintWords
set_option linter.unusedVariables false
set_option linter.unusedSimpArgs false

def leapV (y : Int) : Bool := decide (Int.tmod y 4 = 0) && (!decide (Int.tmod y 100 = 0) || decide (Int.tmod y 400 = 0))
set_option maxHeartbeats 1000000 in
theorem len0 (y : Int) (w : World) : Calls Tryd.prog 61 #[.int .i64 y, .int .i64 0] w fun e w' => e = .returned (.int .i64 0) ∧ Below w.heap.size w w' := by
  go_enter Tryd.func61, Tryd.ntmps61
  go_wp2
  go_ret
  exact ⟨by first | rfl | (simp; done), by repeat (first | exact Below.refl _ _ | apply below_alloc | apply pw_below_drewN | apply below_drew1)⟩
set_option maxHeartbeats 1000000 in
theorem len1 (y : Int) (w : World) : Calls Tryd.prog 61 #[.int .i64 y, .int .i64 1] w fun e w' => e = .returned (.int .i64 31) ∧ Below w.heap.size w w' := by
  go_enter Tryd.func61, Tryd.ntmps61
  go_wp2
  go_ret
  exact ⟨by first | rfl | (simp; done), by repeat (first | exact Below.refl _ _ | apply below_alloc | apply pw_below_drewN | apply below_drew1)⟩
set_option maxHeartbeats 1000000 in
theorem len3 (y : Int) (w : World) : Calls Tryd.prog 61 #[.int .i64 y, .int .i64 3] w fun e w' => e = .returned (.int .i64 31) ∧ Below w.heap.size w w' := by
  go_enter Tryd.func61, Tryd.ntmps61
  go_wp2
  go_ret
  exact ⟨by first | rfl | (simp; done), by repeat (first | exact Below.refl _ _ | apply below_alloc | apply pw_below_drewN | apply below_drew1)⟩
set_option maxHeartbeats 1000000 in
theorem len4 (y : Int) (w : World) : Calls Tryd.prog 61 #[.int .i64 y, .int .i64 4] w fun e w' => e = .returned (.int .i64 30) ∧ Below w.heap.size w w' := by
  go_enter Tryd.func61, Tryd.ntmps61
  go_wp2
  go_ret
  exact ⟨by first | rfl | (simp; done), by repeat (first | exact Below.refl _ _ | apply below_alloc | apply pw_below_drewN | apply below_drew1)⟩
set_option maxHeartbeats 1000000 in
theorem len5 (y : Int) (w : World) : Calls Tryd.prog 61 #[.int .i64 y, .int .i64 5] w fun e w' => e = .returned (.int .i64 31) ∧ Below w.heap.size w w' := by
  go_enter Tryd.func61, Tryd.ntmps61
  go_wp2
  go_ret
  exact ⟨by first | rfl | (simp; done), by repeat (first | exact Below.refl _ _ | apply below_alloc | apply pw_below_drewN | apply below_drew1)⟩
set_option maxHeartbeats 1000000 in
theorem len6 (y : Int) (w : World) : Calls Tryd.prog 61 #[.int .i64 y, .int .i64 6] w fun e w' => e = .returned (.int .i64 30) ∧ Below w.heap.size w w' := by
  go_enter Tryd.func61, Tryd.ntmps61
  go_wp2
  go_ret
  exact ⟨by first | rfl | (simp; done), by repeat (first | exact Below.refl _ _ | apply below_alloc | apply pw_below_drewN | apply below_drew1)⟩
set_option maxHeartbeats 1000000 in
theorem len7 (y : Int) (w : World) : Calls Tryd.prog 61 #[.int .i64 y, .int .i64 7] w fun e w' => e = .returned (.int .i64 31) ∧ Below w.heap.size w w' := by
  go_enter Tryd.func61, Tryd.ntmps61
  go_wp2
  go_ret
  exact ⟨by first | rfl | (simp; done), by repeat (first | exact Below.refl _ _ | apply below_alloc | apply pw_below_drewN | apply below_drew1)⟩
set_option maxHeartbeats 1000000 in
theorem len8 (y : Int) (w : World) : Calls Tryd.prog 61 #[.int .i64 y, .int .i64 8] w fun e w' => e = .returned (.int .i64 31) ∧ Below w.heap.size w w' := by
  go_enter Tryd.func61, Tryd.ntmps61
  go_wp2
  go_ret
  exact ⟨by first | rfl | (simp; done), by repeat (first | exact Below.refl _ _ | apply below_alloc | apply pw_below_drewN | apply below_drew1)⟩
set_option maxHeartbeats 1000000 in
theorem len9 (y : Int) (w : World) : Calls Tryd.prog 61 #[.int .i64 y, .int .i64 9] w fun e w' => e = .returned (.int .i64 30) ∧ Below w.heap.size w w' := by
  go_enter Tryd.func61, Tryd.ntmps61
  go_wp2
  go_ret
  exact ⟨by first | rfl | (simp; done), by repeat (first | exact Below.refl _ _ | apply below_alloc | apply pw_below_drewN | apply below_drew1)⟩
set_option maxHeartbeats 1000000 in
theorem len10 (y : Int) (w : World) : Calls Tryd.prog 61 #[.int .i64 y, .int .i64 10] w fun e w' => e = .returned (.int .i64 31) ∧ Below w.heap.size w w' := by
  go_enter Tryd.func61, Tryd.ntmps61
  go_wp2
  go_ret
  exact ⟨by first | rfl | (simp; done), by repeat (first | exact Below.refl _ _ | apply below_alloc | apply pw_below_drewN | apply below_drew1)⟩
set_option maxHeartbeats 1000000 in
theorem len11 (y : Int) (w : World) : Calls Tryd.prog 61 #[.int .i64 y, .int .i64 11] w fun e w' => e = .returned (.int .i64 30) ∧ Below w.heap.size w w' := by
  go_enter Tryd.func61, Tryd.ntmps61
  go_wp2
  go_ret
  exact ⟨by first | rfl | (simp; done), by repeat (first | exact Below.refl _ _ | apply below_alloc | apply pw_below_drewN | apply below_drew1)⟩
set_option maxHeartbeats 1000000 in
theorem len12 (y : Int) (w : World) : Calls Tryd.prog 61 #[.int .i64 y, .int .i64 12] w fun e w' => e = .returned (.int .i64 31) ∧ Below w.heap.size w w' := by
  go_enter Tryd.func61, Tryd.ntmps61
  go_wp2
  go_ret
  exact ⟨by first | rfl | (simp; done), by repeat (first | exact Below.refl _ _ | apply below_alloc | apply pw_below_drewN | apply below_drew1)⟩
set_option maxHeartbeats 1000000 in
theorem len2 (y : Int) (w : World) : Calls Tryd.prog 61 #[.int .i64 y, .int .i64 2] w fun e w' => e = .returned (.int .i64 (if leapV y = true then 29 else 28)) ∧ Below w.heap.size w w' := by
  by_cases h4 : Int.tmod y 4 = 0
  · have a1 : (Int.tmod y 4 == 0) = true := by simp [h4]
    have a2 : (Int.tmod y 4 != 0) = false := by simp [h4]
    by_cases h1 : Int.tmod y 100 = 0
    · have b1 : (Int.tmod y 100 == 0) = true := by simp [h1]
      have b2 : (Int.tmod y 100 != 0) = false := by simp [h1]
      by_cases h5 : Int.tmod y 400 = 0
      · have c1 : (Int.tmod y 400 == 0) = true := by simp [h5]
        have c2 : (Int.tmod y 400 != 0) = false := by simp [h5]
        rw [show leapV y = true by simp [leapV, h4, h1, h5]]
        clear h4 h1 h5
        go_enter Tryd.func61, Tryd.ntmps61
        go_wp2
        go_ret
        exact ⟨by first | rfl | (simp; done), by repeat (first | exact Below.refl _ _ | apply below_alloc | apply pw_below_drewN | apply below_drew1)⟩
      · have c1 : (Int.tmod y 400 == 0) = false := by simp [h5]
        have c2 : (Int.tmod y 400 != 0) = true := by simp [h5]
        rw [show leapV y = false by simp [leapV, h4, h1, h5]]
        clear h4 h1 h5
        go_enter Tryd.func61, Tryd.ntmps61
        go_wp2
        go_ret
        exact ⟨by first | rfl | (simp; done), by repeat (first | exact Below.refl _ _ | apply below_alloc | apply pw_below_drewN | apply below_drew1)⟩
    · have b1 : (Int.tmod y 100 == 0) = false := by simp [h1]
      have b2 : (Int.tmod y 100 != 0) = true := by simp [h1]
      rw [show leapV y = true by simp [leapV, h4, h1]]
      clear h4 h1
      go_enter Tryd.func61, Tryd.ntmps61
      go_wp2
      go_ret
      exact ⟨by first | rfl | (simp; done), by repeat (first | exact Below.refl _ _ | apply below_alloc | apply pw_below_drewN | apply below_drew1)⟩
  · have a1 : (Int.tmod y 4 == 0) = false := by simp [h4]
    have a2 : (Int.tmod y 4 != 0) = true := by simp [h4]
    rw [show leapV y = false by simp [leapV, h4]]
    clear h4
    go_enter Tryd.func61, Tryd.ntmps61
    go_wp2
    go_ret
    exact ⟨by first | rfl | (simp; done), by repeat (first | exact Below.refl _ _ | apply below_alloc | apply pw_below_drewN | apply below_drew1)⟩
def lenV (y m : Int) : Int := if m = 2 then (if leapV y = true then 29 else 28) else rd [0, 31, 28, 31, 30, 31, 30, 31, 31, 30, 31, 30, 31] m
def date_length.f (a0 a1 : Int) : Option Int := if 0 ≤ a1 then (if a1 < 13 then some (lenV a0 a1) else none) else none
theorem date_length.calls (a0 : Int) (a1 : Int) (r : Int) (w : World) (h : date_length.f a0 a1 = some r) :
    Calls Tryd.prog 61 #[.int .i64 a0, .int .i64 a1] w fun e w' => e = .returned (.int .i64 r) ∧ Below w.heap.size w w' := by
  unfold date_length.f at h
  by_cases h0 : 0 ≤ a1
  · rw [if_pos h0] at h
    by_cases h1 : a1 < 13
    · rw [if_pos h1] at h
      obtain rfl := Option.some.inj h
      have hm : a1 = 0 ∨ a1 = 1 ∨ a1 = 2 ∨ a1 = 3 ∨ a1 = 4 ∨ a1 = 5 ∨ a1 = 6 ∨ a1 = 7 ∨ a1 = 8 ∨ a1 = 9 ∨ a1 = 10 ∨ a1 = 11 ∨ a1 = 12 := by omega
      rcases hm with rfl | rfl | rfl | rfl | rfl | rfl | rfl | rfl | rfl | rfl | rfl | rfl | rfl
      · exact len0 a0 w
      · exact len1 a0 w
      · exact len2 a0 w
      · exact len3 a0 w
      · exact len4 a0 w
      · exact len5 a0 w
      · exact len6 a0 w
      · exact len7 a0 w
      · exact len8 a0 w
      · exact len9 a0 w
      · exact len10 a0 w
      · exact len11 a0 w
      · exact len12 a0 w
    · rw [if_neg h1] at h; cases h
  · rw [if_neg h0] at h; cases h
end Go.Proofs.YtimjodgnlahclaaDoor.G
