/- What functions of the program compute, as Lean functions, each with the walk that proves it, for every argument at which the Lean function answers. Written by gprint.py, a program of this session that drives the print of the kit; checked by Lean alone. -/
import Derived.Test.YtgpiglejdacelaaDoorGx0
import Derived.Test.YtgpiglejdacelaaDoorGx3
import Derived.Test.YtgpiglejdacelaaDoorGx5
namespace Go.Proofs.YtgpiglejdacelaaDoor.G
open Go.RowKit Go.Proofs.YtgpiglejdacelaaDoorW.PrintWords Go.Proofs.YtgpiglejdacelaaDoorW.PrintLast Go.Proofs.YtgpiglejdacelaaDoorW.PrintMore
attribute [local go_sem] max2_int min2_int max_two min_two max_three min_three max_four min_four   -- for this text's walks alone
set_option linter.unusedVariables false
set_option linter.unusedSimpArgs false

/-! ### corebanklaw50_ShardPartition: function 5 -/
mutual
def corebanklaw50_ShardPartition.j0 : Nat → List Int → Int → Int → List (List Int) → Int → Int → Bool → Option (Bool)
  | 0, _, _, _, _, _, _, _ => none
  | k + 1, x0, x1, x2, x7, x8, x9, x51 => if x51 = true then (some false) else (corebanklaw50_ShardPartition.l0 k x0 x1 x2 x7 x8 x9 0)
def corebanklaw50_ShardPartition.l0 : Nat → List Int → Int → Int → List (List Int) → Int → Int → Int → Option (Bool)
  | 0, _, _, _, _, _, _, _ => none
  | k + 1, x0, x1, x2, x7, x8, x9, x10 => if x10 < (x0.length : Int) then (if 0 ≤ x10 then (if (rd x0 x10) = x2 then (corebanklaw50_ShardPartition.l0 k x0 x1 x2 x7 x8 (wrap64 (x9 + 1)) (wrap64 (x10 + 1))) else (corebanklaw50_ShardPartition.l0 k x0 x1 x2 x7 x8 x9 (wrap64 (x10 + 1)))) else (none)) else (corebanklaw50_ShardPartition.l1 k x0 x1 x2 x7 x8 x9 0 0)
def corebanklaw50_ShardPartition.l1 : Nat → List Int → Int → Int → List (List Int) → Int → Int → Int → Int → Option (Bool)
  | 0, _, _, _, _, _, _, _, _ => none
  | k + 1, x0, x1, x2, x7, x8, x9, x11, x12 => if x12 < x1 then (if 0 ≤ x12 then (if x12 < (x7.length : Int) then (corebanklaw50_ShardPartition.l2 k x0 x1 x2 x7 x8 x9 (wrap64 (x11 + ((rd_L2 x7 x12).length : Int))) x12 0) else (none)) else (none)) else (if x11 = (x0.length : Int) then (if x9 = 0 then ((corebanklaw50_live.f k).bind fun t206 => (some t206)) else (some false)) else (some false))
def corebanklaw50_ShardPartition.l2 : Nat → List Int → Int → Int → List (List Int) → Int → Int → Int → Int → Int → Option (Bool)
  | 0, _, _, _, _, _, _, _, _, _ => none
  | k + 1, x0, x1, x2, x7, x8, x9, x11, x12, x13 => if 0 ≤ x12 then (if x12 < (x7.length : Int) then (if x13 < ((rd_L2 x7 x12).length : Int) then (if 0 ≤ x13 then (if (rd (rd_L2 x7 x12) x13) = x2 then (corebanklaw50_ShardPartition.j4 k x0 x1 x2 x7 x8 x9 x11 x12 x13 (x12 != x8)) else (corebanklaw50_ShardPartition.j4 k x0 x1 x2 x7 x8 x9 x11 x12 x13 false)) else (none)) else (corebanklaw50_ShardPartition.l1 k x0 x1 x2 x7 x8 x9 x11 (wrap64 (x12 + 1)))) else (none)) else (none)
def corebanklaw50_ShardPartition.j4 : Nat → List Int → Int → Int → List (List Int) → Int → Int → Int → Int → Int → Bool → Option (Bool)
  | 0, _, _, _, _, _, _, _, _, _, _ => none
  | k + 1, x0, x1, x2, x7, x8, x9, x11, x12, x13, x100 => if x100 = true then (some false) else (if 0 ≤ x12 then (if x12 < (x7.length : Int) then (if 0 ≤ x13 then (if x13 < ((rd_L2 x7 x12).length : Int) then (if (rd (rd_L2 x7 x12) x13) = x2 then (corebanklaw50_ShardPartition.l2 k x0 x1 x2 x7 x8 (wrap64 (x9 - 1)) x11 x12 (wrap64 (x13 + 1))) else (corebanklaw50_ShardPartition.l2 k x0 x1 x2 x7 x8 x9 x11 x12 (wrap64 (x13 + 1)))) else (none)) else (none)) else (none)) else (none))
end
def corebanklaw50_ShardPartition.f (k : Nat) (l0 : List Int) (a1 : Int) (a2 : Int) : Option (Bool) := if (l0.length : Int) > 100 then ((corebanklaw50_live.f k).bind fun t197 => (some t197)) else ((shard_Split.f k l0 a1).bind fun t198 => ((corebankref50_Good.f a1).bind fun t201 => (if t201 = true then ((shard_Of.f k a2 a1).bind fun t204 => (if (t198.length : Int) = a1 then (if t204 < 0 then (corebanklaw50_ShardPartition.j0 k l0 a1 a2 t198 t204 0 true) else (corebanklaw50_ShardPartition.j0 k l0 a1 a2 t198 t204 0 (decide (t204 ≥ a1)))) else (corebanklaw50_ShardPartition.j0 k l0 a1 a2 t198 t204 0 true))) else (if (t198.length : Int) = 0 then ((shard_Of.f k a2 a1).bind fun t202 => (if t202 = 0 then ((corebanklaw50_live.f k).bind fun t203 => (some t203)) else (some false))) else (some false)))))
theorem corebanklaw50_ShardPartition.mono_l : ∀ k, (∀ y0 y1 y2 y3 y4 y5 y6, LeO (corebanklaw50_ShardPartition.j0 k y0 y1 y2 y3 y4 y5 y6) (corebanklaw50_ShardPartition.j0 (k + 1) y0 y1 y2 y3 y4 y5 y6)) ∧ (∀ y0 y1 y2 y3 y4 y5 y6, LeO (corebanklaw50_ShardPartition.l0 k y0 y1 y2 y3 y4 y5 y6) (corebanklaw50_ShardPartition.l0 (k + 1) y0 y1 y2 y3 y4 y5 y6)) ∧ (∀ y0 y1 y2 y3 y4 y5 y6 y7, LeO (corebanklaw50_ShardPartition.l1 k y0 y1 y2 y3 y4 y5 y6 y7) (corebanklaw50_ShardPartition.l1 (k + 1) y0 y1 y2 y3 y4 y5 y6 y7)) ∧ (∀ y0 y1 y2 y3 y4 y5 y6 y7 y8, LeO (corebanklaw50_ShardPartition.l2 k y0 y1 y2 y3 y4 y5 y6 y7 y8) (corebanklaw50_ShardPartition.l2 (k + 1) y0 y1 y2 y3 y4 y5 y6 y7 y8)) ∧ (∀ y0 y1 y2 y3 y4 y5 y6 y7 y8 y9, LeO (corebanklaw50_ShardPartition.j4 k y0 y1 y2 y3 y4 y5 y6 y7 y8 y9) (corebanklaw50_ShardPartition.j4 (k + 1) y0 y1 y2 y3 y4 y5 y6 y7 y8 y9))
  | 0 => ⟨fun _ _ _ _ _ _ _ r h => by simp [corebanklaw50_ShardPartition.j0] at h, fun _ _ _ _ _ _ _ r h => by simp [corebanklaw50_ShardPartition.l0] at h, fun _ _ _ _ _ _ _ _ r h => by simp [corebanklaw50_ShardPartition.l1] at h, fun _ _ _ _ _ _ _ _ _ r h => by simp [corebanklaw50_ShardPartition.l2] at h, fun _ _ _ _ _ _ _ _ _ _ r h => by simp [corebanklaw50_ShardPartition.j4] at h⟩
  | k + 1 => by
    obtain ⟨ih0, ih1, ih2, ih3, ih4⟩ := corebanklaw50_ShardPartition.mono_l k
    refine ⟨?_, ?_, ?_, ?_, ?_⟩
    · intro y0 y1 y2 y3 y4 y5 y6
      unfold corebanklaw50_ShardPartition.j0
      repeat' first
      | (with_reducible exact ih0 _ _ _ _ _ _ _)
      | (with_reducible exact ih1 _ _ _ _ _ _ _)
      | (with_reducible exact ih2 _ _ _ _ _ _ _ _)
      | (with_reducible exact ih3 _ _ _ _ _ _ _ _ _)
      | (with_reducible exact ih4 _ _ _ _ _ _ _ _ _ _)
      | (with_reducible exact corebanklaw50_live.mono _)
      | (with_reducible exact shard_Of.mono _ _ _)
      | (with_reducible exact shard_Split.mono _ _ _)
      | (with_reducible exact LeO.refl _)
      | (with_reducible exact LeO.none _)
      | (with_reducible refine LeO.ite ?_ ?_)
      | (with_reducible refine LeO.bind ?_ (fun _ => ?_))
      | exact ih0 _ _ _ _ _ _ _
      | exact ih1 _ _ _ _ _ _ _
      | exact ih2 _ _ _ _ _ _ _ _
      | exact ih3 _ _ _ _ _ _ _ _ _
      | exact ih4 _ _ _ _ _ _ _ _ _ _
      | exact corebanklaw50_live.mono _
      | exact shard_Of.mono _ _ _
      | exact shard_Split.mono _ _ _
      | exact LeO.none _
      | refine LeO.ite ?_ ?_
      | refine LeO.bind ?_ (fun _ => ?_)
    · intro y0 y1 y2 y3 y4 y5 y6
      unfold corebanklaw50_ShardPartition.l0
      repeat' first
      | (with_reducible exact ih0 _ _ _ _ _ _ _)
      | (with_reducible exact ih1 _ _ _ _ _ _ _)
      | (with_reducible exact ih2 _ _ _ _ _ _ _ _)
      | (with_reducible exact ih3 _ _ _ _ _ _ _ _ _)
      | (with_reducible exact ih4 _ _ _ _ _ _ _ _ _ _)
      | (with_reducible exact corebanklaw50_live.mono _)
      | (with_reducible exact shard_Of.mono _ _ _)
      | (with_reducible exact shard_Split.mono _ _ _)
      | (with_reducible exact LeO.refl _)
      | (with_reducible exact LeO.none _)
      | (with_reducible refine LeO.ite ?_ ?_)
      | (with_reducible refine LeO.bind ?_ (fun _ => ?_))
      | exact ih0 _ _ _ _ _ _ _
      | exact ih1 _ _ _ _ _ _ _
      | exact ih2 _ _ _ _ _ _ _ _
      | exact ih3 _ _ _ _ _ _ _ _ _
      | exact ih4 _ _ _ _ _ _ _ _ _ _
      | exact corebanklaw50_live.mono _
      | exact shard_Of.mono _ _ _
      | exact shard_Split.mono _ _ _
      | exact LeO.none _
      | refine LeO.ite ?_ ?_
      | refine LeO.bind ?_ (fun _ => ?_)
    · intro y0 y1 y2 y3 y4 y5 y6 y7
      unfold corebanklaw50_ShardPartition.l1
      repeat' first
      | (with_reducible exact ih0 _ _ _ _ _ _ _)
      | (with_reducible exact ih1 _ _ _ _ _ _ _)
      | (with_reducible exact ih2 _ _ _ _ _ _ _ _)
      | (with_reducible exact ih3 _ _ _ _ _ _ _ _ _)
      | (with_reducible exact ih4 _ _ _ _ _ _ _ _ _ _)
      | (with_reducible exact corebanklaw50_live.mono _)
      | (with_reducible exact shard_Of.mono _ _ _)
      | (with_reducible exact shard_Split.mono _ _ _)
      | (with_reducible exact LeO.refl _)
      | (with_reducible exact LeO.none _)
      | (with_reducible refine LeO.ite ?_ ?_)
      | (with_reducible refine LeO.bind ?_ (fun _ => ?_))
      | exact ih0 _ _ _ _ _ _ _
      | exact ih1 _ _ _ _ _ _ _
      | exact ih2 _ _ _ _ _ _ _ _
      | exact ih3 _ _ _ _ _ _ _ _ _
      | exact ih4 _ _ _ _ _ _ _ _ _ _
      | exact corebanklaw50_live.mono _
      | exact shard_Of.mono _ _ _
      | exact shard_Split.mono _ _ _
      | exact LeO.none _
      | refine LeO.ite ?_ ?_
      | refine LeO.bind ?_ (fun _ => ?_)
    · intro y0 y1 y2 y3 y4 y5 y6 y7 y8
      unfold corebanklaw50_ShardPartition.l2
      repeat' first
      | (with_reducible exact ih0 _ _ _ _ _ _ _)
      | (with_reducible exact ih1 _ _ _ _ _ _ _)
      | (with_reducible exact ih2 _ _ _ _ _ _ _ _)
      | (with_reducible exact ih3 _ _ _ _ _ _ _ _ _)
      | (with_reducible exact ih4 _ _ _ _ _ _ _ _ _ _)
      | (with_reducible exact corebanklaw50_live.mono _)
      | (with_reducible exact shard_Of.mono _ _ _)
      | (with_reducible exact shard_Split.mono _ _ _)
      | (with_reducible exact LeO.refl _)
      | (with_reducible exact LeO.none _)
      | (with_reducible refine LeO.ite ?_ ?_)
      | (with_reducible refine LeO.bind ?_ (fun _ => ?_))
      | exact ih0 _ _ _ _ _ _ _
      | exact ih1 _ _ _ _ _ _ _
      | exact ih2 _ _ _ _ _ _ _ _
      | exact ih3 _ _ _ _ _ _ _ _ _
      | exact ih4 _ _ _ _ _ _ _ _ _ _
      | exact corebanklaw50_live.mono _
      | exact shard_Of.mono _ _ _
      | exact shard_Split.mono _ _ _
      | exact LeO.none _
      | refine LeO.ite ?_ ?_
      | refine LeO.bind ?_ (fun _ => ?_)
    · intro y0 y1 y2 y3 y4 y5 y6 y7 y8 y9
      unfold corebanklaw50_ShardPartition.j4
      repeat' first
      | (with_reducible exact ih0 _ _ _ _ _ _ _)
      | (with_reducible exact ih1 _ _ _ _ _ _ _)
      | (with_reducible exact ih2 _ _ _ _ _ _ _ _)
      | (with_reducible exact ih3 _ _ _ _ _ _ _ _ _)
      | (with_reducible exact ih4 _ _ _ _ _ _ _ _ _ _)
      | (with_reducible exact corebanklaw50_live.mono _)
      | (with_reducible exact shard_Of.mono _ _ _)
      | (with_reducible exact shard_Split.mono _ _ _)
      | (with_reducible exact LeO.refl _)
      | (with_reducible exact LeO.none _)
      | (with_reducible refine LeO.ite ?_ ?_)
      | (with_reducible refine LeO.bind ?_ (fun _ => ?_))
      | exact ih0 _ _ _ _ _ _ _
      | exact ih1 _ _ _ _ _ _ _
      | exact ih2 _ _ _ _ _ _ _ _
      | exact ih3 _ _ _ _ _ _ _ _ _
      | exact ih4 _ _ _ _ _ _ _ _ _ _
      | exact corebanklaw50_live.mono _
      | exact shard_Of.mono _ _ _
      | exact shard_Split.mono _ _ _
      | exact LeO.none _
      | refine LeO.ite ?_ ?_
      | refine LeO.bind ?_ (fun _ => ?_)
theorem corebanklaw50_ShardPartition.mono : ∀ a0 a1 a2 k, LeO (corebanklaw50_ShardPartition.f k a0 a1 a2) (corebanklaw50_ShardPartition.f (k + 1) a0 a1 a2) := by
  intro a0 a1 a2 k
  obtain ⟨ih0, ih1, ih2, ih3, ih4⟩ := corebanklaw50_ShardPartition.mono_l k
  unfold corebanklaw50_ShardPartition.f
  repeat' first
      | (with_reducible exact ih0 _ _ _ _ _ _ _)
      | (with_reducible exact ih1 _ _ _ _ _ _ _)
      | (with_reducible exact ih2 _ _ _ _ _ _ _ _)
      | (with_reducible exact ih3 _ _ _ _ _ _ _ _ _)
      | (with_reducible exact ih4 _ _ _ _ _ _ _ _ _ _)
      | (with_reducible exact corebanklaw50_live.mono _)
      | (with_reducible exact shard_Of.mono _ _ _)
      | (with_reducible exact shard_Split.mono _ _ _)
      | (with_reducible exact LeO.refl _)
      | (with_reducible exact LeO.none _)
      | (with_reducible refine LeO.ite ?_ ?_)
      | (with_reducible refine LeO.bind ?_ (fun _ => ?_))
      | exact ih0 _ _ _ _ _ _ _
      | exact ih1 _ _ _ _ _ _ _
      | exact ih2 _ _ _ _ _ _ _ _
      | exact ih3 _ _ _ _ _ _ _ _ _
      | exact ih4 _ _ _ _ _ _ _ _ _ _
      | exact corebanklaw50_live.mono _
      | exact shard_Of.mono _ _ _
      | exact shard_Split.mono _ _ _
      | exact LeO.none _
      | refine LeO.ite ?_ ?_
      | refine LeO.bind ?_ (fun _ => ?_)
set_option maxHeartbeats 8000000 in
set_option maxRecDepth 100000 in
theorem corebanklaw50_ShardPartition.calls (k : Nat) (A0 : Option Addr) (c0 : Nat) (l0 : List Int) (a1 : Int) (a2 : Int) (r : Bool) (w : World) (hr0 : Kd.C (Kd.int .i64) w A0 l0.length l0) (hc0 : l0.length ≤ c0) (h : corebanklaw50_ShardPartition.f k l0 a1 a2 = some r) (hG : Glob w) (ht : r = true) :
    Calls Tryd.prog 5 #[.slice A0 l0.length c0, .int .i64 a1, .int .i64 a2] w fun e w' => e = .returned (.bool r) ∧ Below w.heap.size w w' := by
  have HR0 := Aside0.mk hr0
  have HC0 := Aside0.mk hc0
  clear hr0 hc0
  have HG := Aside0.mk hG
  clear hG
  have HT := Aside0.mk ht
  clear ht
  have HB := Aside0.mk (Below.refl w.heap.size w)
  have H : (if (l0.length : Int) > 100 then ((corebanklaw50_live.f k).bind fun t197 => (some t197)) else ((shard_Split.f k l0 a1).bind fun t198 => ((corebankref50_Good.f a1).bind fun t201 => (if t201 = true then ((shard_Of.f k a2 a1).bind fun t204 => (if (t198.length : Int) = a1 then (if t204 < 0 then (corebanklaw50_ShardPartition.j0 k l0 a1 a2 t198 t204 0 true) else (corebanklaw50_ShardPartition.j0 k l0 a1 a2 t198 t204 0 (decide (t204 ≥ a1)))) else (corebanklaw50_ShardPartition.j0 k l0 a1 a2 t198 t204 0 true))) else (if (t198.length : Int) = 0 then ((shard_Of.f k a2 a1).bind fun t202 => (if t202 = 0 then ((corebanklaw50_live.f k).bind fun t203 => (some t203)) else (some false))) else (some false)))))) = some r := h
  clear h
  by_cases c4 : (l0.length : Int) > 100
  · rw [if_pos c4] at H
    have c4b0 : decide (100 < (l0.length : Int)) = true := decide_eq_true c4
    have c4b1 : decide (100 < l0.length) = true := decide_eq_true (by omega)
    clear c4
    replace H := Option.bind_eq_some_iff.mp H
    obtain ⟨t197, A50, H⟩ := H
    replace H : (some t197) = some r := H
    have A5 := Aside0.mk A50
    clear A50
    obtain rfl := Option.some.inj H
    go_enter Tryd.func5, Tryd.ntmps5
    go_wp2_with (first | ((with_reducible refine gate_callee (f := 10) rfl ?_); refine goesL_ (some 17) rfl rfl Tryd.func10 (by kernel_rfl) rfl #[] rfl (by (try simp only [List.map_toArray, List.map_cons, List.map_nil]); first | done | rfl | (simp only [List.length_drop, List.length_take]; rfl)) ?_; (with_reducible refine (corebanklaw50_live.calls k  t197 _ A5.out ?side2 ?side1).mono ?_); (case side1 => first | exact HT.out | rfl); (case side2 => exact Glob.at HG (by repeat (first | (with_reducible first | exact HB.out | apply below_alloc | apply pw_below_drewN | apply below_drew1) | exact HB.out))); rintro e w6 ⟨rfl, hb⟩; refine ⟨_, rfl, ?_⟩; have n0_ := Aside0.mk (below_step (by repeat (first | (with_reducible first | exact HB.out | apply below_alloc | apply pw_below_drewN | apply below_drew1) | exact HB.out)) hb); clear HB; have HB := n0_; clear n0_; (try clear hb); (try clear hb2); (try clear hk); (try clear hi)))
    go_ret
    exact ⟨by first | rfl | (simp [errW_none, errW_some] <;> rfl) | (simp [*, errW_none, errW_some] <;> rfl), by repeat (first | (with_reducible first | exact HB.out | apply below_alloc | apply pw_below_drewN | apply below_drew1) | exact HB.out)⟩
  · rw [if_neg c4] at H
    have c4b0 : decide (100 < (l0.length : Int)) = false := decide_eq_false c4
    have c4b1 : decide (100 < l0.length) = false := decide_eq_false (by omega)
    clear c4
    replace H := Option.bind_eq_some_iff.mp H
    obtain ⟨t198, A70, H⟩ := H
    replace H : ((corebankref50_Good.f a1).bind fun t201 => (if t201 = true then ((shard_Of.f k a2 a1).bind fun t204 => (if (t198.length : Int) = a1 then (if t204 < 0 then (corebanklaw50_ShardPartition.j0 k l0 a1 a2 t198 t204 0 true) else (corebanklaw50_ShardPartition.j0 k l0 a1 a2 t198 t204 0 (decide (t204 ≥ a1)))) else (corebanklaw50_ShardPartition.j0 k l0 a1 a2 t198 t204 0 true))) else (if (t198.length : Int) = 0 then ((shard_Of.f k a2 a1).bind fun t202 => (if t202 = 0 then ((corebanklaw50_live.f k).bind fun t203 => (some t203)) else (some false))) else (some false)))) = some r := H
    have A7 := Aside0.mk A70
    clear A70
    replace H := Option.bind_eq_some_iff.mp H
    obtain ⟨t201, A80, H⟩ := H
    replace H : (if t201 = true then ((shard_Of.f k a2 a1).bind fun t204 => (if (t198.length : Int) = a1 then (if t204 < 0 then (corebanklaw50_ShardPartition.j0 k l0 a1 a2 t198 t204 0 true) else (corebanklaw50_ShardPartition.j0 k l0 a1 a2 t198 t204 0 (decide (t204 ≥ a1)))) else (corebanklaw50_ShardPartition.j0 k l0 a1 a2 t198 t204 0 true))) else (if (t198.length : Int) = 0 then ((shard_Of.f k a2 a1).bind fun t202 => (if t202 = 0 then ((corebanklaw50_live.f k).bind fun t203 => (some t203)) else (some false))) else (some false))) = some r := H
    have A8 := Aside0.mk A80
    clear A80
    by_cases c9 : t201 = true
    · subst c9
      have H1 : ((shard_Of.f k a2 a1).bind fun t204 => (if (t198.length : Int) = a1 then (if t204 < 0 then (corebanklaw50_ShardPartition.j0 k l0 a1 a2 t198 t204 0 true) else (corebanklaw50_ShardPartition.j0 k l0 a1 a2 t198 t204 0 (decide (t204 ≥ a1)))) else (corebanklaw50_ShardPartition.j0 k l0 a1 a2 t198 t204 0 true))) = some r := by rw [if_pos rfl] at H; exact H
      clear H
      have H := H1
      clear H1
      replace H := Option.bind_eq_some_iff.mp H
      obtain ⟨t204, A100, H⟩ := H
      replace H : (if (t198.length : Int) = a1 then (if t204 < 0 then (corebanklaw50_ShardPartition.j0 k l0 a1 a2 t198 t204 0 true) else (corebanklaw50_ShardPartition.j0 k l0 a1 a2 t198 t204 0 (decide (t204 ≥ a1)))) else (corebanklaw50_ShardPartition.j0 k l0 a1 a2 t198 t204 0 true)) = some r := H
      have A10 := Aside0.mk A100
      clear A100
      have HC11 := Aside0.mk H
      clear H
      go_enter Tryd.func5, Tryd.ntmps5
      go_upto_region 7 with (first | ((with_reducible refine gate_callee (f := 11) rfl ?_); refine goesL_ (some 20) rfl rfl Tryd.func11 (by kernel_rfl) rfl #[.slice A0 l0.length c0, .int .i64 a1] rfl (by (try simp only [List.map_toArray, List.map_cons, List.map_nil]); first | done | rfl | (simp only [List.length_drop, List.length_take]; rfl)) ?_; (with_reducible refine (shard_Split.calls k _ _ l0 a1 t198 _ ?side1 ?side2 A7.out ?side3).mono ?_); (case side1 => repeat (first | exact HR0.out | (with_reducible refine Kd.C_alloc ?_ _) | (with_reducible refine Kd.C_drewN ?_ _) | (with_reducible refine Kd.C_drew ?_))); (case side2 => exact HC0.out); (case side3 => exact Glob.at HG (by repeat (first | (with_reducible first | exact HB.out | apply below_alloc | apply pw_below_drewN | apply below_drew1) | exact HB.out))); rintro e w12 ⟨v199, rfl, ho0, hb⟩; refine ⟨_, rfl, ?_⟩; have n0_ := Aside0.mk (Kd.S_lower ho0 (below_size (by repeat (first | (with_reducible first | exact HB.out | apply below_alloc | apply pw_below_drewN | apply below_drew1) | exact HB.out)))); have n1_ := Aside0.mk (below_step (by repeat (first | (with_reducible first | exact HB.out | apply below_alloc | apply pw_below_drewN | apply below_drew1) | exact HB.out)) hb); clear HB; have HO200 := n0_; have HB := n1_; clear n0_ n1_; (try clear hb); (try clear hb2); (try clear hk); (try clear hi); (try clear ho0)) | ((with_reducible refine gate_callee (f := 13) rfl ?_); refine goesL_ (some 22) rfl rfl Tryd.func13 (by kernel_rfl) rfl #[.int .i64 a1] rfl (by (try simp only [List.map_toArray, List.map_cons, List.map_nil]); first | done | rfl | (simp only [List.length_drop, List.length_take]; rfl)) ?_; (with_reducible refine (corebankref50_Good.calls a1 true _ A8.out).mono ?_); rintro e w' ⟨rfl, ⟨nd, rfl⟩⟩; refine ⟨_, rfl, ?_⟩) | ((with_reducible refine gate_callee (f := 8) rfl ?_); refine goesL_ (some 38) rfl rfl Tryd.func8 (by kernel_rfl) rfl #[.int .i64 a2, .int .i64 a1] rfl (by (try simp only [List.map_toArray, List.map_cons, List.map_nil]); first | done | rfl | (simp only [List.length_drop, List.length_take]; rfl)) ?_; (with_reducible refine (shard_Of.calls k a2 a1 t204 _ A10.out ?side1).mono ?_); (case side1 => exact Glob.at HG (by repeat (first | (with_reducible first | exact HB.out | apply below_alloc | apply pw_below_drewN | apply below_drew1) | exact HB.out))); rintro e w13 ⟨rfl, hb⟩; refine ⟨_, rfl, ?_⟩; have n0_ := Aside0.mk (Kd.S_below (by (with_reducible repeat (first | apply Kd.S_alloc | apply Kd.S_drewN | apply Kd.S_drew)); exact HO200.out) hb); have n1_ := Aside0.mk (below_step (by repeat (first | (with_reducible first | exact HB.out | apply below_alloc | apply pw_below_drewN | apply below_drew1) | exact HB.out)) hb); clear HO200; clear HB; have HO200 := n0_; have HB := n1_; clear n0_ n1_; (try clear hb); (try clear hb2); (try clear hk); (try clear hi)))
      (try simp only [Act.put, List.setIfInBounds_toArray, List.set_cons_zero, List.set_cons_succ])
      go_cut [51] (fun v51 wc => ∃ (kq : Nat) (x51_10 : Bool), v51 = .bool x51_10 ∧ Aside0 (corebanklaw50_ShardPartition.j0 kq l0 a1 a2 t198 t204 0 x51_10 = some r) ∧ Aside0 (kq ≤ k) ∧ Aside0 (Kd.S (Kd.slice 3 (Kd.int .i64)) 25 wc w.heap.size (fun _ => True) v199 t198) ∧ Aside0 (Below w.heap.size w wc))
      case first =>
        have H := HC11.out
        clear HC11
        by_cases c14 : (t198.length : Int) = a1
        · rw [if_pos c14] at H
          have c14b0 : ((t198.length : Int) == a1) = true := beq_iff_eq.mpr c14
          have c14b1 : ((t198.length : Int) != a1) = false := bne_eq_false_iff_eq.mpr c14
          clear c14
          (first | rw [c14b0] | (simp only [i64_w, i32_w]; rw [c14b0]) | skip)
          by_cases c15 : t204 < 0
          · rw [if_pos c15] at H
            have c15b0 : decide (t204 < 0) = true := decide_eq_true c15
            clear c15
            have H' := Aside0.mk H
            clear H
            obtain ⟨Ao16, co16, eo16⟩ := Kd.S_slice HO200.out
            subst eo16
            go_wp2
            go_meet
            case rel => exact ⟨_, (true), (by first | rfl | (simp; done) | (simp [*]; done)), H', ⟨by first | omega | exact Nat.le_refl _⟩, ⟨by (with_reducible repeat (first | apply Kd.S_alloc | apply Kd.S_drewN | apply Kd.S_drew)); exact HO200.out⟩, ⟨by repeat (first | (with_reducible first | exact HB.out | apply below_alloc | apply pw_below_drewN | apply below_drew1) | exact HB.out)⟩⟩
          · rw [if_neg c15] at H
            have c15b0 : decide (t204 < 0) = false := decide_eq_false c15
            clear c15
            have H' := Aside0.mk H
            clear H
            obtain ⟨Ao17, co17, eo17⟩ := Kd.S_slice HO200.out
            subst eo17
            go_wp2
            go_meet
            case rel => exact ⟨_, (decide (t204 ≥ a1)), (by first | rfl | (simp; done) | (simp [*]; done)), H', ⟨by first | omega | exact Nat.le_refl _⟩, ⟨by (with_reducible repeat (first | apply Kd.S_alloc | apply Kd.S_drewN | apply Kd.S_drew)); exact HO200.out⟩, ⟨by repeat (first | (with_reducible first | exact HB.out | apply below_alloc | apply pw_below_drewN | apply below_drew1) | exact HB.out)⟩⟩
        · rw [if_neg c14] at H
          have c14b0 : ((t198.length : Int) == a1) = false := beq_eq_false_iff_ne.mpr c14
          have c14b1 : ((t198.length : Int) != a1) = true := bne_iff_ne.mpr c14
          (first | rw [c14b0] | (simp only [i64_w, i32_w]; rw [c14b0]) | skip)
          have H' := Aside0.mk H
          clear H
          obtain ⟨Ao18, co18, eo18⟩ := Kd.S_slice HO200.out
          subst eo18
          go_wp2
          go_meet
          case rel => exact ⟨_, (true), (by first | rfl | (simp; done) | (simp [*]; done)), H', ⟨by first | omega | exact Nat.le_refl _⟩, ⟨by (with_reducible repeat (first | apply Kd.S_alloc | apply Kd.S_drewN | apply Kd.S_drew)); exact HO200.out⟩, ⟨by repeat (first | (with_reducible first | exact HB.out | apply below_alloc | apply pw_below_drewN | apply below_drew1) | exact HB.out)⟩⟩
      case rest =>
        clear HC11
        try clear c1
        try clear p2
        try clear c4
        try clear c4b0
        try clear c4b1
        try clear c5
        try clear c8
        try clear c9
        try clear c10
        try clear c11
        try clear c13
        try clear c14
        try clear c14b0
        try clear c14b1
        try clear c15
        try clear c15b0
        obtain ⟨kq, x51_10, rfl, HA, HJ10, HO_7, HB⟩ := hcut
        cases kq with
        | zero => exact absurd HA.out (by simp [corebanklaw50_ShardPartition.j0])
        | succ kj10 =>
          have H := HA.out
          clear HA
          simp only [corebanklaw50_ShardPartition.j0] at H
          by_cases c19 : x51_10 = true
          · subst c19
            have H1 : (some false) = some r := by rw [if_pos rfl] at H; exact H
            clear H
            have H := H1
            clear H1
            exact absurd ((Option.some.inj H).trans HT.out) (by simp)
          · replace c19 := Bool.eq_false_iff.mpr c19
            subst c19
            have H1 : (corebanklaw50_ShardPartition.l0 kj10 l0 a1 a2 t198 t204 0 0) = some r := by rw [if_neg (show ¬ (false = true) by decide)] at H; exact H
            clear H
            have H := H1
            clear H1
            have H' := Aside0.mk H
            clear H
            go_wp2
            go_loopg [9, 10] kj10 (fun kq v9 v10 w' => ∃ (x9_2 : Int) (x10_2 : Int), v9 = .int .i64 x9_2 ∧ v10 = .int .i64 x10_2 ∧ Aside0 (corebanklaw50_ShardPartition.l0 kq l0 a1 a2 t198 t204 x9_2 x10_2 = some r) ∧ Aside0 (kq ≤ kj10) ∧ Aside0 (Kd.S (Kd.slice 3 (Kd.int .i64)) 25 w' w.heap.size (fun _ => True) v199 t198) ∧ Aside0 (Below w.heap.size w w'))
            case atStart => exact ⟨(0), (0), (by first | rfl | (simp; done) | (simp [*]; done)), (by first | rfl | (simp; done) | (simp [*]; done)), H', ⟨Nat.le_refl _⟩, ⟨by (with_reducible repeat (first | apply Kd.S_alloc | apply Kd.S_drewN | apply Kd.S_drew)); exact HO_7.out⟩, ⟨by repeat (first | (with_reducible first | exact HB.out | apply below_alloc | apply pw_below_drewN | apply below_drew1) | exact HB.out)⟩⟩
            case round =>
              clear H'
              try clear c1
              try clear p2
              try clear c4
              try clear c4b0
              try clear c4b1
              try clear c5
              try clear c8
              try clear c9
              try clear c10
              try clear c11
              try clear c13
              try clear c14
              try clear c14b0
              try clear c14b1
              try clear c15
              try clear c15b0
              try clear c19
              try clear p2
              obtain ⟨x9_2, x10_2, rfl, rfl, HA, HK2, HO_7, HB⟩ := hrel
              cases gk with
              | zero => exact absurd HA.out (by simp [corebanklaw50_ShardPartition.l0])
              | succ k2 =>
                have H := HA.out
                clear HA
                simp only [corebanklaw50_ShardPartition.l0] at H
                by_cases c20 : x10_2 < (l0.length : Int)
                · rw [if_pos c20] at H
                  have c20b0 : decide (x10_2 < (l0.length : Int)) = true := decide_eq_true c20
                  clear c20
                  by_cases c21 : 0 ≤ x10_2
                  · rw [if_pos c21] at H
                    have c21b0 : decide (0 ≤ x10_2) = true := decide_eq_true c21
                    clear c21
                    by_cases c22 : (rd l0 x10_2) = a2
                    · rw [if_pos c22] at H
                      have c22b0 : ((rd l0 x10_2) == a2) = true := beq_iff_eq.mpr c22
                      have c22b1 : ((rd l0 x10_2) != a2) = false := bne_eq_false_iff_eq.mpr c22
                      clear c22
                      have H' := Aside0.mk H
                      clear H
                      have p205 : 0 ≤ (x10_2 : Int) := of_decide_eq_true (by first | (with_reducible assumption) | assumption)
                      have q205 : x10_2 < (l0.length : Int) := of_decide_eq_true (by first | (with_reducible assumption) | assumption)
                      obtain ⟨ad205, e205, hx205_0⟩ := Kd.at_int HR0.out x10_2 p205 q205
                      cases e205
                      replace hx205_0 := (HB.out.cell (World.block_lt_of_cell? w _ hx205_0)).trans hx205_0
                      replace p205 := eq_true p205
                      replace q205 := eq_true q205
                      go_wp2
                      go_roundg k2
                      case measure => have := HJ10.out; have := HK2.out; omega
                      case rel => exact ⟨(wrap64 (x9_2 + 1)), (wrap64 (x10_2 + 1)), (by first | rfl | (simp; done) | (simp [*]; done)), (by first | rfl | (simp; done) | (simp [*]; done)), H', ⟨by have := HJ10.out; have := HK2.out; omega⟩, ⟨by (with_reducible repeat (first | apply Kd.S_alloc | apply Kd.S_drewN | apply Kd.S_drew)); exact HO_7.out⟩, ⟨by repeat (first | (with_reducible first | exact HB.out | apply below_alloc | apply pw_below_drewN | apply below_drew1) | exact HB.out)⟩⟩
                    · rw [if_neg c22] at H
                      have c22b0 : ((rd l0 x10_2) == a2) = false := beq_eq_false_iff_ne.mpr c22
                      have c22b1 : ((rd l0 x10_2) != a2) = true := bne_iff_ne.mpr c22
                      have H' := Aside0.mk H
                      clear H
                      have p205 : 0 ≤ (x10_2 : Int) := of_decide_eq_true (by first | (with_reducible assumption) | assumption)
                      have q205 : x10_2 < (l0.length : Int) := of_decide_eq_true (by first | (with_reducible assumption) | assumption)
                      obtain ⟨ad205, e205, hx205_0⟩ := Kd.at_int HR0.out x10_2 p205 q205
                      cases e205
                      replace hx205_0 := (HB.out.cell (World.block_lt_of_cell? w _ hx205_0)).trans hx205_0
                      replace p205 := eq_true p205
                      replace q205 := eq_true q205
                      go_wp2
                      go_roundg k2
                      case measure => have := HJ10.out; have := HK2.out; omega
                      case rel => exact ⟨(x9_2), (wrap64 (x10_2 + 1)), (by first | rfl | (simp; done) | (simp [*]; done)), (by first | rfl | (simp; done) | (simp [*]; done)), H', ⟨by have := HJ10.out; have := HK2.out; omega⟩, ⟨by (with_reducible repeat (first | apply Kd.S_alloc | apply Kd.S_drewN | apply Kd.S_drew)); exact HO_7.out⟩, ⟨by repeat (first | (with_reducible first | exact HB.out | apply below_alloc | apply pw_below_drewN | apply below_drew1) | exact HB.out)⟩⟩
                  · rw [if_neg c21] at H
                    exact absurd H (by simp)
                · rw [if_neg c20] at H
                  have c20b0 : decide (x10_2 < (l0.length : Int)) = false := decide_eq_false c20
                  clear c20
                  have H' := Aside0.mk H
                  clear H
                  go_wp2
                  go_loopg [9, 11, 12] k2 (fun kq v9 v11 v12 w' => ∃ (x9_3 : Int) (x11_3 : Int) (x12_3 : Int), v9 = .int .i64 x9_3 ∧ v11 = .int .i64 x11_3 ∧ v12 = .int .i64 x12_3 ∧ Aside0 (corebanklaw50_ShardPartition.l1 kq l0 a1 a2 t198 t204 x9_3 x11_3 x12_3 = some r) ∧ Aside0 (kq ≤ k2) ∧ Aside0 (Kd.S (Kd.slice 3 (Kd.int .i64)) 25 w' w.heap.size (fun _ => True) v199 t198) ∧ Aside0 (Below w.heap.size w w'))
                  case atStart => exact ⟨(x9_2), (0), (0), (by first | rfl | (simp; done) | (simp [*]; done)), (by first | rfl | (simp; done) | (simp [*]; done)), (by first | rfl | (simp; done) | (simp [*]; done)), H', ⟨Nat.le_refl _⟩, ⟨by (with_reducible repeat (first | apply Kd.S_alloc | apply Kd.S_drewN | apply Kd.S_drew)); exact HO_7.out⟩, ⟨by repeat (first | (with_reducible first | exact HB.out | apply below_alloc | apply pw_below_drewN | apply below_drew1) | exact HB.out)⟩⟩
                  case round =>
                    clear H'
                    try clear c1
                    try clear c2
                    try clear p2
                    try clear q2
                    try clear hx2
                    try clear c4
                    try clear c4b0
                    try clear c4b1
                    try clear c5
                    try clear p6
                    try clear c8
                    try clear c9
                    try clear c10
                    try clear c11
                    try clear c13
                    try clear c14
                    try clear c14b0
                    try clear c14b1
                    try clear c15
                    try clear c15b0
                    try clear c19
                    try clear c20
                    try clear c20b0
                    try clear p20
                    try clear q20
                    try clear hx20
                    try clear c21
                    try clear c21b0
                    try clear c22
                    try clear c22b0
                    try clear c22b1
                    try clear hx205_0
                    try clear p2
                    try clear p205
                    try clear q205
                    obtain ⟨x9_3, x11_3, x12_3, rfl, rfl, rfl, HA, HK3, HO_7, HB⟩ := hrel
                    cases gk with
                    | zero => exact absurd HA.out (by simp [corebanklaw50_ShardPartition.l1])
                    | succ k3 =>
                      have H := HA.out
                      clear HA
                      simp only [corebanklaw50_ShardPartition.l1] at H
                      by_cases c23 : x12_3 < a1
                      · rw [if_pos c23] at H
                        have c23b0 : decide (x12_3 < a1) = true := decide_eq_true c23
                        clear c23
                        by_cases c24 : 0 ≤ x12_3
                        · rw [if_pos c24] at H
                          have c24b0 : decide (0 ≤ x12_3) = true := decide_eq_true c24
                          clear c24
                          by_cases c25 : x12_3 < (t198.length : Int)
                          · rw [if_pos c25] at H
                            have c25b0 : decide (x12_3 < (t198.length : Int)) = true := decide_eq_true c25
                            clear c25
                            have H' := Aside0.mk H
                            clear H
                            obtain ⟨Ao26, co26, eo26⟩ := Kd.S_slice HO_7.out
                            subst eo26
                            have p207 : 0 ≤ (x12_3 : Int) := of_decide_eq_true (by first | (with_reducible assumption) | assumption)
                            have q207 : x12_3 < (t198.length : Int) := of_decide_eq_true (by first | (with_reducible assumption) | assumption)
                            obtain ⟨ad207, A207_0, c207_0, e207, hx207_0, hl207_0, hi207_0⟩ := at_L2 (Kd.S_reads' HO_7.out).2.2 x12_3 p207 q207
                            cases e207
                            obtain ⟨ce207, hce207, hMe207, hcc207⟩ := Kd.S_get HO_7.out [] x12_3 p207 (by first | exact q207 | exact of_decide_eq_true (by first | (with_reducible assumption) | assumption) | (have e_ := (Kd.S_reads' HO_7.out).1; omega))
                            obtain ⟨ve207_0, rfl, ge207_0⟩ := hMe207
                            have hv207_0 := hcc207 0 _ rfl
                            rw [Nat.add_zero, show ((Kd.slice 3 (Kd.int .i64))).sz = 1 from rfl, Nat.mul_one] at hv207_0
                            replace hv207_0 := Option.some.inj (hv207_0.symm.trans hx207_0)
                            rw [hv207_0] at ge207_0
                            have HL207_0 := Aside0.mk (show Kd.R (Kd.int .i64) 3 _ _ _ _ (rd_L2 t198 x12_3) from ge207_0)
                            clear hv207_0 ge207_0
                            clear hcc207 hce207
                            have HR207_0 := Aside0.mk hi207_0
                            have HC207_0 := Aside0.mk hl207_0
                            clear hi207_0 hl207_0
                            replace p207 := eq_true p207
                            replace q207 := eq_true q207
                            go_wp2
                            go_loopg [9, 13] k3 (fun kq v9 v13 w' => ∃ (x9_4 : Int) (x13_4 : Int), v9 = .int .i64 x9_4 ∧ v13 = .int .i64 x13_4 ∧ Aside0 (corebanklaw50_ShardPartition.l2 kq l0 a1 a2 t198 t204 x9_4 (wrap64 (x11_3 + ((rd_L2 t198 x12_3).length : Int))) x12_3 x13_4 = some r) ∧ Aside0 (kq ≤ k3) ∧ Aside0 (Kd.S (Kd.slice 3 (Kd.int .i64)) 25 w' w.heap.size (fun _ => True) (.slice (some ad207) t198.length co26) t198) ∧ Aside0 (Kd.C (Kd.int .i64) w' A207_0 (rd_L2 t198 x12_3).length (rd_L2 t198 x12_3)) ∧ Aside0 (Below w.heap.size w w'))
                            case atStart => exact ⟨(x9_3), (0), (by first | rfl | (simp; done) | (simp [*]; done)), (by first | rfl | (simp; done) | (simp [*]; done)), H', ⟨Nat.le_refl _⟩, ⟨by (with_reducible repeat (first | apply Kd.S_alloc | apply Kd.S_drewN | apply Kd.S_drew)); exact HO_7.out⟩, ⟨by repeat (first | (with_reducible exact HR207_0.out) | (with_reducible refine Kd.C_alloc ?_ _) | (with_reducible refine Kd.C_drewN ?_ _) | (with_reducible refine Kd.C_drew ?_) | exact HR207_0.out)⟩, ⟨by repeat (first | (with_reducible first | exact HB.out | apply below_alloc | apply pw_below_drewN | apply below_drew1) | exact HB.out)⟩⟩
                            case round =>
                              clear H'
                              try clear c1
                              try clear c2
                              try clear p2
                              try clear q2
                              try clear hx2
                              try clear c4
                              try clear c4b0
                              try clear c4b1
                              try clear c5
                              try clear p6
                              try clear c8
                              try clear c9
                              try clear c10
                              try clear c11
                              try clear c13
                              try clear c14
                              try clear c14b0
                              try clear c14b1
                              try clear c15
                              try clear c15b0
                              try clear c19
                              try clear c20
                              try clear c20b0
                              try clear p20
                              try clear q20
                              try clear hx20
                              try clear c21
                              try clear c21b0
                              try clear c22
                              try clear c22b0
                              try clear c22b1
                              try clear c23
                              try clear c23b0
                              try clear c24
                              try clear c24b0
                              try clear c25
                              try clear c25b0
                              try clear hx205_0
                              try clear hx207_0
                              try clear p2
                              try clear p20
                              try clear p205
                              try clear p207
                              try clear p6
                              try clear q2
                              try clear q20
                              try clear q205
                              try clear q207
                              obtain ⟨x9_4, x13_4, rfl, rfl, HA, HK4, HO_7, HR207_0, HB⟩ := hrel
                              cases gk with
                              | zero => exact absurd HA.out (by simp [corebanklaw50_ShardPartition.l2])
                              | succ k4 =>
                                have H := HA.out
                                clear HA
                                simp only [corebanklaw50_ShardPartition.l2] at H
                                by_cases c27 : 0 ≤ x12_3
                                · rw [if_pos c27] at H
                                  have c27b0 : decide (0 ≤ x12_3) = true := decide_eq_true c27
                                  clear c27
                                  by_cases c28 : x12_3 < (t198.length : Int)
                                  · rw [if_pos c28] at H
                                    have c28b0 : decide (x12_3 < (t198.length : Int)) = true := decide_eq_true c28
                                    clear c28
                                    by_cases c29 : x13_4 < ((rd_L2 t198 x12_3).length : Int)
                                    · rw [if_pos c29] at H
                                      have c29b0 : decide (x13_4 < ((rd_L2 t198 x12_3).length : Int)) = true := decide_eq_true c29
                                      clear c29
                                      have HC30 := Aside0.mk H
                                      clear H
                                      have p208 : 0 ≤ (x12_3 : Int) := of_decide_eq_true (by first | (with_reducible assumption) | assumption)
                                      have q208 : x12_3 < (t198.length : Int) := of_decide_eq_true (by first | (with_reducible assumption) | assumption)
                                      obtain ⟨ad208, A208_0, c208_0, e208, hx208_0, hl208_0, hi208_0⟩ := at_L2 (Kd.S_reads' HO_7.out).2.2 x12_3 p208 q208
                                      obtain rfl : ad207 = ad208 := (by injection e208)
                                      obtain ⟨ce208, hce208, hMe208, hcc208⟩ := Kd.S_get HO_7.out [] x12_3 p208 (by first | exact q208 | exact of_decide_eq_true (by first | (with_reducible assumption) | assumption) | (have e_ := (Kd.S_reads' HO_7.out).1; omega))
                                      obtain ⟨ve208_0, rfl, ge208_0⟩ := hMe208
                                      have hv208_0 := hcc208 0 _ rfl
                                      rw [Nat.add_zero, show ((Kd.slice 3 (Kd.int .i64))).sz = 1 from rfl, Nat.mul_one] at hv208_0
                                      replace hv208_0 := Option.some.inj (hv208_0.symm.trans hx208_0)
                                      rw [hv208_0] at ge208_0
                                      have HL208_0 := Aside0.mk (show Kd.R (Kd.int .i64) 3 _ _ _ _ (rd_L2 t198 x12_3) from ge208_0)
                                      clear hv208_0 ge208_0
                                      clear hcc208 hce208
                                      have HR208_0 := Aside0.mk hi208_0
                                      have HC208_0 := Aside0.mk hl208_0
                                      clear hi208_0 hl208_0
                                      replace p208 := eq_true p208
                                      replace q208 := eq_true q208
                                      go_upto_region 22 with (fail)
                                      go_cut [100] (fun v100 wc => ∃ (kq : Nat) (x100_29 : Bool), v100 = .bool x100_29 ∧ Aside0 (corebanklaw50_ShardPartition.j4 kq l0 a1 a2 t198 t204 x9_4 (wrap64 (x11_3 + ((rd_L2 t198 x12_3).length : Int))) x12_3 x13_4 x100_29 = some r) ∧ Aside0 (kq ≤ k4) ∧ Aside0 (Kd.S (Kd.slice 3 (Kd.int .i64)) 25 wc w.heap.size (fun _ => True) (.slice (some ad207) t198.length co26) t198) ∧ Aside0 (Kd.C (Kd.int .i64) wc A207_0 (rd_L2 t198 x12_3).length (rd_L2 t198 x12_3)) ∧ Aside0 (Kd.C (Kd.int .i64) wc A208_0 (rd_L2 t198 x12_3).length (rd_L2 t198 x12_3)) ∧ Aside0 (Below w.heap.size w wc))
                                      case first =>
                                        have H := HC30.out
                                        clear HC30
                                        by_cases c31 : 0 ≤ x13_4
                                        · rw [if_pos c31] at H
                                          have c31b0 : decide (0 ≤ x13_4) = true := decide_eq_true c31
                                          clear c31
                                          (first | rw [c31b0] | (simp only [i64_w, i32_w]; rw [c31b0]) | skip)
                                          by_cases c32 : (rd (rd_L2 t198 x12_3) x13_4) = a2
                                          · rw [if_pos c32] at H
                                            have c32b0 : ((rd (rd_L2 t198 x12_3) x13_4) == a2) = true := beq_iff_eq.mpr c32
                                            have c32b1 : ((rd (rd_L2 t198 x12_3) x13_4) != a2) = false := bne_eq_false_iff_eq.mpr c32
                                            clear c32
                                            have H' := Aside0.mk H
                                            clear H
                                            have p209 : 0 ≤ (x12_3 : Int) := of_decide_eq_true (by first | (with_reducible assumption) | assumption)
                                            have q209 : x12_3 < (t198.length : Int) := of_decide_eq_true (by first | (with_reducible assumption) | assumption)
                                            try clear hx207_0
                                            try clear hx208_0
                                            obtain ⟨ad209, A209_0, c209_0, e209, hx209_0, hl209_0, hi209_0⟩ := at_L2 (Kd.S_reads' HO_7.out).2.2 x12_3 p209 q209
                                            obtain rfl : ad207 = ad209 := (by injection e209)
                                            obtain ⟨ce209, hce209, hMe209, hcc209⟩ := Kd.S_get HO_7.out [] x12_3 p209 (by first | exact q209 | exact of_decide_eq_true (by first | (with_reducible assumption) | assumption) | (have e_ := (Kd.S_reads' HO_7.out).1; omega))
                                            obtain ⟨ve209_0, rfl, ge209_0⟩ := hMe209
                                            have hv209_0 := hcc209 0 _ rfl
                                            rw [Nat.add_zero, show ((Kd.slice 3 (Kd.int .i64))).sz = 1 from rfl, Nat.mul_one] at hv209_0
                                            replace hv209_0 := Option.some.inj (hv209_0.symm.trans hx209_0)
                                            rw [hv209_0] at ge209_0
                                            have HL209_0 := Aside0.mk (show Kd.R (Kd.int .i64) 3 _ _ _ _ (rd_L2 t198 x12_3) from ge209_0)
                                            clear hv209_0 ge209_0
                                            clear hcc209 hce209
                                            have HR209_0 := Aside0.mk hi209_0
                                            have HC209_0 := Aside0.mk hl209_0
                                            clear hi209_0 hl209_0
                                            replace p209 := eq_true p209
                                            replace q209 := eq_true q209
                                            have p210 : 0 ≤ (x13_4 : Int) := of_decide_eq_true (by first | (with_reducible assumption) | assumption)
                                            have q210 : x13_4 < ((rd_L2 t198 x12_3).length : Int) := of_decide_eq_true (by first | (with_reducible assumption) | assumption)
                                            obtain ⟨ad210, e210, hx210_0⟩ := Kd.at_int (by repeat (first | (with_reducible exact HR209_0.out) | (with_reducible refine Kd.C_alloc ?_ _) | (with_reducible refine Kd.C_drewN ?_ _) | (with_reducible refine Kd.C_drew ?_) | exact HR209_0.out)) x13_4 p210 q210
                                            cases e210
                                            replace p210 := eq_true p210
                                            replace q210 := eq_true q210
                                            go_wp2
                                            go_meet
                                            case rel => exact ⟨_, ((x12_3 != t204)), (by first | rfl | (simp; done) | (simp [*]; done)), H', ⟨by have := HJ10.out; have := HK2.out; have := HK3.out; have := HK4.out; first | omega | exact Nat.le_refl _⟩, ⟨by (with_reducible repeat (first | apply Kd.S_alloc | apply Kd.S_drewN | apply Kd.S_drew)); exact HO_7.out⟩, ⟨by repeat (first | (with_reducible exact HR207_0.out) | (with_reducible refine Kd.C_alloc ?_ _) | (with_reducible refine Kd.C_drewN ?_ _) | (with_reducible refine Kd.C_drew ?_) | exact HR207_0.out)⟩, ⟨by repeat (first | (with_reducible exact HR208_0.out) | (with_reducible refine Kd.C_alloc ?_ _) | (with_reducible refine Kd.C_drewN ?_ _) | (with_reducible refine Kd.C_drew ?_) | exact HR208_0.out)⟩, ⟨by repeat (first | (with_reducible first | exact HB.out | apply below_alloc | apply pw_below_drewN | apply below_drew1) | exact HB.out)⟩⟩
                                          · rw [if_neg c32] at H
                                            have c32b0 : ((rd (rd_L2 t198 x12_3) x13_4) == a2) = false := beq_eq_false_iff_ne.mpr c32
                                            have c32b1 : ((rd (rd_L2 t198 x12_3) x13_4) != a2) = true := bne_iff_ne.mpr c32
                                            have H' := Aside0.mk H
                                            clear H
                                            have p209 : 0 ≤ (x12_3 : Int) := of_decide_eq_true (by first | (with_reducible assumption) | assumption)
                                            have q209 : x12_3 < (t198.length : Int) := of_decide_eq_true (by first | (with_reducible assumption) | assumption)
                                            try clear hx207_0
                                            try clear hx208_0
                                            obtain ⟨ad209, A209_0, c209_0, e209, hx209_0, hl209_0, hi209_0⟩ := at_L2 (Kd.S_reads' HO_7.out).2.2 x12_3 p209 q209
                                            obtain rfl : ad207 = ad209 := (by injection e209)
                                            obtain ⟨ce209, hce209, hMe209, hcc209⟩ := Kd.S_get HO_7.out [] x12_3 p209 (by first | exact q209 | exact of_decide_eq_true (by first | (with_reducible assumption) | assumption) | (have e_ := (Kd.S_reads' HO_7.out).1; omega))
                                            obtain ⟨ve209_0, rfl, ge209_0⟩ := hMe209
                                            have hv209_0 := hcc209 0 _ rfl
                                            rw [Nat.add_zero, show ((Kd.slice 3 (Kd.int .i64))).sz = 1 from rfl, Nat.mul_one] at hv209_0
                                            replace hv209_0 := Option.some.inj (hv209_0.symm.trans hx209_0)
                                            rw [hv209_0] at ge209_0
                                            have HL209_0 := Aside0.mk (show Kd.R (Kd.int .i64) 3 _ _ _ _ (rd_L2 t198 x12_3) from ge209_0)
                                            clear hv209_0 ge209_0
                                            clear hcc209 hce209
                                            have HR209_0 := Aside0.mk hi209_0
                                            have HC209_0 := Aside0.mk hl209_0
                                            clear hi209_0 hl209_0
                                            replace p209 := eq_true p209
                                            replace q209 := eq_true q209
                                            have p210 : 0 ≤ (x13_4 : Int) := of_decide_eq_true (by first | (with_reducible assumption) | assumption)
                                            have q210 : x13_4 < ((rd_L2 t198 x12_3).length : Int) := of_decide_eq_true (by first | (with_reducible assumption) | assumption)
                                            obtain ⟨ad210, e210, hx210_0⟩ := Kd.at_int (by repeat (first | (with_reducible exact HR209_0.out) | (with_reducible refine Kd.C_alloc ?_ _) | (with_reducible refine Kd.C_drewN ?_ _) | (with_reducible refine Kd.C_drew ?_) | exact HR209_0.out)) x13_4 p210 q210
                                            cases e210
                                            replace p210 := eq_true p210
                                            replace q210 := eq_true q210
                                            go_wp2
                                            go_meet
                                            case rel => exact ⟨_, (false), (by first | rfl | (simp; done) | (simp [*]; done)), H', ⟨by have := HJ10.out; have := HK2.out; have := HK3.out; have := HK4.out; first | omega | exact Nat.le_refl _⟩, ⟨by (with_reducible repeat (first | apply Kd.S_alloc | apply Kd.S_drewN | apply Kd.S_drew)); exact HO_7.out⟩, ⟨by repeat (first | (with_reducible exact HR207_0.out) | (with_reducible refine Kd.C_alloc ?_ _) | (with_reducible refine Kd.C_drewN ?_ _) | (with_reducible refine Kd.C_drew ?_) | exact HR207_0.out)⟩, ⟨by repeat (first | (with_reducible exact HR208_0.out) | (with_reducible refine Kd.C_alloc ?_ _) | (with_reducible refine Kd.C_drewN ?_ _) | (with_reducible refine Kd.C_drew ?_) | exact HR208_0.out)⟩, ⟨by repeat (first | (with_reducible first | exact HB.out | apply below_alloc | apply pw_below_drewN | apply below_drew1) | exact HB.out)⟩⟩
                                        · rw [if_neg c31] at H
                                          exact absurd H (by simp)
                                      case rest =>
                                        clear HC30
                                        try clear c1
                                        try clear c2
                                        try clear p2
                                        try clear q2
                                        try clear hx2
                                        try clear c3
                                        try clear c4
                                        try clear c4b0
                                        try clear c4b1
                                        try clear c5
                                        try clear p6
                                        try clear c8
                                        try clear c9
                                        try clear c10
                                        try clear c11
                                        try clear c13
                                        try clear c14
                                        try clear c14b0
                                        try clear c14b1
                                        try clear c15
                                        try clear c15b0
                                        try clear c19
                                        try clear c20
                                        try clear c20b0
                                        try clear p20
                                        try clear q20
                                        try clear hx20
                                        try clear c21
                                        try clear c21b0
                                        try clear p21
                                        try clear q21
                                        try clear hx21
                                        try clear c22
                                        try clear c22b0
                                        try clear c22b1
                                        try clear c23
                                        try clear c23b0
                                        try clear c24
                                        try clear c24b0
                                        try clear c25
                                        try clear c25b0
                                        try clear c27
                                        try clear c27b0
                                        try clear c28
                                        try clear c28b0
                                        try clear c29
                                        try clear c29b0
                                        try clear c31
                                        try clear c31b0
                                        try clear c32
                                        try clear c32b0
                                        try clear c32b1
                                        try clear hx205_0
                                        try clear hx207_0
                                        try clear hx208_0
                                        try clear hx209_0
                                        try clear hx210_0
                                        try clear p2
                                        try clear p20
                                        try clear p205
                                        try clear p207
                                        try clear p208
                                        try clear p209
                                        try clear p210
                                        try clear p6
                                        try clear q2
                                        try clear q20
                                        try clear q205
                                        try clear q207
                                        try clear q208
                                        try clear q209
                                        try clear q210
                                        obtain ⟨kq, x100_29, rfl, HA, HJ29, HO_7, HR207_0, HR208_0, HB⟩ := hcut
                                        cases kq with
                                        | zero => exact absurd HA.out (by simp [corebanklaw50_ShardPartition.j4])
                                        | succ kj29 =>
                                          have H := HA.out
                                          clear HA
                                          simp only [corebanklaw50_ShardPartition.j4] at H
                                          by_cases c33 : x100_29 = true
                                          · subst c33
                                            have H1 : (some false) = some r := by rw [if_pos rfl] at H; exact H
                                            clear H
                                            have H := H1
                                            clear H1
                                            exact absurd ((Option.some.inj H).trans HT.out) (by simp)
                                          · replace c33 := Bool.eq_false_iff.mpr c33
                                            subst c33
                                            have H1 : (if 0 ≤ x12_3 then (if x12_3 < (t198.length : Int) then (if 0 ≤ x13_4 then (if x13_4 < ((rd_L2 t198 x12_3).length : Int) then (if (rd (rd_L2 t198 x12_3) x13_4) = a2 then (corebanklaw50_ShardPartition.l2 kj29 l0 a1 a2 t198 t204 (wrap64 (x9_4 - 1)) (wrap64 (x11_3 + ((rd_L2 t198 x12_3).length : Int))) x12_3 (wrap64 (x13_4 + 1))) else (corebanklaw50_ShardPartition.l2 kj29 l0 a1 a2 t198 t204 x9_4 (wrap64 (x11_3 + ((rd_L2 t198 x12_3).length : Int))) x12_3 (wrap64 (x13_4 + 1)))) else (none)) else (none)) else (none)) else (none)) = some r := by rw [if_neg (show ¬ (false = true) by decide)] at H; exact H
                                            clear H
                                            have H := H1
                                            clear H1
                                            by_cases c34 : 0 ≤ x12_3
                                            · rw [if_pos c34] at H
                                              have c34b0 : decide (0 ≤ x12_3) = true := decide_eq_true c34
                                              clear c34
                                              by_cases c35 : x12_3 < (t198.length : Int)
                                              · rw [if_pos c35] at H
                                                have c35b0 : decide (x12_3 < (t198.length : Int)) = true := decide_eq_true c35
                                                clear c35
                                                by_cases c36 : 0 ≤ x13_4
                                                · rw [if_pos c36] at H
                                                  have c36b0 : decide (0 ≤ x13_4) = true := decide_eq_true c36
                                                  clear c36
                                                  by_cases c37 : x13_4 < ((rd_L2 t198 x12_3).length : Int)
                                                  · rw [if_pos c37] at H
                                                    have c37b0 : decide (x13_4 < ((rd_L2 t198 x12_3).length : Int)) = true := decide_eq_true c37
                                                    clear c37
                                                    by_cases c38 : (rd (rd_L2 t198 x12_3) x13_4) = a2
                                                    · rw [if_pos c38] at H
                                                      have c38b0 : ((rd (rd_L2 t198 x12_3) x13_4) == a2) = true := beq_iff_eq.mpr c38
                                                      have c38b1 : ((rd (rd_L2 t198 x12_3) x13_4) != a2) = false := bne_eq_false_iff_eq.mpr c38
                                                      clear c38
                                                      have H' := Aside0.mk H
                                                      clear H
                                                      have p211 : 0 ≤ (x12_3 : Int) := of_decide_eq_true (by first | (with_reducible assumption) | assumption)
                                                      have q211 : x12_3 < (t198.length : Int) := of_decide_eq_true (by first | (with_reducible assumption) | assumption)
                                                      try clear hx207_0
                                                      try clear hx208_0
                                                      obtain ⟨ad211, A211_0, c211_0, e211, hx211_0, hl211_0, hi211_0⟩ := at_L2 (Kd.S_reads' HO_7.out).2.2 x12_3 p211 q211
                                                      obtain rfl : ad207 = ad211 := (by injection e211)
                                                      obtain ⟨ce211, hce211, hMe211, hcc211⟩ := Kd.S_get HO_7.out [] x12_3 p211 (by first | exact q211 | exact of_decide_eq_true (by first | (with_reducible assumption) | assumption) | (have e_ := (Kd.S_reads' HO_7.out).1; omega))
                                                      obtain ⟨ve211_0, rfl, ge211_0⟩ := hMe211
                                                      have hv211_0 := hcc211 0 _ rfl
                                                      rw [Nat.add_zero, show ((Kd.slice 3 (Kd.int .i64))).sz = 1 from rfl, Nat.mul_one] at hv211_0
                                                      replace hv211_0 := Option.some.inj (hv211_0.symm.trans hx211_0)
                                                      rw [hv211_0] at ge211_0
                                                      have HL211_0 := Aside0.mk (show Kd.R (Kd.int .i64) 3 _ _ _ _ (rd_L2 t198 x12_3) from ge211_0)
                                                      clear hv211_0 ge211_0
                                                      clear hcc211 hce211
                                                      have HR211_0 := Aside0.mk hi211_0
                                                      have HC211_0 := Aside0.mk hl211_0
                                                      clear hi211_0 hl211_0
                                                      replace p211 := eq_true p211
                                                      replace q211 := eq_true q211
                                                      have p212 : 0 ≤ (x13_4 : Int) := of_decide_eq_true (by first | (with_reducible assumption) | assumption)
                                                      have q212 : x13_4 < ((rd_L2 t198 x12_3).length : Int) := of_decide_eq_true (by first | (with_reducible assumption) | assumption)
                                                      obtain ⟨ad212, e212, hx212_0⟩ := Kd.at_int (by repeat (first | (with_reducible exact HR211_0.out) | (with_reducible refine Kd.C_alloc ?_ _) | (with_reducible refine Kd.C_drewN ?_ _) | (with_reducible refine Kd.C_drew ?_) | exact HR211_0.out)) x13_4 p212 q212
                                                      cases e212
                                                      replace p212 := eq_true p212
                                                      replace q212 := eq_true q212
                                                      go_wp2
                                                      go_roundg kj29
                                                      case measure => have := HJ10.out; have := HK2.out; have := HK3.out; have := HK4.out; have := HJ29.out; omega
                                                      case rel => exact ⟨(wrap64 (x9_4 - 1)), (wrap64 (x13_4 + 1)), (by first | rfl | (simp; done) | (simp [*]; done)), (by first | rfl | (simp; done) | (simp [*]; done)), H', ⟨by have := HJ10.out; have := HK2.out; have := HK3.out; have := HK4.out; have := HJ29.out; omega⟩, ⟨by (with_reducible repeat (first | apply Kd.S_alloc | apply Kd.S_drewN | apply Kd.S_drew)); exact HO_7.out⟩, ⟨by repeat (first | (with_reducible exact HR207_0.out) | (with_reducible refine Kd.C_alloc ?_ _) | (with_reducible refine Kd.C_drewN ?_ _) | (with_reducible refine Kd.C_drew ?_) | exact HR207_0.out)⟩, ⟨by repeat (first | (with_reducible first | exact HB.out | apply below_alloc | apply pw_below_drewN | apply below_drew1) | exact HB.out)⟩⟩
                                                    · rw [if_neg c38] at H
                                                      have c38b0 : ((rd (rd_L2 t198 x12_3) x13_4) == a2) = false := beq_eq_false_iff_ne.mpr c38
                                                      have c38b1 : ((rd (rd_L2 t198 x12_3) x13_4) != a2) = true := bne_iff_ne.mpr c38
                                                      have H' := Aside0.mk H
                                                      clear H
                                                      have p211 : 0 ≤ (x12_3 : Int) := of_decide_eq_true (by first | (with_reducible assumption) | assumption)
                                                      have q211 : x12_3 < (t198.length : Int) := of_decide_eq_true (by first | (with_reducible assumption) | assumption)
                                                      try clear hx207_0
                                                      try clear hx208_0
                                                      obtain ⟨ad211, A211_0, c211_0, e211, hx211_0, hl211_0, hi211_0⟩ := at_L2 (Kd.S_reads' HO_7.out).2.2 x12_3 p211 q211
                                                      obtain rfl : ad207 = ad211 := (by injection e211)
                                                      obtain ⟨ce211, hce211, hMe211, hcc211⟩ := Kd.S_get HO_7.out [] x12_3 p211 (by first | exact q211 | exact of_decide_eq_true (by first | (with_reducible assumption) | assumption) | (have e_ := (Kd.S_reads' HO_7.out).1; omega))
                                                      obtain ⟨ve211_0, rfl, ge211_0⟩ := hMe211
                                                      have hv211_0 := hcc211 0 _ rfl
                                                      rw [Nat.add_zero, show ((Kd.slice 3 (Kd.int .i64))).sz = 1 from rfl, Nat.mul_one] at hv211_0
                                                      replace hv211_0 := Option.some.inj (hv211_0.symm.trans hx211_0)
                                                      rw [hv211_0] at ge211_0
                                                      have HL211_0 := Aside0.mk (show Kd.R (Kd.int .i64) 3 _ _ _ _ (rd_L2 t198 x12_3) from ge211_0)
                                                      clear hv211_0 ge211_0
                                                      clear hcc211 hce211
                                                      have HR211_0 := Aside0.mk hi211_0
                                                      have HC211_0 := Aside0.mk hl211_0
                                                      clear hi211_0 hl211_0
                                                      replace p211 := eq_true p211
                                                      replace q211 := eq_true q211
                                                      have p212 : 0 ≤ (x13_4 : Int) := of_decide_eq_true (by first | (with_reducible assumption) | assumption)
                                                      have q212 : x13_4 < ((rd_L2 t198 x12_3).length : Int) := of_decide_eq_true (by first | (with_reducible assumption) | assumption)
                                                      obtain ⟨ad212, e212, hx212_0⟩ := Kd.at_int (by repeat (first | (with_reducible exact HR211_0.out) | (with_reducible refine Kd.C_alloc ?_ _) | (with_reducible refine Kd.C_drewN ?_ _) | (with_reducible refine Kd.C_drew ?_) | exact HR211_0.out)) x13_4 p212 q212
                                                      cases e212
                                                      replace p212 := eq_true p212
                                                      replace q212 := eq_true q212
                                                      go_wp2
                                                      go_roundg kj29
                                                      case measure => have := HJ10.out; have := HK2.out; have := HK3.out; have := HK4.out; have := HJ29.out; omega
                                                      case rel => exact ⟨(x9_4), (wrap64 (x13_4 + 1)), (by first | rfl | (simp; done) | (simp [*]; done)), (by first | rfl | (simp; done) | (simp [*]; done)), H', ⟨by have := HJ10.out; have := HK2.out; have := HK3.out; have := HK4.out; have := HJ29.out; omega⟩, ⟨by (with_reducible repeat (first | apply Kd.S_alloc | apply Kd.S_drewN | apply Kd.S_drew)); exact HO_7.out⟩, ⟨by repeat (first | (with_reducible exact HR207_0.out) | (with_reducible refine Kd.C_alloc ?_ _) | (with_reducible refine Kd.C_drewN ?_ _) | (with_reducible refine Kd.C_drew ?_) | exact HR207_0.out)⟩, ⟨by repeat (first | (with_reducible first | exact HB.out | apply below_alloc | apply pw_below_drewN | apply below_drew1) | exact HB.out)⟩⟩
                                                  · rw [if_neg c37] at H
                                                    exact absurd H (by simp)
                                                · rw [if_neg c36] at H
                                                  exact absurd H (by simp)
                                              · rw [if_neg c35] at H
                                                exact absurd H (by simp)
                                            · rw [if_neg c34] at H
                                              exact absurd H (by simp)
                                    · rw [if_neg c29] at H
                                      have c29b0 : decide (x13_4 < ((rd_L2 t198 x12_3).length : Int)) = false := decide_eq_false c29
                                      clear c29
                                      have H' := Aside0.mk H
                                      clear H
                                      have p208 : 0 ≤ (x12_3 : Int) := of_decide_eq_true (by first | (with_reducible assumption) | assumption)
                                      have q208 : x12_3 < (t198.length : Int) := of_decide_eq_true (by first | (with_reducible assumption) | assumption)
                                      try clear hx207_0
                                      obtain ⟨ad208, A208_0, c208_0, e208, hx208_0, hl208_0, hi208_0⟩ := at_L2 (Kd.S_reads' HO_7.out).2.2 x12_3 p208 q208
                                      obtain rfl : ad207 = ad208 := (by injection e208)
                                      obtain ⟨ce208, hce208, hMe208, hcc208⟩ := Kd.S_get HO_7.out [] x12_3 p208 (by first | exact q208 | exact of_decide_eq_true (by first | (with_reducible assumption) | assumption) | (have e_ := (Kd.S_reads' HO_7.out).1; omega))
                                      obtain ⟨ve208_0, rfl, ge208_0⟩ := hMe208
                                      have hv208_0 := hcc208 0 _ rfl
                                      rw [Nat.add_zero, show ((Kd.slice 3 (Kd.int .i64))).sz = 1 from rfl, Nat.mul_one] at hv208_0
                                      replace hv208_0 := Option.some.inj (hv208_0.symm.trans hx208_0)
                                      rw [hv208_0] at ge208_0
                                      have HL208_0 := Aside0.mk (show Kd.R (Kd.int .i64) 3 _ _ _ _ (rd_L2 t198 x12_3) from ge208_0)
                                      clear hv208_0 ge208_0
                                      clear hcc208 hce208
                                      have HR208_0 := Aside0.mk hi208_0
                                      have HC208_0 := Aside0.mk hl208_0
                                      clear hi208_0 hl208_0
                                      replace p208 := eq_true p208
                                      replace q208 := eq_true q208
                                      go_wp2
                                      go_roundg k4
                                      case measure => have := HJ10.out; have := HK2.out; have := HK3.out; have := HK4.out; omega
                                      case rel => exact ⟨(x9_4), ((wrap64 (x11_3 + ((rd_L2 t198 x12_3).length : Int)))), (wrap64 (x12_3 + 1)), (by first | rfl | (simp; done) | (simp [*]; done)), (by first | rfl | (simp; done) | (simp [*]; done)), (by first | rfl | (simp; done) | (simp [*]; done)), H', ⟨by have := HJ10.out; have := HK2.out; have := HK3.out; have := HK4.out; omega⟩, ⟨by (with_reducible repeat (first | apply Kd.S_alloc | apply Kd.S_drewN | apply Kd.S_drew)); exact HO_7.out⟩, ⟨by repeat (first | (with_reducible first | exact HB.out | apply below_alloc | apply pw_below_drewN | apply below_drew1) | exact HB.out)⟩⟩
                                  · rw [if_neg c28] at H
                                    exact absurd H (by simp)
                                · rw [if_neg c27] at H
                                  exact absurd H (by simp)
                          · rw [if_neg c25] at H
                            exact absurd H (by simp)
                        · rw [if_neg c24] at H
                          exact absurd H (by simp)
                      · rw [if_neg c23] at H
                        have c23b0 : decide (x12_3 < a1) = false := decide_eq_false c23
                        clear c23
                        by_cases c39 : x11_3 = (l0.length : Int)
                        · rw [if_pos c39] at H
                          have c39b0 : (x11_3 == (l0.length : Int)) = true := beq_iff_eq.mpr c39
                          have c39b1 : (x11_3 != (l0.length : Int)) = false := bne_eq_false_iff_eq.mpr c39
                          clear c39
                          by_cases c40 : x9_3 = 0
                          · rw [if_pos c40] at H
                            have c40b0 : (x9_3 == 0) = true := beq_iff_eq.mpr c40
                            have c40b1 : (x9_3 != 0) = false := bne_eq_false_iff_eq.mpr c40
                            clear c40
                            replace H := Option.bind_eq_some_iff.mp H
                            obtain ⟨t206, A410, H⟩ := H
                            replace H : (some t206) = some r := H
                            have A41 := Aside0.mk A410
                            clear A410
                            obtain rfl := Option.some.inj H
                            go_wp2_with (first | (go_at_call 10; (with_reducible refine (corebanklaw50_live.calls k3  t206 _ A41.out ?side2 ?side1).mono ?_); (case side1 => first | exact HT.out | rfl); (case side2 => exact Glob.at HG (by repeat (first | (with_reducible first | exact HB.out | apply below_alloc | apply pw_below_drewN | apply below_drew1) | exact HB.out))); rintro e w42 ⟨rfl, hb⟩; have n0_ := Aside0.mk (Kd.S_below (by (with_reducible repeat (first | apply Kd.S_alloc | apply Kd.S_drewN | apply Kd.S_drew)); exact HO_7.out) hb); have n1_ := Aside0.mk (below_step (by repeat (first | (with_reducible first | exact HB.out | apply below_alloc | apply pw_below_drewN | apply below_drew1) | exact HB.out)) hb); clear HO_7; clear HB; have HO_7 := n0_; have HB := n1_; clear n0_ n1_; (try clear hb); (try clear hb2); (try clear hk); (try clear hi)))
                            go_ret
                            exact ⟨by first | rfl | (simp [errW_none, errW_some] <;> rfl) | (simp [*, errW_none, errW_some] <;> rfl), by repeat (first | (with_reducible first | exact HB.out | apply below_alloc | apply pw_below_drewN | apply below_drew1) | exact HB.out)⟩
                          · rw [if_neg c40] at H
                            have c40b0 : (x9_3 == 0) = false := beq_eq_false_iff_ne.mpr c40
                            have c40b1 : (x9_3 != 0) = true := bne_iff_ne.mpr c40
                            exact absurd ((Option.some.inj H).trans HT.out) (by simp)
                        · rw [if_neg c39] at H
                          have c39b0 : (x11_3 == (l0.length : Int)) = false := beq_eq_false_iff_ne.mpr c39
                          have c39b1 : (x11_3 != (l0.length : Int)) = true := bne_iff_ne.mpr c39
                          exact absurd ((Option.some.inj H).trans HT.out) (by simp)
    · replace c9 := Bool.eq_false_iff.mpr c9
      subst c9
      have H1 : (if (t198.length : Int) = 0 then ((shard_Of.f k a2 a1).bind fun t202 => (if t202 = 0 then ((corebanklaw50_live.f k).bind fun t203 => (some t203)) else (some false))) else (some false)) = some r := by rw [if_neg (show ¬ (false = true) by decide)] at H; exact H
      clear H
      have H := H1
      clear H1
      by_cases c43 : (t198.length : Int) = 0
      · rw [if_pos c43] at H
        have c43b0 : ((t198.length : Int) == 0) = true := beq_iff_eq.mpr c43
        have c43b1 : ((t198.length : Int) != 0) = false := bne_eq_false_iff_eq.mpr c43
        clear c43
        replace H := Option.bind_eq_some_iff.mp H
        obtain ⟨t202, A440, H⟩ := H
        replace H : (if t202 = 0 then ((corebanklaw50_live.f k).bind fun t203 => (some t203)) else (some false)) = some r := H
        have A44 := Aside0.mk A440
        clear A440
        by_cases c45 : t202 = 0
        · rw [if_pos c45] at H
          have c45b0 : (t202 == 0) = true := beq_iff_eq.mpr c45
          have c45b1 : (t202 != 0) = false := bne_eq_false_iff_eq.mpr c45
          clear c45
          replace H := Option.bind_eq_some_iff.mp H
          obtain ⟨t203, A460, H⟩ := H
          replace H : (some t203) = some r := H
          have A46 := Aside0.mk A460
          clear A460
          obtain rfl := Option.some.inj H
          go_enter Tryd.func5, Tryd.ntmps5
          go_wp2_with (first | ((with_reducible refine gate_callee (f := 11) rfl ?_); refine goesL_ (some 20) rfl rfl Tryd.func11 (by kernel_rfl) rfl #[.slice A0 l0.length c0, .int .i64 a1] rfl (by (try simp only [List.map_toArray, List.map_cons, List.map_nil]); first | done | rfl | (simp only [List.length_drop, List.length_take]; rfl)) ?_; (with_reducible refine (shard_Split.calls k _ _ l0 a1 t198 _ ?side1 ?side2 A7.out ?side3).mono ?_); (case side1 => repeat (first | exact HR0.out | (with_reducible refine Kd.C_alloc ?_ _) | (with_reducible refine Kd.C_drewN ?_ _) | (with_reducible refine Kd.C_drew ?_))); (case side2 => exact HC0.out); (case side3 => exact Glob.at HG (by repeat (first | (with_reducible first | exact HB.out | apply below_alloc | apply pw_below_drewN | apply below_drew1) | exact HB.out))); rintro e w47 ⟨v199, rfl, ho0, hb⟩; refine ⟨_, rfl, ?_⟩; have n0_ := Aside0.mk (Kd.S_lower ho0 (below_size (by repeat (first | (with_reducible first | exact HB.out | apply below_alloc | apply pw_below_drewN | apply below_drew1) | exact HB.out)))); have n1_ := Aside0.mk (below_step (by repeat (first | (with_reducible first | exact HB.out | apply below_alloc | apply pw_below_drewN | apply below_drew1) | exact HB.out)) hb); clear HB; have HO200 := n0_; have HB := n1_; clear n0_ n1_; (try clear hb); (try clear hb2); (try clear hk); (try clear hi); (try clear ho0)) | ((with_reducible refine gate_callee (f := 13) rfl ?_); refine goesL_ (some 22) rfl rfl Tryd.func13 (by kernel_rfl) rfl #[.int .i64 a1] rfl (by (try simp only [List.map_toArray, List.map_cons, List.map_nil]); first | done | rfl | (simp only [List.length_drop, List.length_take]; rfl)) ?_; (with_reducible refine (corebankref50_Good.calls a1 false _ A8.out).mono ?_); rintro e w' ⟨rfl, ⟨nd, rfl⟩⟩; refine ⟨_, rfl, ?_⟩; obtain ⟨Ao48, co48, eo48⟩ := Kd.S_slice HO200.out; subst eo48) | (go_at_call 8; (with_reducible refine (shard_Of.calls k a2 a1 t202 _ A44.out ?side1).mono ?_); (case side1 => exact Glob.at HG (by repeat (first | (with_reducible first | exact HB.out | apply below_alloc | apply pw_below_drewN | apply below_drew1) | exact HB.out))); rintro e w49 ⟨rfl, hb⟩; have n0_ := Aside0.mk (Kd.S_below (by (with_reducible repeat (first | apply Kd.S_alloc | apply Kd.S_drewN | apply Kd.S_drew)); exact HO200.out) hb); have n1_ := Aside0.mk (below_step (by repeat (first | (with_reducible first | exact HB.out | apply below_alloc | apply pw_below_drewN | apply below_drew1) | exact HB.out)) hb); clear HO200; clear HB; have HO200 := n0_; have HB := n1_; clear n0_ n1_; (try clear hb); (try clear hb2); (try clear hk); (try clear hi)) | (go_at_call 10; (with_reducible refine (corebanklaw50_live.calls k  t203 _ A46.out ?side2 ?side1).mono ?_); (case side1 => first | exact HT.out | rfl); (case side2 => exact Glob.at HG (by repeat (first | (with_reducible first | exact HB.out | apply below_alloc | apply pw_below_drewN | apply below_drew1) | exact HB.out))); rintro e w50 ⟨rfl, hb⟩; have n0_ := Aside0.mk (Kd.S_below (by (with_reducible repeat (first | apply Kd.S_alloc | apply Kd.S_drewN | apply Kd.S_drew)); exact HO200.out) hb); have n1_ := Aside0.mk (below_step (by repeat (first | (with_reducible first | exact HB.out | apply below_alloc | apply pw_below_drewN | apply below_drew1) | exact HB.out)) hb); clear HO200; clear HB; have HO200 := n0_; have HB := n1_; clear n0_ n1_; (try clear hb); (try clear hb2); (try clear hk); (try clear hi)))
          go_ret
          exact ⟨by first | rfl | (simp [errW_none, errW_some] <;> rfl) | (simp [*, errW_none, errW_some] <;> rfl), by repeat (first | (with_reducible first | exact HB.out | apply below_alloc | apply pw_below_drewN | apply below_drew1) | exact HB.out)⟩
        · rw [if_neg c45] at H
          have c45b0 : (t202 == 0) = false := beq_eq_false_iff_ne.mpr c45
          have c45b1 : (t202 != 0) = true := bne_iff_ne.mpr c45
          exact absurd ((Option.some.inj H).trans HT.out) (by simp)
      · rw [if_neg c43] at H
        have c43b0 : ((t198.length : Int) == 0) = false := beq_eq_false_iff_ne.mpr c43
        have c43b1 : ((t198.length : Int) != 0) = true := bne_iff_ne.mpr c43
        have c43b2 : ¬ (t198 = []) := fun h_ => c43 (by rw [h_]; rfl)
        exact absurd ((Option.some.inj H).trans HT.out) (by simp)

/-- THE ONE PURE STATEMENT of corebanklaw50_ShardPartition: yours. -/
def corebanklaw50_ShardPartition.Pure : Prop := ∀ (l0 : List Int) (a1 : Int) (a2 : Int), l0.length ≤ maxLen → l0.length * 8 ≤ 140737488351232 → (∀ x ∈ l0, (Lit.int .i64 x).wf = true) → (Lit.int .i64 a1).wf = true → (Lit.int .i64 a2).wf = true → ∃ k, corebanklaw50_ShardPartition.f k l0 a1 a2 = some true
theorem corebanklaw50_ShardPartition.walk (P : corebanklaw50_ShardPartition.Pure) (a0 : Option Addr) (len0 cap0 : Nat) (z0 : List Int) (a1 : Int) (a2 : Int) (w : World) (w0 : (a0 = none ∧ len0 = 0 ∧ cap0 = 0 ∧ z0 = []) ∨ ∃ x, a0 = some x ∧ len0 ≤ cap0 ∧ cap0 ≤ maxLen ∧ z0.length = cap0 ∧ (∀ i, i < z0.length → w.cell? (x.add i) = some (.int .i64 (z0.getD i 0))) ∧ ∀ n ∈ z0, (Lit.int .i64 n).wf = true) (y0 : len0 * 8 ≤ 140737488351232) (w1 : (Lit.int .i64 a1).wf = true) (w2 : (Lit.int .i64 a2).wf = true) (hG : Glob w) :
    Calls Tryd.prog 5 #[.slice a0 len0 cap0, .int .i64 a1, .int .i64 a2] w fun e w' => e = .returned (.bool true) ∧ Below w.heap.size w w' := by
  obtain ⟨l0, rfl, hr0, hm0, hw0, hc0⟩ := ReadsInt.ofRowC w0
  obtain ⟨k, h⟩ := P l0 a1 a2 hm0 y0 hw0 w1 w2
  refine (corebanklaw50_ShardPartition.calls k _ _ l0 a1 a2 true w (Kd.C_of_reads (d := (0 : Int)) (h1 := fun _ => rfl) hr0) hc0 h hG rfl).mono ?_
  rintro e w' ⟨rfl, hd⟩
  exact ⟨rfl, hd⟩

end Go.Proofs.YtgpiglejdacelaaDoor.G
