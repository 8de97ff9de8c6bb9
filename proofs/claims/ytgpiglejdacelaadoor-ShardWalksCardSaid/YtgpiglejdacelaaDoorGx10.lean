/- What functions of the program compute, as Lean functions, each with the walk that proves it, for every argument at which the Lean function answers. Written by gprint.py, a program of this session that drives the print of the kit; checked by Lean alone. -/
import Derived.Test.YtgpiglejdacelaaDoorGx0
import Derived.Test.YtgpiglejdacelaaDoorGx2
import Derived.Test.YtgpiglejdacelaaDoorGx4
import Derived.Test.YtgpiglejdacelaaDoorGx5
namespace Go.Proofs.YtgpiglejdacelaaDoor.G
open Go.RowKit Go.Proofs.YtgpiglejdacelaaDoorW.PrintWords Go.Proofs.YtgpiglejdacelaaDoorW.PrintLast Go.Proofs.YtgpiglejdacelaaDoorW.PrintMore
attribute [local go_sem] max2_int min2_int max_two min_two max_three min_three max_four min_four   -- for this text's walks alone
set_option linter.unusedVariables false
set_option linter.unusedSimpArgs false

attribute [local go_sem high] eqA36
/-! ### corebanklaw50_ShardWalks: function 7 -/
mutual
def corebanklaw50_ShardWalks.l0 : Nat → Int → Int → Bool → Int → Int → Int → Int → Int → Option (Bool)
  | 0, _, _, _, _, _, _, _, _ => none
  | k + 1, x5, x8, x255000, x255001, x255002, x255003, x256000, x256001 => if x8 < (wrap64 ((wrap64 (8 * x5)) + 1)) then ((shard_Next.f k x255000 x8 x255002 x255003).bind fun bt262 => (if bt262.2.2 = true then ((shard_Check.f k x255000 x8 x255002 x255003).bind fun t266 => (if t266 = 0 then (if bt262.2.1 < 0 then (corebanklaw50_ShardWalks.j1 k x5 x8 true x255000 x8 x255002 x255003 x256000 x256001 bt262.1 bt262.2.1) else (corebanklaw50_ShardWalks.j1 k x5 x8 (decide (bt262.2.1 ≥ x5)) x255000 x8 x255002 x255003 x256000 x256001 bt262.1 bt262.2.1)) else (corebanklaw50_ShardWalks.j1 k x5 x8 true x255000 x8 x255002 x255003 x256000 x256001 bt262.1 bt262.2.1))) else (corebanklaw50_ShardWalks.j1 k x5 x8 true x255000 x8 x255002 x255003 x256000 x256001 bt262.1 bt262.2.1))) else ((shard_Next.f k x255000 (wrap64 ((wrap64 (8 * x5)) + 1)) x255002 x255003).bind fun bt256 => (if (x256000 == 9 && (x256001 == 0)) = true then (if bt256.2.2 = true then (some false) else ((shard_Check.f k x255000 (wrap64 ((wrap64 (8 * x5)) + 1)) x255002 x255003).bind fun t260 => (if t260 = 1 then ((corebanklaw50_live.f k).bind fun t261 => (some t261)) else (some false)))) else (some false)))
def corebanklaw50_ShardWalks.j1 : Nat → Int → Int → Bool → Bool → Int → Int → Int → Int → Int → Int → Int → Option (Bool)
  | 0, _, _, _, _, _, _, _, _, _, _, _ => none
  | k + 1, x5, x8, x53, x255000, x255001, x255002, x255003, x256000, x256001, x266000, x266001 => if x53 = true then (some false) else (if x8 > 0 then (if x266000 < x256000 then (some false) else (if x266000 = x256000 then (if x266001 ≤ x256001 then (some false) else (corebanklaw50_ShardWalks.l0 k x5 (wrap64 (x8 + 1)) x255000 x255001 x255002 x255003 x266000 x266001)) else (corebanklaw50_ShardWalks.l0 k x5 (wrap64 (x8 + 1)) x255000 x255001 x255002 x255003 x266000 x266001))) else (corebanklaw50_ShardWalks.l0 k x5 (wrap64 (x8 + 1)) x255000 x255001 x255002 x255003 x266000 x266001))
end
def corebanklaw50_ShardWalks.f (k : Nat) (a0 : Int) (a1 : Int) : Option (Bool) := corebanklaw50_ShardWalks.l0 k (wrap64 (1 + (Int.tmod (wrap64 (a0)) 8))) 0 true 0 (wrap64 (1 + (Int.tmod (wrap64 (a0)) 8))) (wrap64 (a1)) 0 0
theorem corebanklaw50_ShardWalks.mono_l : ∀ k, (∀ y0 y1 y2 y3 y4 y5 y6 y7, LeO (corebanklaw50_ShardWalks.l0 k y0 y1 y2 y3 y4 y5 y6 y7) (corebanklaw50_ShardWalks.l0 (k + 1) y0 y1 y2 y3 y4 y5 y6 y7)) ∧ (∀ y0 y1 y2 y3 y4 y5 y6 y7 y8 y9 y10, LeO (corebanklaw50_ShardWalks.j1 k y0 y1 y2 y3 y4 y5 y6 y7 y8 y9 y10) (corebanklaw50_ShardWalks.j1 (k + 1) y0 y1 y2 y3 y4 y5 y6 y7 y8 y9 y10))
  | 0 => ⟨fun _ _ _ _ _ _ _ _ r h => by simp [corebanklaw50_ShardWalks.l0] at h, fun _ _ _ _ _ _ _ _ _ _ _ r h => by simp [corebanklaw50_ShardWalks.j1] at h⟩
  | k + 1 => by
    obtain ⟨ih0, ih1⟩ := corebanklaw50_ShardWalks.mono_l k
    refine ⟨?_, ?_⟩
    · intro y0 y1 y2 y3 y4 y5 y6 y7
      unfold corebanklaw50_ShardWalks.l0
      repeat' first
      | (with_reducible exact ih0 _ _ _ _ _ _ _ _)
      | (with_reducible exact ih1 _ _ _ _ _ _ _ _ _ _ _)
      | (with_reducible exact corebanklaw50_live.mono _)
      | (with_reducible exact shard_Check.mono _ _ _ _ _)
      | (with_reducible exact shard_Next.mono _ _ _ _ _)
      | (with_reducible exact LeO.refl _)
      | (with_reducible exact LeO.none _)
      | (with_reducible refine LeO.ite ?_ ?_)
      | (with_reducible refine LeO.bind ?_ (fun _ => ?_))
      | exact ih0 _ _ _ _ _ _ _ _
      | exact ih1 _ _ _ _ _ _ _ _ _ _ _
      | exact corebanklaw50_live.mono _
      | exact shard_Check.mono _ _ _ _ _
      | exact shard_Next.mono _ _ _ _ _
      | exact LeO.none _
      | refine LeO.ite ?_ ?_
      | refine LeO.bind ?_ (fun _ => ?_)
    · intro y0 y1 y2 y3 y4 y5 y6 y7 y8 y9 y10
      unfold corebanklaw50_ShardWalks.j1
      repeat' first
      | (with_reducible exact ih0 _ _ _ _ _ _ _ _)
      | (with_reducible exact ih1 _ _ _ _ _ _ _ _ _ _ _)
      | (with_reducible exact corebanklaw50_live.mono _)
      | (with_reducible exact shard_Check.mono _ _ _ _ _)
      | (with_reducible exact shard_Next.mono _ _ _ _ _)
      | (with_reducible exact LeO.refl _)
      | (with_reducible exact LeO.none _)
      | (with_reducible refine LeO.ite ?_ ?_)
      | (with_reducible refine LeO.bind ?_ (fun _ => ?_))
      | exact ih0 _ _ _ _ _ _ _ _
      | exact ih1 _ _ _ _ _ _ _ _ _ _ _
      | exact corebanklaw50_live.mono _
      | exact shard_Check.mono _ _ _ _ _
      | exact shard_Next.mono _ _ _ _ _
      | exact LeO.none _
      | refine LeO.ite ?_ ?_
      | refine LeO.bind ?_ (fun _ => ?_)
theorem corebanklaw50_ShardWalks.mono : ∀ a0 a1 k, LeO (corebanklaw50_ShardWalks.f k a0 a1) (corebanklaw50_ShardWalks.f (k + 1) a0 a1) := by
  intro a0 a1 k
  obtain ⟨ih0, ih1⟩ := corebanklaw50_ShardWalks.mono_l k
  unfold corebanklaw50_ShardWalks.f
  repeat' first
      | (with_reducible exact ih0 _ _ _ _ _ _ _ _)
      | (with_reducible exact ih1 _ _ _ _ _ _ _ _ _ _ _)
      | (with_reducible exact corebanklaw50_live.mono _)
      | (with_reducible exact shard_Check.mono _ _ _ _ _)
      | (with_reducible exact shard_Next.mono _ _ _ _ _)
      | (with_reducible exact LeO.refl _)
      | (with_reducible exact LeO.none _)
      | (with_reducible refine LeO.ite ?_ ?_)
      | (with_reducible refine LeO.bind ?_ (fun _ => ?_))
      | exact ih0 _ _ _ _ _ _ _ _
      | exact ih1 _ _ _ _ _ _ _ _ _ _ _
      | exact corebanklaw50_live.mono _
      | exact shard_Check.mono _ _ _ _ _
      | exact shard_Next.mono _ _ _ _ _
      | exact LeO.none _
      | refine LeO.ite ?_ ?_
      | refine LeO.bind ?_ (fun _ => ?_)
set_option maxHeartbeats 8000000 in
set_option maxRecDepth 100000 in
theorem corebanklaw50_ShardWalks.calls (k : Nat) (a0 : Int) (a1 : Int) (r : Bool) (w : World) (h : corebanklaw50_ShardWalks.f k a0 a1 = some r) (hG : Glob w) (ht : r = true) :
    Calls Tryd.prog 7 #[.int .u8 a0, .int .u8 a1] w fun e w' => e = .returned (.bool r) ∧ Below w.heap.size w w' := by
  have hu32 := Tryd.underlying32
  have hu36 := Tryd.underlying36
  have HG := Aside0.mk hG
  clear hG
  have HT := Aside0.mk ht
  clear ht
  have HB := Aside0.mk (Below.refl w.heap.size w)
  have H : (corebanklaw50_ShardWalks.l0 k (wrap64 (1 + (Int.tmod (wrap64 (a0)) 8))) 0 true 0 (wrap64 (1 + (Int.tmod (wrap64 (a0)) 8))) (wrap64 (a1)) 0 0) = some r := h
  clear h
  have H' := Aside0.mk H
  clear H
  go_enter Tryd.func7, Tryd.ntmps7
  go_wp2_with (first | ((with_reducible refine gate_dst (N := 6) rfl ?_); refine box_event ?hg (N := 6) ?hd (cs := #[.bool false, .int .i64 0, .int .i64 0, .int .i64 0]) (t := 32) ?hr ?_; (case hd => rfl); (case hg => rfl); (case hr => first | (go_simp; done) | (go_simp; rfl)); intro gb254 hg w3 hbox hb; have n0_ := Aside0.mk (below_step (by repeat (first | (with_reducible first | exact HB.out | apply below_alloc | apply pw_below_drewN | apply below_drew1) | exact HB.out)) hb); have n1_ := Aside0.mk (hbox); have n2_ := Aside0.mk ((by rw [hg]; exact (below_size (by repeat (first | (with_reducible first | exact HB.out | apply below_alloc | apply pw_below_drewN | apply below_drew1) | exact HB.out))) : w.heap.size ≤ gb254)); have n3_ := Aside0.mk ((by rw [hg]; exact (below_size (by repeat (first | (with_reducible first | exact HB.out | apply below_alloc | apply pw_below_drewN | apply below_drew1) | exact HB.out))) : w.heap.size ≤ gb254)); clear HB; have HB := n0_; have BK254 := n1_; have GW254 := n2_; have GE254 := n3_; clear n0_ n1_ n2_ n3_; clear hb hbox hg; have hcz4_0 : w3.cell? ⟨gb254, 0, none⟩ = some (.bool false) := (blk_cell BK254.out 0).trans rfl; have hcz4_1 : w3.cell? ⟨gb254, 1, none⟩ = some (.int .i64 0) := (blk_cell BK254.out 1).trans rfl; have hcz4_2 : w3.cell? ⟨gb254, 2, none⟩ = some (.int .i64 0) := (blk_cell BK254.out 2).trans rfl; have hcz4_3 : w3.cell? ⟨gb254, 3, none⟩ = some (.int .i64 0) := (blk_cell BK254.out 3).trans rfl; have hfz4_0 := blk_frozen BK254.out 0; have hfz4_1 := blk_frozen BK254.out 1; have hfz4_2 := blk_frozen BK254.out 2; have hfz4_3 := blk_frozen BK254.out 3) | ((with_reducible refine gate_dst (N := 7) rfl ?_); refine box_event ?hg (N := 7) ?hd (cs := #[.int .i64 0, .int .i64 0]) (t := 36) ?hr ?_; (case hd => rfl); (case hg => rfl); (case hr => first | (go_simp; done) | (go_simp; rfl)); intro gb255 hg w5 hbox hb; have n0_ := Aside0.mk (blk_below (g := gb254) (o := .cells #[.bool true, .int .i64 0, .int .i64 (wrap64 (1 + (Int.tmod (wrap64 (a0)) 8))), .int .i64 (wrap64 (a1))] 32 (0, 0)) (by (with_reducible repeat (first | refine blk_drewN ?_ _ | refine blk_drew ?_ | refine blk_alloc ?_ _)); refine blk_put (cs := #[.bool true, .int .i64 0, .int .i64 (wrap64 (1 + (Int.tmod (wrap64 (a0)) 8))), .int .i64 0]) ?_ 3 _ rfl; (with_reducible repeat (first | refine blk_drewN ?_ _ | refine blk_drew ?_ | refine blk_alloc ?_ _)); refine blk_put (cs := #[.bool true, .int .i64 0, .int .i64 0, .int .i64 0]) ?_ 2 _ rfl; (with_reducible repeat (first | refine blk_drewN ?_ _ | refine blk_drew ?_ | refine blk_alloc ?_ _)); refine blk_put (cs := #[.bool true, .int .i64 0, .int .i64 0, .int .i64 0]) ?_ 1 _ rfl; (with_reducible repeat (first | refine blk_drewN ?_ _ | refine blk_drew ?_ | refine blk_alloc ?_ _)); refine blk_put (cs := #[.bool false, .int .i64 0, .int .i64 0, .int .i64 0]) ?_ 0 _ rfl; (with_reducible repeat (first | refine blk_drewN ?_ _ | refine blk_drew ?_ | refine blk_alloc ?_ _)); exact BK254.out) hb); have n1_ := Aside0.mk (below_step (by repeat (first | (with_reducible first | exact HB.out | apply below_alloc | apply pw_below_drewN | apply below_drew1 | refine below_set ?_ GE254.out) | exact HB.out)) hb); have n2_ := Aside0.mk (hbox); have n3_ := Aside0.mk ((by rw [hg]; exact (below_size (by repeat (first | (with_reducible first | exact HB.out | apply below_alloc | apply pw_below_drewN | apply below_drew1 | refine below_set ?_ GE254.out) | exact HB.out))) : w.heap.size ≤ gb255)); have n4_ := Aside0.mk ((by rw [hg]; exact (below_size (by repeat (first | (with_reducible first | exact HB.out | apply below_alloc | apply pw_below_drewN | apply below_drew1 | refine below_set ?_ GE254.out) | exact HB.out))) : w.heap.size ≤ gb255)); have n5_ := Aside0.mk ((by rw [hg]; exact Nat.ne_of_lt (blk_lt (g := gb254) (o := .cells #[.bool true, .int .i64 0, .int .i64 (wrap64 (1 + (Int.tmod (wrap64 (a0)) 8))), .int .i64 (wrap64 (a1))] 32 (0, 0)) (by (with_reducible repeat (first | refine blk_drewN ?_ _ | refine blk_drew ?_ | refine blk_alloc ?_ _)); refine blk_put (cs := #[.bool true, .int .i64 0, .int .i64 (wrap64 (1 + (Int.tmod (wrap64 (a0)) 8))), .int .i64 0]) ?_ 3 _ rfl; (with_reducible repeat (first | refine blk_drewN ?_ _ | refine blk_drew ?_ | refine blk_alloc ?_ _)); refine blk_put (cs := #[.bool true, .int .i64 0, .int .i64 0, .int .i64 0]) ?_ 2 _ rfl; (with_reducible repeat (first | refine blk_drewN ?_ _ | refine blk_drew ?_ | refine blk_alloc ?_ _)); refine blk_put (cs := #[.bool true, .int .i64 0, .int .i64 0, .int .i64 0]) ?_ 1 _ rfl; (with_reducible repeat (first | refine blk_drewN ?_ _ | refine blk_drew ?_ | refine blk_alloc ?_ _)); refine blk_put (cs := #[.bool false, .int .i64 0, .int .i64 0, .int .i64 0]) ?_ 0 _ rfl; (with_reducible repeat (first | refine blk_drewN ?_ _ | refine blk_drew ?_ | refine blk_alloc ?_ _)); exact BK254.out)) : gb254 ≠ gb255)); have n6_ := Aside0.mk ((by rw [hg]; exact Nat.ne_of_gt (blk_lt (g := gb254) (o := .cells #[.bool true, .int .i64 0, .int .i64 (wrap64 (1 + (Int.tmod (wrap64 (a0)) 8))), .int .i64 (wrap64 (a1))] 32 (0, 0)) (by (with_reducible repeat (first | refine blk_drewN ?_ _ | refine blk_drew ?_ | refine blk_alloc ?_ _)); refine blk_put (cs := #[.bool true, .int .i64 0, .int .i64 (wrap64 (1 + (Int.tmod (wrap64 (a0)) 8))), .int .i64 0]) ?_ 3 _ rfl; (with_reducible repeat (first | refine blk_drewN ?_ _ | refine blk_drew ?_ | refine blk_alloc ?_ _)); refine blk_put (cs := #[.bool true, .int .i64 0, .int .i64 0, .int .i64 0]) ?_ 2 _ rfl; (with_reducible repeat (first | refine blk_drewN ?_ _ | refine blk_drew ?_ | refine blk_alloc ?_ _)); refine blk_put (cs := #[.bool true, .int .i64 0, .int .i64 0, .int .i64 0]) ?_ 1 _ rfl; (with_reducible repeat (first | refine blk_drewN ?_ _ | refine blk_drew ?_ | refine blk_alloc ?_ _)); refine blk_put (cs := #[.bool false, .int .i64 0, .int .i64 0, .int .i64 0]) ?_ 0 _ rfl; (with_reducible repeat (first | refine blk_drewN ?_ _ | refine blk_drew ?_ | refine blk_alloc ?_ _)); exact BK254.out)) : gb255 ≠ gb254)); clear BK254; clear HB; have BK254 := n0_; have HB := n1_; have BK255 := n2_; have GW255 := n3_; have GE255 := n4_; have NB254_255 := n5_; have NB255_254 := n6_; clear n0_ n1_ n2_ n3_ n4_ n5_ n6_; clear hb hbox hg; have hnb6 := NB255_254.out; have hnc6 := NB254_255.out; have hcz7_0 : w5.cell? ⟨gb255, 0, none⟩ = some (.int .i64 0) := (blk_cell BK255.out 0).trans rfl; have hcz7_1 : w5.cell? ⟨gb255, 1, none⟩ = some (.int .i64 0) := (blk_cell BK255.out 1).trans rfl; have hfz7_0 := blk_frozen BK255.out 0; have hfz7_1 := blk_frozen BK255.out 1))
  go_loopg [8] k (fun kq v8 w' => ∃ (x8_1 : Int) (x255001_1 : Int) (x256000_1 : Int) (x256001_1 : Int), v8 = .int .i64 x8_1 ∧ Aside0 (corebanklaw50_ShardWalks.l0 kq (wrap64 (1 + (Int.tmod (wrap64 (a0)) 8))) x8_1 true x255001_1 (wrap64 (1 + (Int.tmod (wrap64 (a0)) 8))) (wrap64 (a1)) x256000_1 x256001_1 = some r) ∧ Aside0 (kq ≤ k) ∧ Aside0 (w'.heap[gb254]? = some (.cells #[.bool true, .int .i64 x255001_1, .int .i64 (wrap64 (1 + (Int.tmod (wrap64 (a0)) 8))), .int .i64 (wrap64 (a1))] 32 (0, 0))) ∧ Aside0 (w'.heap[gb255]? = some (.cells #[.int .i64 x256000_1, .int .i64 x256001_1] 36 (0, 0))) ∧ Aside0 (Below w.heap.size w w'))
  case atStart => exact ⟨(0), (0), (0), (0), (by first | rfl | (simp; done) | (simp [*]; done)), H', ⟨Nat.le_refl _⟩, ⟨by (with_reducible repeat (first | refine blk_drewN ?_ _ | refine blk_drew ?_ | refine blk_alloc ?_ _)); refine blk_far ?_ NB254_255.out _; (with_reducible repeat (first | refine blk_drewN ?_ _ | refine blk_drew ?_ | refine blk_alloc ?_ _)); refine blk_far ?_ NB254_255.out _; (with_reducible repeat (first | refine blk_drewN ?_ _ | refine blk_drew ?_ | refine blk_alloc ?_ _)); exact BK254.out⟩, ⟨by (with_reducible repeat (first | refine blk_drewN ?_ _ | refine blk_drew ?_ | refine blk_alloc ?_ _)); refine blk_put (cs := #[.int .i64 0, .int .i64 0]) ?_ 1 _ rfl; (with_reducible repeat (first | refine blk_drewN ?_ _ | refine blk_drew ?_ | refine blk_alloc ?_ _)); refine blk_put (cs := #[.int .i64 0, .int .i64 0]) ?_ 0 _ rfl; (with_reducible repeat (first | refine blk_drewN ?_ _ | refine blk_drew ?_ | refine blk_alloc ?_ _)); exact BK255.out⟩, ⟨by repeat (first | (with_reducible first | exact HB.out | apply below_alloc | apply pw_below_drewN | apply below_drew1 | refine below_set ?_ GE254.out | refine below_set ?_ GE255.out) | exact HB.out)⟩⟩
  case round =>
    clear H'
    try clear p2
    try clear c6
    try clear p6
    try clear c7
    try clear hcz4_0
    try clear hcz4_1
    try clear hcz4_2
    try clear hcz4_3
    try clear hcz7_0
    try clear hcz7_1
    try clear hfz4_0
    try clear hfz4_1
    try clear hfz4_2
    try clear hfz4_3
    try clear hfz7_0
    try clear hfz7_1
    obtain ⟨x8_1, x255001_1, x256000_1, x256001_1, rfl, HA, HK1, BK254, BK255, HB⟩ := hrel
    cases gk with
    | zero => exact absurd HA.out (by simp [corebanklaw50_ShardWalks.l0])
    | succ k1 =>
      have H := HA.out
      clear HA
      simp only [corebanklaw50_ShardWalks.l0] at H
      by_cases c8 : x8_1 < (wrap64 ((wrap64 (8 * (wrap64 (1 + (Int.tmod (wrap64 (a0)) 8))))) + 1))
      · rw [if_pos c8] at H
        have c8b0 : decide (x8_1 < (wrap64 ((wrap64 (8 * (wrap64 (1 + (Int.tmod (wrap64 (a0)) 8))))) + 1))) = true := decide_eq_true c8
        clear c8
        replace H := Option.bind_eq_some_iff.mp H
        obtain ⟨⟨t262, t263, t264⟩, A90, H⟩ := H
        replace H : (if t264 = true then ((shard_Check.f k1 true x8_1 (wrap64 (1 + (Int.tmod (wrap64 (a0)) 8))) (wrap64 (a1))).bind fun t266 => (if t266 = 0 then (if t263 < 0 then (corebanklaw50_ShardWalks.j1 k1 (wrap64 (1 + (Int.tmod (wrap64 (a0)) 8))) x8_1 true true x8_1 (wrap64 (1 + (Int.tmod (wrap64 (a0)) 8))) (wrap64 (a1)) x256000_1 x256001_1 t262 t263) else (corebanklaw50_ShardWalks.j1 k1 (wrap64 (1 + (Int.tmod (wrap64 (a0)) 8))) x8_1 (decide (t263 ≥ (wrap64 (1 + (Int.tmod (wrap64 (a0)) 8))))) true x8_1 (wrap64 (1 + (Int.tmod (wrap64 (a0)) 8))) (wrap64 (a1)) x256000_1 x256001_1 t262 t263)) else (corebanklaw50_ShardWalks.j1 k1 (wrap64 (1 + (Int.tmod (wrap64 (a0)) 8))) x8_1 true true x8_1 (wrap64 (1 + (Int.tmod (wrap64 (a0)) 8))) (wrap64 (a1)) x256000_1 x256001_1 t262 t263))) else (corebanklaw50_ShardWalks.j1 k1 (wrap64 (1 + (Int.tmod (wrap64 (a0)) 8))) x8_1 true true x8_1 (wrap64 (1 + (Int.tmod (wrap64 (a0)) 8))) (wrap64 (a1)) x256000_1 x256001_1 t262 t263)) = some r := H
        have A9 := Aside0.mk A90
        clear A90
        have HC10 := Aside0.mk H
        clear H
        have hnb11 := NB254_255.out
        have hnc11 := NB255_254.out
        have hcz12_0 : wr.cell? ⟨gb254, 0, none⟩ = some (.bool true) := (blk_cell BK254.out 0).trans rfl
        have hcz12_1 : wr.cell? ⟨gb254, 1, none⟩ = some (.int .i64 x255001_1) := (blk_cell BK254.out 1).trans rfl
        have hcz12_2 : wr.cell? ⟨gb254, 2, none⟩ = some (.int .i64 (wrap64 (1 + (Int.tmod (wrap64 (a0)) 8)))) := (blk_cell BK254.out 2).trans rfl
        have hcz12_3 : wr.cell? ⟨gb254, 3, none⟩ = some (.int .i64 (wrap64 (a1))) := (blk_cell BK254.out 3).trans rfl
        have hfz12_0 := blk_frozen BK254.out 0
        have hfz12_1 := blk_frozen BK254.out 1
        have hfz12_2 := blk_frozen BK254.out 2
        have hfz12_3 := blk_frozen BK254.out 3
        go_upto_region 9 with (first | ((with_reducible refine gate_callee (f := 16) rfl ?_); refine goesL_ (some 33) rfl rfl Tryd.func16 (by kernel_rfl) rfl #[.agg #[.bool true, .int .i64 x8_1, .int .i64 (wrap64 (1 + (Int.tmod (wrap64 (a0)) 8))), .int .i64 (wrap64 (a1))]] rfl (by (try simp only [List.map_toArray, List.map_cons, List.map_nil]); first | done | rfl | (simp only [List.length_drop, List.length_take]; rfl)) ?_; (with_reducible refine (shard_Next.calls k1 true x8_1 (wrap64 (1 + (Int.tmod (wrap64 (a0)) 8))) (wrap64 (a1)) t262 t263 t264 _ A9.out).mono ?_); rintro e w13 ⟨rfl, hb⟩; refine ⟨_, rfl, ?_⟩; have n0_ := Aside0.mk (blk_below (g := gb254) (o := .cells #[.bool true, .int .i64 x8_1, .int .i64 (wrap64 (1 + (Int.tmod (wrap64 (a0)) 8))), .int .i64 (wrap64 (a1))] 32 (0, 0)) (by (with_reducible repeat (first | refine blk_drewN ?_ _ | refine blk_drew ?_ | refine blk_alloc ?_ _)); refine blk_put (cs := #[.bool true, .int .i64 x255001_1, .int .i64 (wrap64 (1 + (Int.tmod (wrap64 (a0)) 8))), .int .i64 (wrap64 (a1))]) ?_ 1 _ rfl; (with_reducible repeat (first | refine blk_drewN ?_ _ | refine blk_drew ?_ | refine blk_alloc ?_ _)); exact BK254.out) hb); have n1_ := Aside0.mk (blk_below (g := gb255) (o := .cells #[.int .i64 x256000_1, .int .i64 x256001_1] 36 (0, 0)) (by (with_reducible repeat (first | refine blk_drewN ?_ _ | refine blk_drew ?_ | refine blk_alloc ?_ _)); refine blk_far ?_ NB255_254.out _; (with_reducible repeat (first | refine blk_drewN ?_ _ | refine blk_drew ?_ | refine blk_alloc ?_ _)); exact BK255.out) hb); have n2_ := Aside0.mk (below_step (by repeat (first | (with_reducible first | exact HB.out | apply below_alloc | apply pw_below_drewN | apply below_drew1 | refine below_set ?_ GE254.out | refine below_set ?_ GE255.out) | exact HB.out)) hb); clear BK254; clear BK255; clear HB; have BK254 := n0_; have BK255 := n1_; have HB := n2_; clear n0_ n1_ n2_; (try clear hb); (try clear hb2); (try clear hk); (try clear hi)) | ((with_reducible refine gate_dst (N := 9) rfl ?_); refine box_event ?hg (N := 9) ?hd (cs := #[.int .i64 0, .int .i64 0]) (t := 36) ?hr ?_; (case hd => rfl); (case hg => rfl); (case hr => first | (go_simp; done) | (go_simp; rfl)); intro gb265 hg w14 hbox hb; have n0_ := Aside0.mk (blk_below (g := gb254) (o := .cells #[.bool true, .int .i64 x8_1, .int .i64 (wrap64 (1 + (Int.tmod (wrap64 (a0)) 8))), .int .i64 (wrap64 (a1))] 32 (0, 0)) (by (with_reducible repeat (first | refine blk_drewN ?_ _ | refine blk_drew ?_ | refine blk_alloc ?_ _)); exact BK254.out) hb); have n1_ := Aside0.mk (blk_below (g := gb255) (o := .cells #[.int .i64 x256000_1, .int .i64 x256001_1] 36 (0, 0)) (by (with_reducible repeat (first | refine blk_drewN ?_ _ | refine blk_drew ?_ | refine blk_alloc ?_ _)); exact BK255.out) hb); have n2_ := Aside0.mk (below_step (by repeat (first | (with_reducible first | exact HB.out | apply below_alloc | apply pw_below_drewN | apply below_drew1 | refine below_set ?_ GE254.out | refine below_set ?_ GE255.out) | exact HB.out)) hb); have n3_ := Aside0.mk (hbox); have n4_ := Aside0.mk ((by rw [hg]; exact (below_size (by repeat (first | (with_reducible first | exact HB.out | apply below_alloc | apply pw_below_drewN | apply below_drew1 | refine below_set ?_ GE254.out | refine below_set ?_ GE255.out) | exact HB.out))) : w.heap.size ≤ gb265)); have n5_ := Aside0.mk ((by rw [hg]; exact (below_size (by repeat (first | (with_reducible first | exact HB.out | apply below_alloc | apply pw_below_drewN | apply below_drew1 | refine below_set ?_ GE254.out | refine below_set ?_ GE255.out) | exact HB.out))) : w.heap.size ≤ gb265)); have n6_ := Aside0.mk ((by rw [hg]; exact Nat.ne_of_lt (blk_lt (g := gb254) (o := .cells #[.bool true, .int .i64 x8_1, .int .i64 (wrap64 (1 + (Int.tmod (wrap64 (a0)) 8))), .int .i64 (wrap64 (a1))] 32 (0, 0)) (by (with_reducible repeat (first | refine blk_drewN ?_ _ | refine blk_drew ?_ | refine blk_alloc ?_ _)); exact BK254.out)) : gb254 ≠ gb265)); have n7_ := Aside0.mk ((by rw [hg]; exact Nat.ne_of_gt (blk_lt (g := gb254) (o := .cells #[.bool true, .int .i64 x8_1, .int .i64 (wrap64 (1 + (Int.tmod (wrap64 (a0)) 8))), .int .i64 (wrap64 (a1))] 32 (0, 0)) (by (with_reducible repeat (first | refine blk_drewN ?_ _ | refine blk_drew ?_ | refine blk_alloc ?_ _)); exact BK254.out)) : gb265 ≠ gb254)); have n8_ := Aside0.mk ((by rw [hg]; exact Nat.ne_of_lt (blk_lt (g := gb255) (o := .cells #[.int .i64 x256000_1, .int .i64 x256001_1] 36 (0, 0)) (by (with_reducible repeat (first | refine blk_drewN ?_ _ | refine blk_drew ?_ | refine blk_alloc ?_ _)); exact BK255.out)) : gb255 ≠ gb265)); have n9_ := Aside0.mk ((by rw [hg]; exact Nat.ne_of_gt (blk_lt (g := gb255) (o := .cells #[.int .i64 x256000_1, .int .i64 x256001_1] 36 (0, 0)) (by (with_reducible repeat (first | refine blk_drewN ?_ _ | refine blk_drew ?_ | refine blk_alloc ?_ _)); exact BK255.out)) : gb265 ≠ gb255)); clear BK254; clear BK255; clear HB; have BK254 := n0_; have BK255 := n1_; have HB := n2_; have BK265 := n3_; have GW265 := n4_; have GE265 := n5_; have NB254_265 := n6_; have NB265_254 := n7_; have NB255_265 := n8_; have NB265_255 := n9_; clear n0_ n1_ n2_ n3_ n4_ n5_ n6_ n7_ n8_ n9_; clear hb hbox hg; have hnb15 := NB265_254.out; have hnc15 := NB254_265.out; have hnb16 := NB265_255.out; have hnc16 := NB255_265.out; have hcz17_0 : w14.cell? ⟨gb265, 0, none⟩ = some (.int .i64 0) := (blk_cell BK265.out 0).trans rfl; have hcz17_1 : w14.cell? ⟨gb265, 1, none⟩ = some (.int .i64 0) := (blk_cell BK265.out 1).trans rfl; have hfz17_0 := blk_frozen BK265.out 0; have hfz17_1 := blk_frozen BK265.out 1))
        (try simp only [Act.put, List.setIfInBounds_toArray, List.set_cons_zero, List.set_cons_succ])
        go_cut [53] (fun v53 wc => ∃ (kq : Nat) (x53_9 : Bool), v53 = .bool x53_9 ∧ Aside0 (corebanklaw50_ShardWalks.j1 kq (wrap64 (1 + (Int.tmod (wrap64 (a0)) 8))) x8_1 x53_9 true x8_1 (wrap64 (1 + (Int.tmod (wrap64 (a0)) 8))) (wrap64 (a1)) x256000_1 x256001_1 t262 t263 = some r) ∧ Aside0 (kq ≤ k1) ∧ Aside0 (wc.heap[gb254]? = some (.cells #[.bool true, .int .i64 x8_1, .int .i64 (wrap64 (1 + (Int.tmod (wrap64 (a0)) 8))), .int .i64 (wrap64 (a1))] 32 (0, 0))) ∧ Aside0 (wc.heap[gb255]? = some (.cells #[.int .i64 x256000_1, .int .i64 x256001_1] 36 (0, 0))) ∧ Aside0 (wc.heap[gb265]? = some (.cells #[.int .i64 t262, .int .i64 t263] 36 (0, 0))) ∧ Aside0 (Below w.heap.size w wc))
        case first =>
          have H := HC10.out
          clear HC10
          by_cases c18 : t264 = true
          · subst c18
            have H1 : ((shard_Check.f k1 true x8_1 (wrap64 (1 + (Int.tmod (wrap64 (a0)) 8))) (wrap64 (a1))).bind fun t266 => (if t266 = 0 then (if t263 < 0 then (corebanklaw50_ShardWalks.j1 k1 (wrap64 (1 + (Int.tmod (wrap64 (a0)) 8))) x8_1 true true x8_1 (wrap64 (1 + (Int.tmod (wrap64 (a0)) 8))) (wrap64 (a1)) x256000_1 x256001_1 t262 t263) else (corebanklaw50_ShardWalks.j1 k1 (wrap64 (1 + (Int.tmod (wrap64 (a0)) 8))) x8_1 (decide (t263 ≥ (wrap64 (1 + (Int.tmod (wrap64 (a0)) 8))))) true x8_1 (wrap64 (1 + (Int.tmod (wrap64 (a0)) 8))) (wrap64 (a1)) x256000_1 x256001_1 t262 t263)) else (corebanklaw50_ShardWalks.j1 k1 (wrap64 (1 + (Int.tmod (wrap64 (a0)) 8))) x8_1 true true x8_1 (wrap64 (1 + (Int.tmod (wrap64 (a0)) 8))) (wrap64 (a1)) x256000_1 x256001_1 t262 t263))) = some r := by rw [if_pos rfl] at H; exact H
            clear H
            have H := H1
            clear H1
            replace H := Option.bind_eq_some_iff.mp H
            obtain ⟨t266, A190, H⟩ := H
            replace H : (if t266 = 0 then (if t263 < 0 then (corebanklaw50_ShardWalks.j1 k1 (wrap64 (1 + (Int.tmod (wrap64 (a0)) 8))) x8_1 true true x8_1 (wrap64 (1 + (Int.tmod (wrap64 (a0)) 8))) (wrap64 (a1)) x256000_1 x256001_1 t262 t263) else (corebanklaw50_ShardWalks.j1 k1 (wrap64 (1 + (Int.tmod (wrap64 (a0)) 8))) x8_1 (decide (t263 ≥ (wrap64 (1 + (Int.tmod (wrap64 (a0)) 8))))) true x8_1 (wrap64 (1 + (Int.tmod (wrap64 (a0)) 8))) (wrap64 (a1)) x256000_1 x256001_1 t262 t263)) else (corebanklaw50_ShardWalks.j1 k1 (wrap64 (1 + (Int.tmod (wrap64 (a0)) 8))) x8_1 true true x8_1 (wrap64 (1 + (Int.tmod (wrap64 (a0)) 8))) (wrap64 (a1)) x256000_1 x256001_1 t262 t263)) = some r := H
            have A19 := Aside0.mk A190
            clear A190
            by_cases c20 : t266 = 0
            · rw [if_pos c20] at H
              have c20b0 : (t266 == 0) = true := beq_iff_eq.mpr c20
              have c20b1 : (t266 != 0) = false := bne_eq_false_iff_eq.mpr c20
              clear c20
              (first | rw [c20b0] | (simp only [i64_w, i32_w]; rw [c20b0]) | skip)
              by_cases c21 : t263 < 0
              · rw [if_pos c21] at H
                have c21b0 : decide (t263 < 0) = true := decide_eq_true c21
                clear c21
                have H' := Aside0.mk H
                clear H
                have hnb22 := NB254_255.out
                have hnc22 := NB255_254.out
                have hnb23 := NB254_265.out
                have hnc23 := NB265_254.out
                have hcz24_0 : w14.cell? ⟨gb254, 0, none⟩ = some (.bool true) := (blk_cell BK254.out 0).trans rfl
                have hcz24_1 : w14.cell? ⟨gb254, 1, none⟩ = some (.int .i64 x8_1) := (blk_cell BK254.out 1).trans rfl
                have hcz24_2 : w14.cell? ⟨gb254, 2, none⟩ = some (.int .i64 (wrap64 (1 + (Int.tmod (wrap64 (a0)) 8)))) := (blk_cell BK254.out 2).trans rfl
                have hcz24_3 : w14.cell? ⟨gb254, 3, none⟩ = some (.int .i64 (wrap64 (a1))) := (blk_cell BK254.out 3).trans rfl
                have hfz24_0 := blk_frozen BK254.out 0
                have hfz24_1 := blk_frozen BK254.out 1
                have hfz24_2 := blk_frozen BK254.out 2
                have hfz24_3 := blk_frozen BK254.out 3
                go_wp2_with (first | (go_at_call 18; (with_reducible refine (shard_Check.calls k1 true x8_1 (wrap64 (1 + (Int.tmod (wrap64 (a0)) 8))) (wrap64 (a1)) t266 _ A19.out).mono ?_); rintro e w25 ⟨rfl, hb⟩; have n0_ := Aside0.mk (blk_below (g := gb254) (o := .cells #[.bool true, .int .i64 x8_1, .int .i64 (wrap64 (1 + (Int.tmod (wrap64 (a0)) 8))), .int .i64 (wrap64 (a1))] 32 (0, 0)) (by (with_reducible repeat (first | refine blk_drewN ?_ _ | refine blk_drew ?_ | refine blk_alloc ?_ _)); refine blk_far ?_ NB254_265.out _; (with_reducible repeat (first | refine blk_drewN ?_ _ | refine blk_drew ?_ | refine blk_alloc ?_ _)); refine blk_far ?_ NB254_265.out _; (with_reducible repeat (first | refine blk_drewN ?_ _ | refine blk_drew ?_ | refine blk_alloc ?_ _)); exact BK254.out) hb); have n1_ := Aside0.mk (blk_below (g := gb255) (o := .cells #[.int .i64 x256000_1, .int .i64 x256001_1] 36 (0, 0)) (by (with_reducible repeat (first | refine blk_drewN ?_ _ | refine blk_drew ?_ | refine blk_alloc ?_ _)); refine blk_far ?_ NB255_265.out _; (with_reducible repeat (first | refine blk_drewN ?_ _ | refine blk_drew ?_ | refine blk_alloc ?_ _)); refine blk_far ?_ NB255_265.out _; (with_reducible repeat (first | refine blk_drewN ?_ _ | refine blk_drew ?_ | refine blk_alloc ?_ _)); exact BK255.out) hb); have n2_ := Aside0.mk (blk_below (g := gb265) (o := .cells #[.int .i64 t262, .int .i64 t263] 36 (0, 0)) (by (with_reducible repeat (first | refine blk_drewN ?_ _ | refine blk_drew ?_ | refine blk_alloc ?_ _)); refine blk_put (cs := #[.int .i64 t262, .int .i64 0]) ?_ 1 _ rfl; (with_reducible repeat (first | refine blk_drewN ?_ _ | refine blk_drew ?_ | refine blk_alloc ?_ _)); refine blk_put (cs := #[.int .i64 0, .int .i64 0]) ?_ 0 _ rfl; (with_reducible repeat (first | refine blk_drewN ?_ _ | refine blk_drew ?_ | refine blk_alloc ?_ _)); exact BK265.out) hb); have n3_ := Aside0.mk (below_step (by repeat (first | (with_reducible first | exact HB.out | apply below_alloc | apply pw_below_drewN | apply below_drew1 | refine below_set ?_ GE254.out | refine below_set ?_ GE255.out | refine below_set ?_ GE265.out) | exact HB.out)) hb); clear BK254; clear BK255; clear BK265; clear HB; have BK254 := n0_; have BK255 := n1_; have BK265 := n2_; have HB := n3_; clear n0_ n1_ n2_ n3_; (try clear hb); (try clear hb2); (try clear hk); (try clear hi); have hnb26 := NB265_255.out; have hnc26 := NB255_265.out; have hcz27_0 : w25.cell? ⟨gb265, 0, none⟩ = some (.int .i64 t262) := (blk_cell BK265.out 0).trans rfl; have hcz27_1 : w25.cell? ⟨gb265, 1, none⟩ = some (.int .i64 t263) := (blk_cell BK265.out 1).trans rfl; have hfz27_0 := blk_frozen BK265.out 0; have hfz27_1 := blk_frozen BK265.out 1))
                go_meet
                case rel => exact ⟨_, (true), (by first | rfl | (simp; done) | (simp [*]; done)), H', ⟨by have := HK1.out; first | omega | exact Nat.le_refl _⟩, ⟨by (with_reducible repeat (first | refine blk_drewN ?_ _ | refine blk_drew ?_ | refine blk_alloc ?_ _)); exact BK254.out⟩, ⟨by (with_reducible repeat (first | refine blk_drewN ?_ _ | refine blk_drew ?_ | refine blk_alloc ?_ _)); exact BK255.out⟩, ⟨by (with_reducible repeat (first | refine blk_drewN ?_ _ | refine blk_drew ?_ | refine blk_alloc ?_ _)); exact BK265.out⟩, ⟨by repeat (first | (with_reducible first | exact HB.out | apply below_alloc | apply pw_below_drewN | apply below_drew1 | refine below_set ?_ GE254.out | refine below_set ?_ GE255.out | refine below_set ?_ GE265.out) | exact HB.out)⟩⟩
              · rw [if_neg c21] at H
                have c21b0 : decide (t263 < 0) = false := decide_eq_false c21
                clear c21
                have H' := Aside0.mk H
                clear H
                have hnb28 := NB254_255.out
                have hnc28 := NB255_254.out
                have hnb29 := NB254_265.out
                have hnc29 := NB265_254.out
                have hcz30_0 : w14.cell? ⟨gb254, 0, none⟩ = some (.bool true) := (blk_cell BK254.out 0).trans rfl
                have hcz30_1 : w14.cell? ⟨gb254, 1, none⟩ = some (.int .i64 x8_1) := (blk_cell BK254.out 1).trans rfl
                have hcz30_2 : w14.cell? ⟨gb254, 2, none⟩ = some (.int .i64 (wrap64 (1 + (Int.tmod (wrap64 (a0)) 8)))) := (blk_cell BK254.out 2).trans rfl
                have hcz30_3 : w14.cell? ⟨gb254, 3, none⟩ = some (.int .i64 (wrap64 (a1))) := (blk_cell BK254.out 3).trans rfl
                have hfz30_0 := blk_frozen BK254.out 0
                have hfz30_1 := blk_frozen BK254.out 1
                have hfz30_2 := blk_frozen BK254.out 2
                have hfz30_3 := blk_frozen BK254.out 3
                go_wp2_with (first | (go_at_call 18; (with_reducible refine (shard_Check.calls k1 true x8_1 (wrap64 (1 + (Int.tmod (wrap64 (a0)) 8))) (wrap64 (a1)) t266 _ A19.out).mono ?_); rintro e w31 ⟨rfl, hb⟩; have n0_ := Aside0.mk (blk_below (g := gb254) (o := .cells #[.bool true, .int .i64 x8_1, .int .i64 (wrap64 (1 + (Int.tmod (wrap64 (a0)) 8))), .int .i64 (wrap64 (a1))] 32 (0, 0)) (by (with_reducible repeat (first | refine blk_drewN ?_ _ | refine blk_drew ?_ | refine blk_alloc ?_ _)); refine blk_far ?_ NB254_265.out _; (with_reducible repeat (first | refine blk_drewN ?_ _ | refine blk_drew ?_ | refine blk_alloc ?_ _)); refine blk_far ?_ NB254_265.out _; (with_reducible repeat (first | refine blk_drewN ?_ _ | refine blk_drew ?_ | refine blk_alloc ?_ _)); exact BK254.out) hb); have n1_ := Aside0.mk (blk_below (g := gb255) (o := .cells #[.int .i64 x256000_1, .int .i64 x256001_1] 36 (0, 0)) (by (with_reducible repeat (first | refine blk_drewN ?_ _ | refine blk_drew ?_ | refine blk_alloc ?_ _)); refine blk_far ?_ NB255_265.out _; (with_reducible repeat (first | refine blk_drewN ?_ _ | refine blk_drew ?_ | refine blk_alloc ?_ _)); refine blk_far ?_ NB255_265.out _; (with_reducible repeat (first | refine blk_drewN ?_ _ | refine blk_drew ?_ | refine blk_alloc ?_ _)); exact BK255.out) hb); have n2_ := Aside0.mk (blk_below (g := gb265) (o := .cells #[.int .i64 t262, .int .i64 t263] 36 (0, 0)) (by (with_reducible repeat (first | refine blk_drewN ?_ _ | refine blk_drew ?_ | refine blk_alloc ?_ _)); refine blk_put (cs := #[.int .i64 t262, .int .i64 0]) ?_ 1 _ rfl; (with_reducible repeat (first | refine blk_drewN ?_ _ | refine blk_drew ?_ | refine blk_alloc ?_ _)); refine blk_put (cs := #[.int .i64 0, .int .i64 0]) ?_ 0 _ rfl; (with_reducible repeat (first | refine blk_drewN ?_ _ | refine blk_drew ?_ | refine blk_alloc ?_ _)); exact BK265.out) hb); have n3_ := Aside0.mk (below_step (by repeat (first | (with_reducible first | exact HB.out | apply below_alloc | apply pw_below_drewN | apply below_drew1 | refine below_set ?_ GE254.out | refine below_set ?_ GE255.out | refine below_set ?_ GE265.out) | exact HB.out)) hb); clear BK254; clear BK255; clear BK265; clear HB; have BK254 := n0_; have BK255 := n1_; have BK265 := n2_; have HB := n3_; clear n0_ n1_ n2_ n3_; (try clear hb); (try clear hb2); (try clear hk); (try clear hi); have hnb32 := NB265_255.out; have hnc32 := NB255_265.out; have hcz33_0 : w31.cell? ⟨gb265, 0, none⟩ = some (.int .i64 t262) := (blk_cell BK265.out 0).trans rfl; have hcz33_1 : w31.cell? ⟨gb265, 1, none⟩ = some (.int .i64 t263) := (blk_cell BK265.out 1).trans rfl; have hfz33_0 := blk_frozen BK265.out 0; have hfz33_1 := blk_frozen BK265.out 1))
                go_meet
                case rel => exact ⟨_, (decide (t263 ≥ (wrap64 (1 + (Int.tmod (wrap64 (a0)) 8))))), (by first | rfl | (simp; done) | (simp [*]; done)), H', ⟨by have := HK1.out; first | omega | exact Nat.le_refl _⟩, ⟨by (with_reducible repeat (first | refine blk_drewN ?_ _ | refine blk_drew ?_ | refine blk_alloc ?_ _)); exact BK254.out⟩, ⟨by (with_reducible repeat (first | refine blk_drewN ?_ _ | refine blk_drew ?_ | refine blk_alloc ?_ _)); exact BK255.out⟩, ⟨by (with_reducible repeat (first | refine blk_drewN ?_ _ | refine blk_drew ?_ | refine blk_alloc ?_ _)); exact BK265.out⟩, ⟨by repeat (first | (with_reducible first | exact HB.out | apply below_alloc | apply pw_below_drewN | apply below_drew1 | refine below_set ?_ GE254.out | refine below_set ?_ GE255.out | refine below_set ?_ GE265.out) | exact HB.out)⟩⟩
            · rw [if_neg c20] at H
              have c20b0 : (t266 == 0) = false := beq_eq_false_iff_ne.mpr c20
              have c20b1 : (t266 != 0) = true := bne_iff_ne.mpr c20
              (first | rw [c20b0] | (simp only [i64_w, i32_w]; rw [c20b0]) | skip)
              have H' := Aside0.mk H
              clear H
              have hnb34 := NB254_255.out
              have hnc34 := NB255_254.out
              have hnb35 := NB254_265.out
              have hnc35 := NB265_254.out
              have hcz36_0 : w14.cell? ⟨gb254, 0, none⟩ = some (.bool true) := (blk_cell BK254.out 0).trans rfl
              have hcz36_1 : w14.cell? ⟨gb254, 1, none⟩ = some (.int .i64 x8_1) := (blk_cell BK254.out 1).trans rfl
              have hcz36_2 : w14.cell? ⟨gb254, 2, none⟩ = some (.int .i64 (wrap64 (1 + (Int.tmod (wrap64 (a0)) 8)))) := (blk_cell BK254.out 2).trans rfl
              have hcz36_3 : w14.cell? ⟨gb254, 3, none⟩ = some (.int .i64 (wrap64 (a1))) := (blk_cell BK254.out 3).trans rfl
              have hfz36_0 := blk_frozen BK254.out 0
              have hfz36_1 := blk_frozen BK254.out 1
              have hfz36_2 := blk_frozen BK254.out 2
              have hfz36_3 := blk_frozen BK254.out 3
              go_wp2_with (first | (go_at_call 18; (with_reducible refine (shard_Check.calls k1 true x8_1 (wrap64 (1 + (Int.tmod (wrap64 (a0)) 8))) (wrap64 (a1)) t266 _ A19.out).mono ?_); rintro e w37 ⟨rfl, hb⟩; have n0_ := Aside0.mk (blk_below (g := gb254) (o := .cells #[.bool true, .int .i64 x8_1, .int .i64 (wrap64 (1 + (Int.tmod (wrap64 (a0)) 8))), .int .i64 (wrap64 (a1))] 32 (0, 0)) (by (with_reducible repeat (first | refine blk_drewN ?_ _ | refine blk_drew ?_ | refine blk_alloc ?_ _)); refine blk_far ?_ NB254_265.out _; (with_reducible repeat (first | refine blk_drewN ?_ _ | refine blk_drew ?_ | refine blk_alloc ?_ _)); refine blk_far ?_ NB254_265.out _; (with_reducible repeat (first | refine blk_drewN ?_ _ | refine blk_drew ?_ | refine blk_alloc ?_ _)); exact BK254.out) hb); have n1_ := Aside0.mk (blk_below (g := gb255) (o := .cells #[.int .i64 x256000_1, .int .i64 x256001_1] 36 (0, 0)) (by (with_reducible repeat (first | refine blk_drewN ?_ _ | refine blk_drew ?_ | refine blk_alloc ?_ _)); refine blk_far ?_ NB255_265.out _; (with_reducible repeat (first | refine blk_drewN ?_ _ | refine blk_drew ?_ | refine blk_alloc ?_ _)); refine blk_far ?_ NB255_265.out _; (with_reducible repeat (first | refine blk_drewN ?_ _ | refine blk_drew ?_ | refine blk_alloc ?_ _)); exact BK255.out) hb); have n2_ := Aside0.mk (blk_below (g := gb265) (o := .cells #[.int .i64 t262, .int .i64 t263] 36 (0, 0)) (by (with_reducible repeat (first | refine blk_drewN ?_ _ | refine blk_drew ?_ | refine blk_alloc ?_ _)); refine blk_put (cs := #[.int .i64 t262, .int .i64 0]) ?_ 1 _ rfl; (with_reducible repeat (first | refine blk_drewN ?_ _ | refine blk_drew ?_ | refine blk_alloc ?_ _)); refine blk_put (cs := #[.int .i64 0, .int .i64 0]) ?_ 0 _ rfl; (with_reducible repeat (first | refine blk_drewN ?_ _ | refine blk_drew ?_ | refine blk_alloc ?_ _)); exact BK265.out) hb); have n3_ := Aside0.mk (below_step (by repeat (first | (with_reducible first | exact HB.out | apply below_alloc | apply pw_below_drewN | apply below_drew1 | refine below_set ?_ GE254.out | refine below_set ?_ GE255.out | refine below_set ?_ GE265.out) | exact HB.out)) hb); clear BK254; clear BK255; clear BK265; clear HB; have BK254 := n0_; have BK255 := n1_; have BK265 := n2_; have HB := n3_; clear n0_ n1_ n2_ n3_; (try clear hb); (try clear hb2); (try clear hk); (try clear hi)))
              go_meet
              case rel => exact ⟨_, (true), (by first | rfl | (simp; done) | (simp [*]; done)), H', ⟨by have := HK1.out; first | omega | exact Nat.le_refl _⟩, ⟨by (with_reducible repeat (first | refine blk_drewN ?_ _ | refine blk_drew ?_ | refine blk_alloc ?_ _)); exact BK254.out⟩, ⟨by (with_reducible repeat (first | refine blk_drewN ?_ _ | refine blk_drew ?_ | refine blk_alloc ?_ _)); exact BK255.out⟩, ⟨by (with_reducible repeat (first | refine blk_drewN ?_ _ | refine blk_drew ?_ | refine blk_alloc ?_ _)); exact BK265.out⟩, ⟨by repeat (first | (with_reducible first | exact HB.out | apply below_alloc | apply pw_below_drewN | apply below_drew1 | refine below_set ?_ GE254.out | refine below_set ?_ GE255.out | refine below_set ?_ GE265.out) | exact HB.out)⟩⟩
          · replace c18 := Bool.eq_false_iff.mpr c18
            subst c18
            have H1 : (corebanklaw50_ShardWalks.j1 k1 (wrap64 (1 + (Int.tmod (wrap64 (a0)) 8))) x8_1 true true x8_1 (wrap64 (1 + (Int.tmod (wrap64 (a0)) 8))) (wrap64 (a1)) x256000_1 x256001_1 t262 t263) = some r := by rw [if_neg (show ¬ (false = true) by decide)] at H; exact H
            clear H
            have H := H1
            clear H1
            have H' := Aside0.mk H
            clear H
            go_wp2
            go_meet
            case rel => exact ⟨_, (true), (by first | rfl | (simp; done) | (simp [*]; done)), H', ⟨by have := HK1.out; first | omega | exact Nat.le_refl _⟩, ⟨by (with_reducible repeat (first | refine blk_drewN ?_ _ | refine blk_drew ?_ | refine blk_alloc ?_ _)); refine blk_far ?_ NB254_265.out _; (with_reducible repeat (first | refine blk_drewN ?_ _ | refine blk_drew ?_ | refine blk_alloc ?_ _)); refine blk_far ?_ NB254_265.out _; (with_reducible repeat (first | refine blk_drewN ?_ _ | refine blk_drew ?_ | refine blk_alloc ?_ _)); exact BK254.out⟩, ⟨by (with_reducible repeat (first | refine blk_drewN ?_ _ | refine blk_drew ?_ | refine blk_alloc ?_ _)); refine blk_far ?_ NB255_265.out _; (with_reducible repeat (first | refine blk_drewN ?_ _ | refine blk_drew ?_ | refine blk_alloc ?_ _)); refine blk_far ?_ NB255_265.out _; (with_reducible repeat (first | refine blk_drewN ?_ _ | refine blk_drew ?_ | refine blk_alloc ?_ _)); exact BK255.out⟩, ⟨by (with_reducible repeat (first | refine blk_drewN ?_ _ | refine blk_drew ?_ | refine blk_alloc ?_ _)); refine blk_put (cs := #[.int .i64 t262, .int .i64 0]) ?_ 1 _ rfl; (with_reducible repeat (first | refine blk_drewN ?_ _ | refine blk_drew ?_ | refine blk_alloc ?_ _)); refine blk_put (cs := #[.int .i64 0, .int .i64 0]) ?_ 0 _ rfl; (with_reducible repeat (first | refine blk_drewN ?_ _ | refine blk_drew ?_ | refine blk_alloc ?_ _)); exact BK265.out⟩, ⟨by repeat (first | (with_reducible first | exact HB.out | apply below_alloc | apply pw_below_drewN | apply below_drew1 | refine below_set ?_ GE254.out | refine below_set ?_ GE255.out | refine below_set ?_ GE265.out) | exact HB.out)⟩⟩
        case rest =>
          clear HC10
          try clear c1
          try clear c2
          try clear p2
          try clear c3
          try clear c6
          try clear p6
          try clear c7
          try clear c8
          try clear c8b0
          try clear c11
          try clear c15
          try clear c16
          try clear c18
          try clear c20
          try clear c20b0
          try clear c20b1
          try clear c21
          try clear c21b0
          try clear c22
          try clear c23
          try clear c26
          try clear c28
          try clear c29
          try clear c32
          try clear c34
          try clear c35
          try clear hcz12_0
          try clear hcz12_1
          try clear hcz12_2
          try clear hcz12_3
          try clear hcz17_0
          try clear hcz17_1
          try clear hcz24_0
          try clear hcz24_1
          try clear hcz24_2
          try clear hcz24_3
          try clear hcz27_0
          try clear hcz27_1
          try clear hcz30_0
          try clear hcz30_1
          try clear hcz30_2
          try clear hcz30_3
          try clear hcz33_0
          try clear hcz33_1
          try clear hcz36_0
          try clear hcz36_1
          try clear hcz36_2
          try clear hcz36_3
          try clear hcz4_0
          try clear hcz4_1
          try clear hcz4_2
          try clear hcz4_3
          try clear hcz7_0
          try clear hcz7_1
          try clear hfz12_0
          try clear hfz12_1
          try clear hfz12_2
          try clear hfz12_3
          try clear hfz17_0
          try clear hfz17_1
          try clear hfz24_0
          try clear hfz24_1
          try clear hfz24_2
          try clear hfz24_3
          try clear hfz27_0
          try clear hfz27_1
          try clear hfz30_0
          try clear hfz30_1
          try clear hfz30_2
          try clear hfz30_3
          try clear hfz33_0
          try clear hfz33_1
          try clear hfz36_0
          try clear hfz36_1
          try clear hfz36_2
          try clear hfz36_3
          try clear hfz4_0
          try clear hfz4_1
          try clear hfz4_2
          try clear hfz4_3
          try clear hfz7_0
          try clear hfz7_1
          try clear p2
          try clear p6
          obtain ⟨kq, x53_9, rfl, HA, HJ9, BK254, BK255, BK265, HB⟩ := hcut
          cases kq with
          | zero => exact absurd HA.out (by simp [corebanklaw50_ShardWalks.j1])
          | succ kj9 =>
            have H := HA.out
            clear HA
            simp only [corebanklaw50_ShardWalks.j1] at H
            by_cases c38 : x53_9 = true
            · subst c38
              have H1 : (some false) = some r := by rw [if_pos rfl] at H; exact H
              clear H
              have H := H1
              clear H1
              exact absurd ((Option.some.inj H).trans HT.out) (by simp)
            · replace c38 := Bool.eq_false_iff.mpr c38
              subst c38
              have H1 : (if x8_1 > 0 then (if t262 < x256000_1 then (some false) else (if t262 = x256000_1 then (if t263 ≤ x256001_1 then (some false) else (corebanklaw50_ShardWalks.l0 kj9 (wrap64 (1 + (Int.tmod (wrap64 (a0)) 8))) (wrap64 (x8_1 + 1)) true x8_1 (wrap64 (1 + (Int.tmod (wrap64 (a0)) 8))) (wrap64 (a1)) t262 t263)) else (corebanklaw50_ShardWalks.l0 kj9 (wrap64 (1 + (Int.tmod (wrap64 (a0)) 8))) (wrap64 (x8_1 + 1)) true x8_1 (wrap64 (1 + (Int.tmod (wrap64 (a0)) 8))) (wrap64 (a1)) t262 t263))) else (corebanklaw50_ShardWalks.l0 kj9 (wrap64 (1 + (Int.tmod (wrap64 (a0)) 8))) (wrap64 (x8_1 + 1)) true x8_1 (wrap64 (1 + (Int.tmod (wrap64 (a0)) 8))) (wrap64 (a1)) t262 t263)) = some r := by rw [if_neg (show ¬ (false = true) by decide)] at H; exact H
              clear H
              have H := H1
              clear H1
              by_cases c39 : x8_1 > 0
              · rw [if_pos c39] at H
                have c39b0 : decide (0 < x8_1) = true := decide_eq_true c39
                clear c39
                by_cases c40 : t262 < x256000_1
                · rw [if_pos c40] at H
                  have c40b0 : decide (t262 < x256000_1) = true := decide_eq_true c40
                  clear c40
                  exact absurd ((Option.some.inj H).trans HT.out) (by simp)
                · rw [if_neg c40] at H
                  have c40b0 : decide (t262 < x256000_1) = false := decide_eq_false c40
                  clear c40
                  by_cases c41 : t262 = x256000_1
                  · rw [if_pos c41] at H
                    have c41b0 : (t262 == x256000_1) = true := beq_iff_eq.mpr c41
                    have c41b1 : (t262 != x256000_1) = false := bne_eq_false_iff_eq.mpr c41
                    clear c41
                    by_cases c42 : t263 ≤ x256001_1
                    · rw [if_pos c42] at H
                      have c42b0 : decide (t263 ≤ x256001_1) = true := decide_eq_true c42
                      clear c42
                      exact absurd ((Option.some.inj H).trans HT.out) (by simp)
                    · rw [if_neg c42] at H
                      have c42b0 : decide (t263 ≤ x256001_1) = false := decide_eq_false c42
                      clear c42
                      have H' := Aside0.mk H
                      clear H
                      have hnb43 := NB265_254.out
                      have hnc43 := NB254_265.out
                      have hnb44 := NB265_255.out
                      have hnc44 := NB255_265.out
                      have hcz45_0 : wc.cell? ⟨gb265, 0, none⟩ = some (.int .i64 t262) := (blk_cell BK265.out 0).trans rfl
                      have hcz45_1 : wc.cell? ⟨gb265, 1, none⟩ = some (.int .i64 t263) := (blk_cell BK265.out 1).trans rfl
                      have hfz45_0 := blk_frozen BK265.out 0
                      have hfz45_1 := blk_frozen BK265.out 1
                      have hnb46 := NB255_254.out
                      have hnc46 := NB254_255.out
                      have hcz47_0 : wc.cell? ⟨gb255, 0, none⟩ = some (.int .i64 x256000_1) := (blk_cell BK255.out 0).trans rfl
                      have hcz47_1 : wc.cell? ⟨gb255, 1, none⟩ = some (.int .i64 x256001_1) := (blk_cell BK255.out 1).trans rfl
                      have hfz47_0 := blk_frozen BK255.out 0
                      have hfz47_1 := blk_frozen BK255.out 1
                      go_wp2
                      go_roundg kj9
                      case measure => have := HK1.out; have := HJ9.out; omega
                      case rel => exact ⟨(wrap64 (x8_1 + 1)), (x8_1), (t262), (t263), (by first | rfl | (simp; done) | (simp [*]; done)), H', ⟨by have := HK1.out; have := HJ9.out; omega⟩, ⟨by (with_reducible repeat (first | refine blk_drewN ?_ _ | refine blk_drew ?_ | refine blk_alloc ?_ _)); refine blk_far ?_ NB254_255.out _; (with_reducible repeat (first | refine blk_drewN ?_ _ | refine blk_drew ?_ | refine blk_alloc ?_ _)); refine blk_far ?_ NB254_255.out _; (with_reducible repeat (first | refine blk_drewN ?_ _ | refine blk_drew ?_ | refine blk_alloc ?_ _)); exact BK254.out⟩, ⟨by (with_reducible repeat (first | refine blk_drewN ?_ _ | refine blk_drew ?_ | refine blk_alloc ?_ _)); refine blk_put (cs := #[.int .i64 t262, .int .i64 x256001_1]) ?_ 1 _ rfl; (with_reducible repeat (first | refine blk_drewN ?_ _ | refine blk_drew ?_ | refine blk_alloc ?_ _)); refine blk_put (cs := #[.int .i64 x256000_1, .int .i64 x256001_1]) ?_ 0 _ rfl; (with_reducible repeat (first | refine blk_drewN ?_ _ | refine blk_drew ?_ | refine blk_alloc ?_ _)); exact BK255.out⟩, ⟨by repeat (first | (with_reducible first | exact HB.out | apply below_alloc | apply pw_below_drewN | apply below_drew1 | refine below_set ?_ GE254.out | refine below_set ?_ GE255.out | refine below_set ?_ GE265.out) | exact HB.out)⟩⟩
                  · rw [if_neg c41] at H
                    have c41b0 : (t262 == x256000_1) = false := beq_eq_false_iff_ne.mpr c41
                    have c41b1 : (t262 != x256000_1) = true := bne_iff_ne.mpr c41
                    have H' := Aside0.mk H
                    clear H
                    have hnb48 := NB265_254.out
                    have hnc48 := NB254_265.out
                    have hnb49 := NB265_255.out
                    have hnc49 := NB255_265.out
                    have hcz50_0 : wc.cell? ⟨gb265, 0, none⟩ = some (.int .i64 t262) := (blk_cell BK265.out 0).trans rfl
                    have hcz50_1 : wc.cell? ⟨gb265, 1, none⟩ = some (.int .i64 t263) := (blk_cell BK265.out 1).trans rfl
                    have hfz50_0 := blk_frozen BK265.out 0
                    have hfz50_1 := blk_frozen BK265.out 1
                    have hnb51 := NB255_254.out
                    have hnc51 := NB254_255.out
                    have hcz52_0 : wc.cell? ⟨gb255, 0, none⟩ = some (.int .i64 x256000_1) := (blk_cell BK255.out 0).trans rfl
                    have hcz52_1 : wc.cell? ⟨gb255, 1, none⟩ = some (.int .i64 x256001_1) := (blk_cell BK255.out 1).trans rfl
                    have hfz52_0 := blk_frozen BK255.out 0
                    have hfz52_1 := blk_frozen BK255.out 1
                    go_wp2
                    go_roundg kj9
                    case measure => have := HK1.out; have := HJ9.out; omega
                    case rel => exact ⟨(wrap64 (x8_1 + 1)), (x8_1), (t262), (t263), (by first | rfl | (simp; done) | (simp [*]; done)), H', ⟨by have := HK1.out; have := HJ9.out; omega⟩, ⟨by (with_reducible repeat (first | refine blk_drewN ?_ _ | refine blk_drew ?_ | refine blk_alloc ?_ _)); refine blk_far ?_ NB254_255.out _; (with_reducible repeat (first | refine blk_drewN ?_ _ | refine blk_drew ?_ | refine blk_alloc ?_ _)); refine blk_far ?_ NB254_255.out _; (with_reducible repeat (first | refine blk_drewN ?_ _ | refine blk_drew ?_ | refine blk_alloc ?_ _)); exact BK254.out⟩, ⟨by (with_reducible repeat (first | refine blk_drewN ?_ _ | refine blk_drew ?_ | refine blk_alloc ?_ _)); refine blk_put (cs := #[.int .i64 t262, .int .i64 x256001_1]) ?_ 1 _ rfl; (with_reducible repeat (first | refine blk_drewN ?_ _ | refine blk_drew ?_ | refine blk_alloc ?_ _)); refine blk_put (cs := #[.int .i64 x256000_1, .int .i64 x256001_1]) ?_ 0 _ rfl; (with_reducible repeat (first | refine blk_drewN ?_ _ | refine blk_drew ?_ | refine blk_alloc ?_ _)); exact BK255.out⟩, ⟨by repeat (first | (with_reducible first | exact HB.out | apply below_alloc | apply pw_below_drewN | apply below_drew1 | refine below_set ?_ GE254.out | refine below_set ?_ GE255.out | refine below_set ?_ GE265.out) | exact HB.out)⟩⟩
              · rw [if_neg c39] at H
                have c39b0 : decide (0 < x8_1) = false := decide_eq_false c39
                clear c39
                have H' := Aside0.mk H
                clear H
                have hnb53 := NB265_254.out
                have hnc53 := NB254_265.out
                have hnb54 := NB265_255.out
                have hnc54 := NB255_265.out
                have hcz55_0 : wc.cell? ⟨gb265, 0, none⟩ = some (.int .i64 t262) := (blk_cell BK265.out 0).trans rfl
                have hcz55_1 : wc.cell? ⟨gb265, 1, none⟩ = some (.int .i64 t263) := (blk_cell BK265.out 1).trans rfl
                have hfz55_0 := blk_frozen BK265.out 0
                have hfz55_1 := blk_frozen BK265.out 1
                have hnb56 := NB255_254.out
                have hnc56 := NB254_255.out
                have hcz57_0 : wc.cell? ⟨gb255, 0, none⟩ = some (.int .i64 x256000_1) := (blk_cell BK255.out 0).trans rfl
                have hcz57_1 : wc.cell? ⟨gb255, 1, none⟩ = some (.int .i64 x256001_1) := (blk_cell BK255.out 1).trans rfl
                have hfz57_0 := blk_frozen BK255.out 0
                have hfz57_1 := blk_frozen BK255.out 1
                go_wp2
                go_roundg kj9
                case measure => have := HK1.out; have := HJ9.out; omega
                case rel => exact ⟨(wrap64 (x8_1 + 1)), (x8_1), (t262), (t263), (by first | rfl | (simp; done) | (simp [*]; done)), H', ⟨by have := HK1.out; have := HJ9.out; omega⟩, ⟨by (with_reducible repeat (first | refine blk_drewN ?_ _ | refine blk_drew ?_ | refine blk_alloc ?_ _)); refine blk_far ?_ NB254_255.out _; (with_reducible repeat (first | refine blk_drewN ?_ _ | refine blk_drew ?_ | refine blk_alloc ?_ _)); refine blk_far ?_ NB254_255.out _; (with_reducible repeat (first | refine blk_drewN ?_ _ | refine blk_drew ?_ | refine blk_alloc ?_ _)); exact BK254.out⟩, ⟨by (with_reducible repeat (first | refine blk_drewN ?_ _ | refine blk_drew ?_ | refine blk_alloc ?_ _)); refine blk_put (cs := #[.int .i64 t262, .int .i64 x256001_1]) ?_ 1 _ rfl; (with_reducible repeat (first | refine blk_drewN ?_ _ | refine blk_drew ?_ | refine blk_alloc ?_ _)); refine blk_put (cs := #[.int .i64 x256000_1, .int .i64 x256001_1]) ?_ 0 _ rfl; (with_reducible repeat (first | refine blk_drewN ?_ _ | refine blk_drew ?_ | refine blk_alloc ?_ _)); exact BK255.out⟩, ⟨by repeat (first | (with_reducible first | exact HB.out | apply below_alloc | apply pw_below_drewN | apply below_drew1 | refine below_set ?_ GE254.out | refine below_set ?_ GE255.out | refine below_set ?_ GE265.out) | exact HB.out)⟩⟩
      · rw [if_neg c8] at H
        have c8b0 : decide (x8_1 < (wrap64 ((wrap64 (8 * (wrap64 (1 + (Int.tmod (wrap64 (a0)) 8))))) + 1))) = false := decide_eq_false c8
        clear c8
        replace H := Option.bind_eq_some_iff.mp H
        obtain ⟨⟨t256, t257, t258⟩, A580, H⟩ := H
        replace H : (if (x256000_1 == 9 && (x256001_1 == 0)) = true then (if t258 = true then (some false) else ((shard_Check.f k1 true (wrap64 ((wrap64 (8 * (wrap64 (1 + (Int.tmod (wrap64 (a0)) 8))))) + 1)) (wrap64 (1 + (Int.tmod (wrap64 (a0)) 8))) (wrap64 (a1))).bind fun t260 => (if t260 = 1 then ((corebanklaw50_live.f k1).bind fun t261 => (some t261)) else (some false)))) else (some false)) = some r := H
        have A58 := Aside0.mk A580
        clear A580
        by_cases c59 : (x256000_1 == 9 && (x256001_1 == 0)) = true
        · rw [if_pos c59] at H
          have c59b0 : (x256000_1 == 9 && (x256001_1 == 0)) = true := c59
          (try (have c59b1 : decide (x256000_1 = 9 && (x256001_1 == 0)) = true := by simpa using c59))
          (try (have c59b2 : (x256000_1 == 9 && (x256001_1 == 0)) = true := by simpa using c59))
          clear c59
          by_cases c60 : t258 = true
          · subst c60
            have H1 : (some false) = some r := by rw [if_pos rfl] at H; exact H
            clear H
            have H := H1
            clear H1
            exact absurd ((Option.some.inj H).trans HT.out) (by simp)
          · replace c60 := Bool.eq_false_iff.mpr c60
            subst c60
            have H1 : ((shard_Check.f k1 true (wrap64 ((wrap64 (8 * (wrap64 (1 + (Int.tmod (wrap64 (a0)) 8))))) + 1)) (wrap64 (1 + (Int.tmod (wrap64 (a0)) 8))) (wrap64 (a1))).bind fun t260 => (if t260 = 1 then ((corebanklaw50_live.f k1).bind fun t261 => (some t261)) else (some false))) = some r := by rw [if_neg (show ¬ (false = true) by decide)] at H; exact H
            clear H
            have H := H1
            clear H1
            replace H := Option.bind_eq_some_iff.mp H
            obtain ⟨t260, A610, H⟩ := H
            replace H : (if t260 = 1 then ((corebanklaw50_live.f k1).bind fun t261 => (some t261)) else (some false)) = some r := H
            have A61 := Aside0.mk A610
            clear A610
            by_cases c62 : t260 = 1
            · rw [if_pos c62] at H
              have c62b0 : (t260 == 1) = true := beq_iff_eq.mpr c62
              have c62b1 : (t260 != 1) = false := bne_eq_false_iff_eq.mpr c62
              clear c62
              replace H := Option.bind_eq_some_iff.mp H
              obtain ⟨t261, A630, H⟩ := H
              replace H : (some t261) = some r := H
              have A63 := Aside0.mk A630
              clear A630
              obtain rfl := Option.some.inj H
              have hnb64 := NB254_255.out
              have hnc64 := NB255_254.out
              have hcz65_0 : wr.cell? ⟨gb254, 0, none⟩ = some (.bool true) := (blk_cell BK254.out 0).trans rfl
              have hcz65_1 : wr.cell? ⟨gb254, 1, none⟩ = some (.int .i64 x255001_1) := (blk_cell BK254.out 1).trans rfl
              have hcz65_2 : wr.cell? ⟨gb254, 2, none⟩ = some (.int .i64 (wrap64 (1 + (Int.tmod (wrap64 (a0)) 8)))) := (blk_cell BK254.out 2).trans rfl
              have hcz65_3 : wr.cell? ⟨gb254, 3, none⟩ = some (.int .i64 (wrap64 (a1))) := (blk_cell BK254.out 3).trans rfl
              have hfz65_0 := blk_frozen BK254.out 0
              have hfz65_1 := blk_frozen BK254.out 1
              have hfz65_2 := blk_frozen BK254.out 2
              have hfz65_3 := blk_frozen BK254.out 3
              go_wp2_with (first | ((with_reducible refine gate_callee (f := 16) rfl ?_); refine goesL_ (some 84) rfl rfl Tryd.func16 (by kernel_rfl) rfl #[.agg #[.bool true, .int .i64 (wrap64 ((wrap64 (8 * (wrap64 (1 + (Int.tmod (wrap64 (a0)) 8))))) + 1)), .int .i64 (wrap64 (1 + (Int.tmod (wrap64 (a0)) 8))), .int .i64 (wrap64 (a1))]] rfl (by (try simp only [List.map_toArray, List.map_cons, List.map_nil]); first | done | rfl | (simp only [List.length_drop, List.length_take]; rfl)) ?_; (with_reducible refine (shard_Next.calls k1 true (wrap64 ((wrap64 (8 * (wrap64 (1 + (Int.tmod (wrap64 (a0)) 8))))) + 1)) (wrap64 (1 + (Int.tmod (wrap64 (a0)) 8))) (wrap64 (a1)) t256 t257 false _ A58.out).mono ?_); rintro e w66 ⟨rfl, hb⟩; refine ⟨_, rfl, ?_⟩; have n0_ := Aside0.mk (blk_below (g := gb254) (o := .cells #[.bool true, .int .i64 (wrap64 ((wrap64 (8 * (wrap64 (1 + (Int.tmod (wrap64 (a0)) 8))))) + 1)), .int .i64 (wrap64 (1 + (Int.tmod (wrap64 (a0)) 8))), .int .i64 (wrap64 (a1))] 32 (0, 0)) (by (with_reducible repeat (first | refine blk_drewN ?_ _ | refine blk_drew ?_ | refine blk_alloc ?_ _)); refine blk_put (cs := #[.bool true, .int .i64 x255001_1, .int .i64 (wrap64 (1 + (Int.tmod (wrap64 (a0)) 8))), .int .i64 (wrap64 (a1))]) ?_ 1 _ rfl; (with_reducible repeat (first | refine blk_drewN ?_ _ | refine blk_drew ?_ | refine blk_alloc ?_ _)); exact BK254.out) hb); have n1_ := Aside0.mk (blk_below (g := gb255) (o := .cells #[.int .i64 x256000_1, .int .i64 x256001_1] 36 (0, 0)) (by (with_reducible repeat (first | refine blk_drewN ?_ _ | refine blk_drew ?_ | refine blk_alloc ?_ _)); refine blk_far ?_ NB255_254.out _; (with_reducible repeat (first | refine blk_drewN ?_ _ | refine blk_drew ?_ | refine blk_alloc ?_ _)); exact BK255.out) hb); have n2_ := Aside0.mk (below_step (by repeat (first | (with_reducible first | exact HB.out | apply below_alloc | apply pw_below_drewN | apply below_drew1 | refine below_set ?_ GE254.out | refine below_set ?_ GE255.out) | exact HB.out)) hb); clear BK254; clear BK255; clear HB; have BK254 := n0_; have BK255 := n1_; have HB := n2_; clear n0_ n1_ n2_; (try clear hb); (try clear hb2); (try clear hk); (try clear hi)) | ((with_reducible refine gate_dst (N := 11) rfl ?_); refine box_event ?hg (N := 11) ?hd (cs := #[.int .i64 0, .int .i64 0]) (t := 36) ?hr ?_; (case hd => rfl); (case hg => rfl); (case hr => first | (go_simp; done) | (go_simp; rfl)); intro gb259 hg w67 hbox hb; have n0_ := Aside0.mk (blk_below (g := gb254) (o := .cells #[.bool true, .int .i64 (wrap64 ((wrap64 (8 * (wrap64 (1 + (Int.tmod (wrap64 (a0)) 8))))) + 1)), .int .i64 (wrap64 (1 + (Int.tmod (wrap64 (a0)) 8))), .int .i64 (wrap64 (a1))] 32 (0, 0)) (by (with_reducible repeat (first | refine blk_drewN ?_ _ | refine blk_drew ?_ | refine blk_alloc ?_ _)); exact BK254.out) hb); have n1_ := Aside0.mk (blk_below (g := gb255) (o := .cells #[.int .i64 x256000_1, .int .i64 x256001_1] 36 (0, 0)) (by (with_reducible repeat (first | refine blk_drewN ?_ _ | refine blk_drew ?_ | refine blk_alloc ?_ _)); exact BK255.out) hb); have n2_ := Aside0.mk (below_step (by repeat (first | (with_reducible first | exact HB.out | apply below_alloc | apply pw_below_drewN | apply below_drew1 | refine below_set ?_ GE254.out | refine below_set ?_ GE255.out) | exact HB.out)) hb); have n3_ := Aside0.mk (hbox); have n4_ := Aside0.mk ((by rw [hg]; exact (below_size (by repeat (first | (with_reducible first | exact HB.out | apply below_alloc | apply pw_below_drewN | apply below_drew1 | refine below_set ?_ GE254.out | refine below_set ?_ GE255.out) | exact HB.out))) : w.heap.size ≤ gb259)); have n5_ := Aside0.mk ((by rw [hg]; exact (below_size (by repeat (first | (with_reducible first | exact HB.out | apply below_alloc | apply pw_below_drewN | apply below_drew1 | refine below_set ?_ GE254.out | refine below_set ?_ GE255.out) | exact HB.out))) : w.heap.size ≤ gb259)); have n6_ := Aside0.mk ((by rw [hg]; exact Nat.ne_of_lt (blk_lt (g := gb254) (o := .cells #[.bool true, .int .i64 (wrap64 ((wrap64 (8 * (wrap64 (1 + (Int.tmod (wrap64 (a0)) 8))))) + 1)), .int .i64 (wrap64 (1 + (Int.tmod (wrap64 (a0)) 8))), .int .i64 (wrap64 (a1))] 32 (0, 0)) (by (with_reducible repeat (first | refine blk_drewN ?_ _ | refine blk_drew ?_ | refine blk_alloc ?_ _)); exact BK254.out)) : gb254 ≠ gb259)); have n7_ := Aside0.mk ((by rw [hg]; exact Nat.ne_of_gt (blk_lt (g := gb254) (o := .cells #[.bool true, .int .i64 (wrap64 ((wrap64 (8 * (wrap64 (1 + (Int.tmod (wrap64 (a0)) 8))))) + 1)), .int .i64 (wrap64 (1 + (Int.tmod (wrap64 (a0)) 8))), .int .i64 (wrap64 (a1))] 32 (0, 0)) (by (with_reducible repeat (first | refine blk_drewN ?_ _ | refine blk_drew ?_ | refine blk_alloc ?_ _)); exact BK254.out)) : gb259 ≠ gb254)); have n8_ := Aside0.mk ((by rw [hg]; exact Nat.ne_of_lt (blk_lt (g := gb255) (o := .cells #[.int .i64 x256000_1, .int .i64 x256001_1] 36 (0, 0)) (by (with_reducible repeat (first | refine blk_drewN ?_ _ | refine blk_drew ?_ | refine blk_alloc ?_ _)); exact BK255.out)) : gb255 ≠ gb259)); have n9_ := Aside0.mk ((by rw [hg]; exact Nat.ne_of_gt (blk_lt (g := gb255) (o := .cells #[.int .i64 x256000_1, .int .i64 x256001_1] 36 (0, 0)) (by (with_reducible repeat (first | refine blk_drewN ?_ _ | refine blk_drew ?_ | refine blk_alloc ?_ _)); exact BK255.out)) : gb259 ≠ gb255)); clear BK254; clear BK255; clear HB; have BK254 := n0_; have BK255 := n1_; have HB := n2_; have BK259 := n3_; have GW259 := n4_; have GE259 := n5_; have NB254_259 := n6_; have NB259_254 := n7_; have NB255_259 := n8_; have NB259_255 := n9_; clear n0_ n1_ n2_ n3_ n4_ n5_ n6_ n7_ n8_ n9_; clear hb hbox hg; have hnb68 := NB259_254.out; have hnc68 := NB254_259.out; have hnb69 := NB259_255.out; have hnc69 := NB255_259.out; have hcz70_0 : w67.cell? ⟨gb259, 0, none⟩ = some (.int .i64 0) := (blk_cell BK259.out 0).trans rfl; have hcz70_1 : w67.cell? ⟨gb259, 1, none⟩ = some (.int .i64 0) := (blk_cell BK259.out 1).trans rfl; have hfz70_0 := blk_frozen BK259.out 0; have hfz70_1 := blk_frozen BK259.out 1; have hcz71_0 : w67.cell? ⟨gb255, 0, none⟩ = some (.int .i64 x256000_1) := (blk_cell BK255.out 0).trans rfl; have hcz71_1 : w67.cell? ⟨gb255, 1, none⟩ = some (.int .i64 x256001_1) := (blk_cell BK255.out 1).trans rfl; have hfz71_0 := blk_frozen BK255.out 0; have hfz71_1 := blk_frozen BK255.out 1; have hcz72_0 : w67.cell? ⟨gb254, 0, none⟩ = some (.bool true) := (blk_cell BK254.out 0).trans rfl; have hcz72_1 : w67.cell? ⟨gb254, 1, none⟩ = some (.int .i64 (wrap64 ((wrap64 (8 * (wrap64 (1 + (Int.tmod (wrap64 (a0)) 8))))) + 1))) := (blk_cell BK254.out 1).trans rfl; have hcz72_2 : w67.cell? ⟨gb254, 2, none⟩ = some (.int .i64 (wrap64 (1 + (Int.tmod (wrap64 (a0)) 8)))) := (blk_cell BK254.out 2).trans rfl; have hcz72_3 : w67.cell? ⟨gb254, 3, none⟩ = some (.int .i64 (wrap64 (a1))) := (blk_cell BK254.out 3).trans rfl; have hfz72_0 := blk_frozen BK254.out 0; have hfz72_1 := blk_frozen BK254.out 1; have hfz72_2 := blk_frozen BK254.out 2; have hfz72_3 := blk_frozen BK254.out 3) | (go_at_call 18; (with_reducible refine (shard_Check.calls k1 true (wrap64 ((wrap64 (8 * (wrap64 (1 + (Int.tmod (wrap64 (a0)) 8))))) + 1)) (wrap64 (1 + (Int.tmod (wrap64 (a0)) 8))) (wrap64 (a1)) t260 _ A61.out).mono ?_); rintro e w73 ⟨rfl, hb⟩; have n0_ := Aside0.mk (blk_below (g := gb254) (o := .cells #[.bool true, .int .i64 (wrap64 ((wrap64 (8 * (wrap64 (1 + (Int.tmod (wrap64 (a0)) 8))))) + 1)), .int .i64 (wrap64 (1 + (Int.tmod (wrap64 (a0)) 8))), .int .i64 (wrap64 (a1))] 32 (0, 0)) (by (with_reducible repeat (first | refine blk_drewN ?_ _ | refine blk_drew ?_ | refine blk_alloc ?_ _)); refine blk_far ?_ NB254_259.out _; (with_reducible repeat (first | refine blk_drewN ?_ _ | refine blk_drew ?_ | refine blk_alloc ?_ _)); refine blk_far ?_ NB254_259.out _; (with_reducible repeat (first | refine blk_drewN ?_ _ | refine blk_drew ?_ | refine blk_alloc ?_ _)); exact BK254.out) hb); have n1_ := Aside0.mk (blk_below (g := gb255) (o := .cells #[.int .i64 x256000_1, .int .i64 x256001_1] 36 (0, 0)) (by (with_reducible repeat (first | refine blk_drewN ?_ _ | refine blk_drew ?_ | refine blk_alloc ?_ _)); refine blk_far ?_ NB255_259.out _; (with_reducible repeat (first | refine blk_drewN ?_ _ | refine blk_drew ?_ | refine blk_alloc ?_ _)); refine blk_far ?_ NB255_259.out _; (with_reducible repeat (first | refine blk_drewN ?_ _ | refine blk_drew ?_ | refine blk_alloc ?_ _)); exact BK255.out) hb); have n2_ := Aside0.mk (blk_below (g := gb259) (o := .cells #[.int .i64 t256, .int .i64 t257] 36 (0, 0)) (by (with_reducible repeat (first | refine blk_drewN ?_ _ | refine blk_drew ?_ | refine blk_alloc ?_ _)); refine blk_put (cs := #[.int .i64 t256, .int .i64 0]) ?_ 1 _ rfl; (with_reducible repeat (first | refine blk_drewN ?_ _ | refine blk_drew ?_ | refine blk_alloc ?_ _)); refine blk_put (cs := #[.int .i64 0, .int .i64 0]) ?_ 0 _ rfl; (with_reducible repeat (first | refine blk_drewN ?_ _ | refine blk_drew ?_ | refine blk_alloc ?_ _)); exact BK259.out) hb); have n3_ := Aside0.mk (below_step (by repeat (first | (with_reducible first | exact HB.out | apply below_alloc | apply pw_below_drewN | apply below_drew1 | refine below_set ?_ GE254.out | refine below_set ?_ GE255.out | refine below_set ?_ GE259.out) | exact HB.out)) hb); clear BK254; clear BK255; clear BK259; clear HB; have BK254 := n0_; have BK255 := n1_; have BK259 := n2_; have HB := n3_; clear n0_ n1_ n2_ n3_; (try clear hb); (try clear hb2); (try clear hk); (try clear hi)) | (go_at_call 10; (with_reducible refine (corebanklaw50_live.calls k1  t261 _ A63.out ?side2 ?side1).mono ?_); (case side1 => first | exact HT.out | rfl); (case side2 => exact Glob.at HG (by repeat (first | (with_reducible first | exact HB.out | apply below_alloc | apply pw_below_drewN | apply below_drew1 | refine below_set ?_ GE254.out | refine below_set ?_ GE255.out | refine below_set ?_ GE259.out) | exact HB.out))); rintro e w74 ⟨rfl, hb⟩; have n0_ := Aside0.mk (blk_below (g := gb254) (o := .cells #[.bool true, .int .i64 (wrap64 ((wrap64 (8 * (wrap64 (1 + (Int.tmod (wrap64 (a0)) 8))))) + 1)), .int .i64 (wrap64 (1 + (Int.tmod (wrap64 (a0)) 8))), .int .i64 (wrap64 (a1))] 32 (0, 0)) (by (with_reducible repeat (first | refine blk_drewN ?_ _ | refine blk_drew ?_ | refine blk_alloc ?_ _)); exact BK254.out) hb); have n1_ := Aside0.mk (blk_below (g := gb255) (o := .cells #[.int .i64 x256000_1, .int .i64 x256001_1] 36 (0, 0)) (by (with_reducible repeat (first | refine blk_drewN ?_ _ | refine blk_drew ?_ | refine blk_alloc ?_ _)); exact BK255.out) hb); have n2_ := Aside0.mk (blk_below (g := gb259) (o := .cells #[.int .i64 t256, .int .i64 t257] 36 (0, 0)) (by (with_reducible repeat (first | refine blk_drewN ?_ _ | refine blk_drew ?_ | refine blk_alloc ?_ _)); exact BK259.out) hb); have n3_ := Aside0.mk (below_step (by repeat (first | (with_reducible first | exact HB.out | apply below_alloc | apply pw_below_drewN | apply below_drew1 | refine below_set ?_ GE254.out | refine below_set ?_ GE255.out | refine below_set ?_ GE259.out) | exact HB.out)) hb); clear BK254; clear BK255; clear BK259; clear HB; have BK254 := n0_; have BK255 := n1_; have BK259 := n2_; have HB := n3_; clear n0_ n1_ n2_ n3_; (try clear hb); (try clear hb2); (try clear hk); (try clear hi)))
              go_ret
              exact ⟨by first | rfl | (simp [errW_none, errW_some] <;> rfl) | (simp [*, errW_none, errW_some] <;> rfl), by repeat (first | (with_reducible first | exact HB.out | apply below_alloc | apply pw_below_drewN | apply below_drew1 | refine below_set ?_ GE254.out | refine below_set ?_ GE255.out | refine below_set ?_ GE259.out) | exact HB.out)⟩
            · rw [if_neg c62] at H
              have c62b0 : (t260 == 1) = false := beq_eq_false_iff_ne.mpr c62
              have c62b1 : (t260 != 1) = true := bne_iff_ne.mpr c62
              exact absurd ((Option.some.inj H).trans HT.out) (by simp)
        · rw [if_neg c59] at H
          have c59b0 : (x256000_1 == 9 && (x256001_1 == 0)) = false := by simpa using c59
          (try (have c59b1 : decide (x256000_1 = 9 && (x256001_1 == 0)) = false := by simpa using c59))
          (try (have c59b2 : (x256000_1 == 9 && (x256001_1 == 0)) = false := by simpa using c59))
          (try (have c59b3 : ¬ (x256000_1 = 9 && (x256001_1 == 0)) := by simpa using c59))
          clear c59
          exact absurd ((Option.some.inj H).trans HT.out) (by simp)

/-- THE ONE PURE STATEMENT of corebanklaw50_ShardWalks: yours. -/
def corebanklaw50_ShardWalks.Pure : Prop := ∀ (a0 : Int) (a1 : Int), (Lit.int .u8 a0).wf = true → (Lit.int .u8 a1).wf = true → ∃ k, corebanklaw50_ShardWalks.f k a0 a1 = some true
theorem corebanklaw50_ShardWalks.walk (P : corebanklaw50_ShardWalks.Pure) (a0 : Int) (a1 : Int) (w : World) (w0 : (Lit.int .u8 a0).wf = true) (w1 : (Lit.int .u8 a1).wf = true) (hG : Glob w) :
    Calls Tryd.prog 7 #[.int .u8 a0, .int .u8 a1] w fun e w' => e = .returned (.bool true) ∧ Below w.heap.size w w' := by
  obtain ⟨k, h⟩ := P a0 a1 w0 w1
  refine (corebanklaw50_ShardWalks.calls k a0 a1 true w h hG rfl).mono ?_
  rintro e w' ⟨rfl, hd⟩
  exact ⟨rfl, hd⟩

end Go.Proofs.YtgpiglejdacelaaDoor.G
