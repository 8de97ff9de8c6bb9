/-
  The law on StatementFollows, walked. Written by mkwfollows.py, a program of this session.
-/
import Derived.Test.YtimjodgnlahclaaDoorWFollowsA
import Derived.Test.YtimjodgnlahclaaDoorNumb
import Derived.Test.YtimjodgnlahclaaDoorGx7
import Derived.Deep.RegionHeld3
import Derived.Test.YtimjodgnlahclaaDoorMake
import Derived.Test.YtimjodgnlahclaaDoorLives
import Derived.Test.YtimjodgnlahclaaDoorMem2
import Derived.Test.YtimjodgnlahclaaDoorWNEv
import Derived.Test.YtimjodgnlahclaaDoorWGuard
import Derived.WalkKit
import Derived.WalkSpells
import Derived.Deep.DeepFit
import Derived.BigQuiet
namespace Go.Proofs.YtimjodgnlahclaaDoor.G
open Go.RowKit Go.Proofs.YtimjodgnlahclaaDoorW.PrintWords Go.Proofs.YtimjodgnlahclaaDoorW.PrintLast Go.Proofs.YtimjodgnlahclaaDoorW.PrintMore
set_option linter.unusedVariables false
set_option linter.unusedSimpArgs false
/-- The drawn region's table. -/
def follows.T16 : Bool × List (List Nat × List Nat) := (true, [([], []), ([0], [0]), ([], []), ([2], [2]), ([], []), ([4], [4]), ([], []), ([6], [6]), ([], []), ([8], [8]), ([], []), ([10], [10]), ([], []), ([], []), ([13], [13]), ([12, 14], [12, 14]), ([1, 3, 5, 7, 9, 11, 15], [1, 3, 5, 7, 9, 11, 15]), ([], []), ([17, 16, 15, 0, 1, 2, 3, 4, 5, 6, 7, 8, 9, 10, 11, 12, 13, 14, 15, 16, 17], [16, 17])])
def follows.B16 : List Nat := [0, 1, 0, 4, 0, 16, 0, 64, 0, 256, 0, 1024, 0, 0, 8192, 28672, 65535, 0, 262143]
theorem follows.tab16 : rtab .any (opsOf Tryd.f6 16) = follows.T16 := by kernel_rfl
theorem follows.bits16 : waitsOk follows.T16.2 follows.B16 = true := by kernel_rfl
theorem R_box {α : Type} {d : Kd α} {e base g : Nat} {ok q : Nat → Prop} {W W1 : World} {v : Value} {xs : List α} (h : d.R e W base (fun k => ok k ∧ q k) v xs) (hg : g = W.heap.size) (hb : Below W.heap.size W W1) : d.R e W1 base (fun k => k ≠ g ∧ q k) v xs :=
  Kd.R_mono (Kd.R_below (Kd.R_bound h) hb) (fun k hk => ⟨fun e => by have := hk.2.2.1; omega, hk.1.2⟩)
theorem Mem.apart_box {L : List Blk} {v : Value} {g n : Nat} {t : TypeId} {cs : Array Value} (ha : ∀ (i : Nat) (b : Blk), L[i]? = some b → some b.1 ≠ v.ownBlock) (hlt : ∀ k, v.ownBlock = some k → k < n) (hg : g = n) : ∀ (i : Nat) (b : Blk), ((g, t, cs) :: L)[i]? = some b → some b.1 ≠ v.ownBlock := by
  intro i b hi
  cases i with
  | zero =>
    simp only [List.getElem?_cons_zero, Option.some.injEq] at hi
    subst hi
    intro e
    have := hlt g e.symm
    omega
  | succ i => rw [List.getElem?_cons_succ] at hi; exact ha i b hi
theorem fresh_le {v : Value} {W : World} (hat : ∃ b, v.ownBlock = some b ∧ W.heap.size ≤ b) : ∀ k, v.ownBlock = some k → W.heap.size ≤ k := by
  intro k hk
  obtain ⟨b, h1, h2⟩ := hat
  rw [h1] at hk
  injection hk with hk
  omega
theorem below_none {W W1 : World} (hg : W.grownBy W1 none) : Below W.heap.size W W1 := ⟨hg.os, hg.tape, hg.output, hg.size, fun k hk => hg.block k hk (by simp)⟩
theorem Mem.apart_after {w W : World} {L : List Blk} (h : Mem w W L) {v v1 : Value} (ha : ∀ (i : Nat) (b : Blk), L[i]? = some b → some b.1 ≠ v.ownBlock) (hat : v1.ownBlock = v.ownBlock ∨ ∃ b, v1.ownBlock = some b ∧ W.heap.size ≤ b) : ∀ (i : Nat) (b : Blk), L[i]? = some b → some b.1 ≠ v1.ownBlock := by
  rcases hat with hat | hat
  · rw [hat]; exact ha
  · exact h.apart hat
section
variable {P : Program} {ops : Array Oper} {oi : Oper} {a : Act} {Q : Exit → Act → World → Prop} {W : World} {K : Act → World → Prop}
theorem box_step {N : Tmp} (hw : Region.wanted oi (yielded ops a.tmps) = true) (hN : oi.dst = some N) {cs : Array Value} {t : TypeId} (hrun : (execOp a.eval oi).run P W = .ok (.value (.pointer (some ⟨W.heap.size, 0, none⟩))) (W.alloc (.cells cs t (0, 0))))
    (h : ∀ g, g = W.heap.size → ∀ w1, w1.heap[g]? = some (.cells cs t (0, 0)) → Below W.heap.size W w1 → K (a.put (some N) (.pointer (some ⟨g, 0, none⟩))) w1) : if Region.wanted oi (yielded ops a.tmps) = true then Oper.wp P oi a W K Q else K (a.put (some N) undef) W :=
  value_ hw hN hrun (h _ rfl _ (blk_new W _) (below_alloc (Below.refl _ _) _))
theorem store_step (hw : Region.wanted oi (yielded ops a.tmps) = true) (ty : TypeId) (x y : Operand) (ho : oi.op = .store ty x y) (hd : oi.dst = none) (g : Nat) (cells : Array Value) (hx : a.eval x = .pointer (some ⟨g, 0, none⟩)) (hy : a.eval y = .agg cells)
    (t : TypeId) (old : Array Value) (hg : W.heap[g]? = some (.cells old t (0, 0))) (hi : (P.info? ty).map (·.size) = some cells.size) (hold : old.size = cells.size) (h1 : cells.toList.all (·.oneCell') = true)
    (h : ∀ W1, W1.heap[g]? = some (.cells cells t (0, 0)) → KeptB g W W1 → K a W1) : if Region.wanted oi (yielded ops a.tmps) = true then Oper.wp P oi a W K Q else K (a.put none undef) W := by
  rw [if_pos hw]
  refine Go.wp_store_row ty x y ho g cells hx hy t old hg hi hold (by rw [← Array.all_toList]; exact h1) ?_
  rw [hd]
  exact h (W.setRow g cells) (Go.setRow_heap W g old cells t (0, 0) hg) ⟨rfl, rfl, rfl, by simp, fun k hk => Go.setRow_other W g k cells hk⟩
end
section
variable (k : Nat) (a0_0 : OV) (a0_1 : OV) (a0_2 : OV) (a0_3 : Int) (a0_4 : Int) (a0_5 : Int) (a0_6 : Int) (a0_7 : Int) (a0_8 : Int) (a0_9 : Int) (a0_10 : Int) (a0_11 : Int) (a0_12 : Int) (a0_13 : Int) (a0_14 : Int) (a0_15 : Int) (a0_16 : Int) (a0_17 : OV) (A0_18 : Option Addr) (c0_18 : Nat) (l0_18 : List (S57)) (A0_19 : Option Addr) (c0_19 : Nat) (l0_19 : List (S54)) (a0_20 : OV) (a0_21 : OV) (a1_0 a1_1 a1_2 a1_3 a2 : Int) (w : World)
set_option maxHeartbeats 4000000 in
set_option maxRecDepth 100000 in
theorem wfollows_main (HR18 : Aside0 (Kd.C k57 w A0_18 l0_18.length l0_18)) (HC18 : Aside0 (l0_18.length ≤ c0_18)) (HR19 : Aside0 (Kd.C k54 w A0_19 l0_19.length l0_19)) (HC19 : Aside0 (l0_19.length ≤ c0_19)) (HG : Aside0 (Glob w)) (HF : Aside0 (corebanklaw45_few.f k a0_0 a0_1 a0_2 a0_3 a0_4 a0_5 a0_6 a0_7 a0_8 a0_9 a0_10 a0_11 a0_12 a0_13 a0_14 a0_15 a0_16 a0_17 l0_18 l0_19 a0_20 a0_21 = some true)) (t0 : ¬ (a1_0 < 1000)) (t1 : ¬ (a1_1 < 1)) (t2 : ¬ (a1_1 ≥ 4611686018427387904)) (t3 : ¬ (a2 < a1_2)) (t4 : ¬ (a2 ≥ a1_3)) (kq : Nat) (HL : Aside0 (downL kq l0_19 1 = some false)) (hlen : Aside0 (l0_19.length ≤ 60)) (ys : List S54) (HNL : Aside0 (numL k l0_19 0 = some ys)) (p1 p2 p3 p4 p5 p6 p8 q1 q2 q3 q4 q5 q6 q8 s1 s2 s3 s4 s5 s6 s8 : Int) (p7 q7 s7 : List S66) (HM1 : Aside0 (statement_Make.f k a0_0 a0_1 a0_2 a0_3 a0_4 a0_5 a0_6 a0_7 a0_8 a0_9 a0_10 a0_11 a0_12 a0_13 a0_14 a0_15 a0_16 a0_17 l0_18 ys a0_20 a0_21 a1_0 a1_1 a1_2 a2 = some (p1, p2, p3, p4, p5, p6, p7, p8))) (HM2 : Aside0 (statement_Make.f k a0_0 a0_1 a0_2 a0_3 a0_4 a0_5 a0_6 a0_7 a0_8 a0_9 a0_10 a0_11 a0_12 a0_13 a0_14 a0_15 a0_16 a0_17 l0_18 ys a0_20 a0_21 a1_0 (wrap64 (a1_1 + 1)) (wrap64 (a2 + 1)) a1_3 = some (q1, q2, q3, q4, q5, q6, q7, q8))) (HM3 : Aside0 (statement_Make.f k a0_0 a0_1 a0_2 a0_3 a0_4 a0_5 a0_6 a0_7 a0_8 a0_9 a0_10 a0_11 a0_12 a0_13 a0_14 a0_15 a0_16 a0_17 l0_18 ys a0_20 a0_21 a1_0 a1_1 a1_2 a1_3 = some (s1, s2, s3, s4, s5, s6, s7, s8))) (g1 : p8 = 0) (g2 : q8 = 0) (g3 : s8 = 0) (pq : List S66) (hpq : Aside0 (pq = p7 ++ q7)) (hlp : Aside0 (p7.length ≤ 60)) (hlq : Aside0 (q7.length ≤ 60)) (HFo : Aside0 (statement_Follows.f p1 p2 p3 p4 p5 p6 p7 q1 q2 q3 q4 q5 q6 q7 = some true)) (HK1 : Aside0 (statement_Check.f k p1 p2 p3 p4 p5 p6 p7 = some 0)) (HK2 : Aside0 (statement_Check.f k q1 q2 q3 q4 q5 q6 q7 = some 0)) (HK3 : Aside0 (statement_Check.f k s1 s2 s3 s4 s5 s6 s7 = some 0)) (HS : Aside0 (corebankref45_Same.f k a1_0 a1_1 a1_2 a1_3 p5 q6 pq s1 s2 s3 s4 s5 s6 s7 = some true)) :
    Calls Tryd.prog 6 #[.agg #[a0_0.1, a0_1.1, a0_2.1, .int .i64 a0_3, .int .i64 a0_4, .int .i64 a0_5, .int .i64 a0_6, .int .i64 a0_7, .int .i64 a0_8, .int .i64 a0_9, .int .i64 a0_10, .int .i64 a0_11, .int .i64 a0_12, .int .i64 a0_13, .int .i64 a0_14, .int .i64 a0_15, .int .i64 a0_16, a0_17.1, .slice A0_18 l0_18.length c0_18, .slice A0_19 l0_19.length c0_19, a0_20.1, a0_21.1], .agg #[.int .i64 a1_0, .int .i64 a1_1, .int .i64 a1_2, .int .i64 a1_3], .int .i64 a2] w fun e w' => e = .returned (.bool true) ∧ Below w.heap.size w w' := by
  have HM := Aside0.mk (Mem.nil w)
  have hu33 := Tryd.underlying33
  have hu35 := Tryd.underlying35
  have hu40 := Tryd.underlying40
  have hu54 := Tryd.underlying54
  have hu57 := Tryd.underlying57
  have hu29 := Tryd.underlying29
  have hu38 := Tryd.underlying38
  have g1b : (p8 != 0) = false := bne_eq_false_iff_eq.mpr g1
  have g2b : (q8 != 0) = false := bne_eq_false_iff_eq.mpr g2
  have g3b : (s8 != 0) = false := bne_eq_false_iff_eq.mpr g3
  clear g1 g2 g3
  have t0b : decide (a1_0 < 1000) = false := decide_eq_false t0
  clear t0
  have t1b : decide (a1_1 < 1) = false := decide_eq_false t1
  clear t1
  have t2b : decide (a1_1 ≥ 4611686018427387904) = false := decide_eq_false t2
  clear t2
  have t3b : decide (a2 < a1_2) = false := decide_eq_false t3
  clear t3
  have t4b : decide (a2 ≥ a1_3) = false := decide_eq_false t4
  clear t4
  go_enter Tryd.func6, Tryd.ntmps6
  go_wp2_with (first | ((with_reducible refine gate_dst (N := 3) rfl ?_); refine box_event ?hg (N := 3) ?hd (cs := #[a0_0.1, a0_1.1, a0_2.1, .int .i64 a0_3, .int .i64 a0_4, .int .i64 a0_5, .int .i64 a0_6, .int .i64 a0_7, .int .i64 a0_8, .int .i64 a0_9, .int .i64 a0_10, .int .i64 a0_11, .int .i64 a0_12, .int .i64 a0_13, .int .i64 a0_14, .int .i64 a0_15, .int .i64 a0_16, a0_17.1, .slice A0_18 l0_18.length c0_18, .slice A0_19 l0_19.length c0_19, a0_20.1, a0_21.1]) (t := 33) ?hr ?_; (case hd => rfl); (case hg => rfl); (case hr => first | (go_simp; done) | (go_simp; rfl)); intro BK hg_ W_BK hk_ hB_; have n0_ := Mem.box (Mem.to HM) hg_ hB_ hk_; clear HM; have HM := Aside0.mk n0_; clear n0_; clear hk_ hB_ hg_) | ((with_reducible refine gate_dst (N := 4) rfl ?_); refine box_event ?hg (N := 4) ?hd (cs := #[.int .i64 a1_0, .int .i64 a1_1, .int .i64 a1_2, .int .i64 a1_3]) (t := 35) ?hr ?_; (case hd => rfl); (case hg => rfl); (case hr => first | (go_simp; done) | (go_simp; rfl)); intro XB hg_ W_XB hk_ hB_; have n0_ := Mem.box (Mem.to HM) hg_ hB_ hk_; clear HM; have HM := Aside0.mk n0_; clear n0_; clear hk_ hB_ hg_) | ((with_reducible refine gate_load_ (t := 33) (p := 3) rfl ?_); (try (refine gate_guard (by rfl) ?_; dsimp only)); refine load_event ?hgd 33 (.tmp 3) rfl _ ?hx 33 _ (Mem.get (Mem.to HM) 1 rfl) Tryd.underlying33 rfl ?hi ?_; (case hgd => rfl); (case hx => rfl); (case hi => kernel_rfl)) | (go_at_call 8; refine (corebanklaw45_few.calls k a0_0 a0_1 a0_2 a0_3 a0_4 a0_5 a0_6 a0_7 a0_8 a0_9 a0_10 a0_11 a0_12 a0_13 a0_14 a0_15 a0_16 a0_17 A0_18 c0_18 l0_18 A0_19 c0_19 l0_19 a0_20 a0_21 true _ (Kd.C_below HR18.out (Mem.below (by first | exact HM.out | exact Mem.to HM))) HC18.out (Kd.C_below HR19.out (Mem.below (by first | exact HM.out | exact Mem.to HM))) HC19.out HF.out).mono ?_; rintro e W_c ⟨rfl, hb_⟩; have n0_ := Mem.later (Mem.to HM) hb_; clear HM; have HM := Aside0.mk n0_; clear n0_; clear hb_; obtain ⟨x0, x1, x2, x3⟩ := cells4_ (Mem.get HM.out 0 rfl)))
  clear x0 x1 x2 x3
  go_loopg [7] kq (fun gg v7 wr => ∃ (x7 : Int), v7 = .int .i64 x7 ∧ Aside0 (downL gg l0_19 x7 = some false) ∧ Aside0 (Mem w wr [(XB, 35, #[.int .i64 a1_0, .int .i64 a1_1, .int .i64 a1_2, .int .i64 a1_3]), (BK, 33, #[a0_0.1, a0_1.1, a0_2.1, .int .i64 a0_3, .int .i64 a0_4, .int .i64 a0_5, .int .i64 a0_6, .int .i64 a0_7, .int .i64 a0_8, .int .i64 a0_9, .int .i64 a0_10, .int .i64 a0_11, .int .i64 a0_12, .int .i64 a0_13, .int .i64 a0_14, .int .i64 a0_15, .int .i64 a0_16, a0_17.1, .slice A0_18 l0_18.length c0_18, .slice A0_19 l0_19.length c0_19, a0_20.1, a0_21.1])]))
  case atStart => exact ⟨1, rfl, HL, HM⟩
  case round =>
    clear HL HM
    obtain ⟨x7, rfl, HL, HM⟩ := hrel
    have H := HL.out
    clear HL
    cases gk with
    | zero => exact absurd H (by simp [downL])
    | succ k2 =>
    simp only [downL] at H
    have b19 := Mem.cellv HM.out 1 (g := BK) (t := 33) (cs := #[a0_0.1, a0_1.1, a0_2.1, .int .i64 a0_3, .int .i64 a0_4, .int .i64 a0_5, .int .i64 a0_6, .int .i64 a0_7, .int .i64 a0_8, .int .i64 a0_9, .int .i64 a0_10, .int .i64 a0_11, .int .i64 a0_12, .int .i64 a0_13, .int .i64 a0_14, .int .i64 a0_15, .int .i64 a0_16, a0_17.1, .slice A0_18 l0_18.length c0_18, .slice A0_19 l0_19.length c0_19, a0_20.1, a0_21.1]) rfl 19 (u := .slice A0_19 l0_19.length c0_19) rfl
    by_cases c1 : x7 < (l0_19.length : Int)
    · rw [if_pos c1] at H
      by_cases c2 : 1 ≤ x7
      · rw [if_pos c2] at H
        have hw : wrap64 (x7 - 1) = x7 - 1 := by have := hlen.out; unfold wrap64; omega
        have d1 : wrap64 (x7 - 1) < (l0_19.length : Int) := by omega
        have d2 : 0 ≤ wrap64 (x7 - 1) := by omega
        have d3 : 0 ≤ x7 := by omega
        obtain ⟨ad, A8, c8, e_, hx0, hx1, _, _, _, _, _, _, _, _, _, _⟩ := at_T54 HR19.out x7 d3 c1
        cases e_
        obtain ⟨ad2, A8', c8', e_, hy0, hy1, _, _, _, _, _, _, _, _, _, _⟩ := at_T54 HR19.out (wrap64 (x7 - 1)) d2 d1
        cases e_
        replace hx1 := ((Mem.below HM.out).cell (World.block_lt_of_cell? w _ hx1)).trans hx1
        replace hy1 := ((Mem.below HM.out).cell (World.block_lt_of_cell? w _ hy1)).trans hy1
        have c1b : decide (x7 < (l0_19.length : Int)) = true := decide_eq_true c1
        have p1 : (x7 < (l0_19.length : Int)) = True := eq_true c1
        have p2 : (0 ≤ x7) = True := eq_true d3
        have p3 : (wrap64 (x7 - 1) < (l0_19.length : Int)) = True := eq_true d1
        have p4 : (0 ≤ wrap64 (x7 - 1)) = True := eq_true d2
        clear c1 c2 d1 d2 d3 hw hx0 hy0
        by_cases c3 : (rd_T54 l0_19 x7).f1 < (rd_T54 l0_19 (wrap64 (x7 - 1))).f1
        · rw [if_pos c3] at H
          have c3b : decide ((rd_T54 l0_19 x7).f1 < (rd_T54 l0_19 (wrap64 (x7 - 1))).f1) = true := decide_eq_true c3
          clear c3
          exact absurd (Option.some.inj H) (by decide)
        · rw [if_neg c3] at H
          have c3b : decide ((rd_T54 l0_19 x7).f1 < (rd_T54 l0_19 (wrap64 (x7 - 1))).f1) = false := decide_eq_false c3
          clear c3
          go_wp2
          go_quiet (fail)
          go_wp2
          go_roundg k2
          case measure => omega
          case rel => exact ⟨wrap64 (x7 + 1), rfl, ⟨H⟩, ⟨(Mem.to HM)⟩⟩
      · rw [if_neg c2] at H; exact absurd H (by simp)
    · rw [if_neg c1] at H
      have c1b : decide (x7 < (l0_19.length : Int)) = false := decide_eq_false c1
      clear c1
      go_upto_region 9 with (first | ((with_reducible refine gate_load_ (t := 33) (p := 3) rfl ?_); (try (refine gate_guard (by rfl) ?_; dsimp only)); refine load_event ?hgd 33 (.tmp 3) rfl _ ?hx 33 _ (Mem.get (Mem.to HM) 1 rfl) Tryd.underlying33 rfl ?hi ?_; (case hgd => rfl); (case hx => rfl); (case hi => kernel_rfl)) | (go_at_call 20; refine (numbered_any k a0_0 a0_1 a0_2 a0_3 a0_4 a0_5 a0_6 a0_7 a0_8 a0_9 a0_10 a0_11 a0_12 a0_13 a0_14 a0_15 a0_16 a0_17 A0_18 c0_18 l0_18 A0_19 c0_19 l0_19 a0_20 a0_21 _ w.heap.size ⟨Mem.size (by first | exact HM.out | exact Mem.to HM)⟩ ⟨Kd.F_below (Kd.C_F k54_heap HR19.out) (Mem.below (by first | exact HM.out | exact Mem.to HM))⟩ HC19 hlen ys HNL).mono ?_; rintro e W_c ⟨v_, rfl, ho_, hb_⟩; have n2_ := Aside0.mk (Kd.N_lower (Kd.N_mono (ok' := fun k => k ≠ BK) ho_ (fun k hk e => hk.elim (fun h => Nat.lt_irrefl _ (Nat.lt_of_lt_of_le (e ▸ h) (Mem.own HM.out 1 rfl))) (fun h => Nat.lt_irrefl _ (Nat.lt_of_lt_of_le (Mem.slot (by first | exact HM.out | exact Mem.to HM) 1 rfl) (e ▸ h))))) (Mem.size (Mem.to HM))); clear ho_; have HN := n2_; clear n2_; have n0_ := Mem.later (Mem.to HM) hb_; clear HM; have HM := Aside0.mk n0_; clear n0_; clear hb_; obtain ⟨AY, cY, e_⟩ := Kd.N_slice HN.out; subst e_) | ((with_reducible refine gate_store_ (t := 33) (x := .tmp 3) (y := .tmp 72) rfl ?_); refine store_event ?hgd 33 (.tmp 3) (.tmp 72) rfl ?hdst _ #[a0_0.1, a0_1.1, a0_2.1, .int .i64 a0_3, .int .i64 a0_4, .int .i64 a0_5, .int .i64 a0_6, .int .i64 a0_7, .int .i64 a0_8, .int .i64 a0_9, .int .i64 a0_10, .int .i64 a0_11, .int .i64 a0_12, .int .i64 a0_13, .int .i64 a0_14, .int .i64 a0_15, .int .i64 a0_16, a0_17.1, .slice A0_18 l0_18.length c0_18, .slice AY ys.length cY, a0_20.1, a0_21.1] ?hx ?hy 33 _ (Mem.get (Mem.to HM) 1 rfl) ?hi ?hold ?h1 ?_; (case hgd => rfl); (case hdst => rfl); (case hx => rfl); (case hy => first | rfl | (go_simp; done) | (go_simp; rfl)); (case hi => kernel_rfl); (case hold => rfl); (case h1 => exact books_one _ _ _ _ _ _ _ _ _ _ _ _ _ _ _ _ _ _ _ _ _ _ _ _ _ _ ); intro W_ hs_ hk_; have n0_ := Mem.set (Mem.to HM) 1 rfl hs_ hk_; simp only [List.set_cons_zero, List.set_cons_succ] at n0_; clear HM hs_; have HM := Aside0.mk n0_; clear n0_; have n1_ := Aside0.mk (Kd.N_step (by (with_reducible repeat (first | apply Kd.N_alloc | apply Kd.N_drewN | apply Kd.N_drew)); exact HN.out) (fun k ho _ => hk_.block k ho)); clear HN; have HN := n1_; clear n1_; obtain ⟨x0, x1, x2, x3⟩ := cells4_ (Mem.get HM.out 0 rfl); clear hk_))
      clear b19
      go_upto_region 10 with (first | ((with_reducible refine gate_load_ (t := 33) (p := 3) rfl ?_); (try (refine gate_guard (by rfl) ?_; dsimp only)); refine load_event ?hgd 33 (.tmp 3) rfl _ ?hx 33 _ (Mem.get (Mem.to HM) 1 rfl) Tryd.underlying33 rfl ?hi ?_; (case hgd => rfl); (case hx => rfl); (case hi => kernel_rfl)) | (go_at_call 10; refine (statement_Make.calls k a0_0 a0_1 a0_2 a0_3 a0_4 a0_5 a0_6 a0_7 a0_8 a0_9 a0_10 a0_11 a0_12 a0_13 a0_14 a0_15 a0_16 a0_17 A0_18 c0_18 l0_18 AY cY ys a0_20 a0_21 a1_0 a1_1 a1_2 a2 p1 p2 p3 p4 p5 p6 p7 p8 _ (Kd.C_below HR18.out (Mem.below (by first | exact HM.out | exact Mem.to HM))) HC18.out (Kd.N_reads' (by (with_reducible repeat (first | apply Kd.N_alloc | apply Kd.N_drewN | apply Kd.N_drew)); exact HN.out)).2.2 (Kd.N_reads' HN.out).2.1 HM1.out).mono ?_; rintro e W_c ⟨v_, rfl, ho_, hb_⟩; have n1_ := Aside0.mk (Kd.N_below (by (with_reducible repeat (first | apply Kd.N_alloc | apply Kd.N_drewN | apply Kd.N_drew)); exact HN.out) hb_); clear HN; have HN := n1_; clear n1_; have n2_ := Aside0.mk (Kd.R_lower ho_ (Mem.size (Mem.to HM))); clear ho_; have HO1 := n2_; clear n2_; have n0_ := Mem.later (Mem.to HM) hb_; clear HM; have HM := Aside0.mk n0_; clear n0_; clear hb_ x0 x1 x2 x3; obtain ⟨A1, c1, e_⟩ := Kd.R_slice HO1.out; subst e_) | ((with_reducible refine gate_dst (N := 8) rfl ?_); refine box_event ?hg (N := 8) ?hd (cs := #[.int .i64 0, .int .i64 0, .int .i64 0, .int .i64 0, .int .i64 0, .int .i64 0, .slice none 0 0]) (t := 40) ?hr ?_; (case hd => rfl); (case hg => rfl); (case hr => first | (go_simp; done) | (go_simp; rfl)); intro S1 hg_ W_S1 hk_ hB_; have n0_ := Mem.box (Mem.to HM) hg_ hB_ hk_; clear HM; have HM := Aside0.mk n0_; clear n0_; have n1_ := Aside0.mk (Kd.R_below (R.to HO1) hB_); clear HO1; have HO1 := n1_; clear n1_; have n1_ := Aside0.mk (Kd.N_mono (ok' := fun k => k ≠ S1) (Kd.N_below (Kd.N_bound (by (with_reducible repeat (first | apply Kd.N_alloc | apply Kd.N_drewN | apply Kd.N_drew)); exact HN.out)) hB_) (fun k hk e => Nat.lt_irrefl _ (hg_ ▸ (e ▸ hk.2)))); clear HN; have HN := n1_; clear n1_; clear hk_ hB_ hg_) | ((with_reducible refine gate_store_ (t := 40) (x := .tmp 8) (y := .tmp 83) rfl ?_); refine store_event ?hgd 40 (.tmp 8) (.tmp 83) rfl ?hdst _ #[.int .i64 p1, .int .i64 p2, .int .i64 p3, .int .i64 p4, .int .i64 p5, .int .i64 p6, .slice A1 p7.length c1] ?hx ?hy 40 _ (Mem.get (Mem.to HM) 0 rfl) ?hi ?hold ?h1 ?_; (case hgd => rfl); (case hdst => rfl); (case hx => rfl); (case hy => first | rfl | (go_simp; done) | (go_simp; rfl)); (case hi => kernel_rfl); (case hold => rfl); (case h1 => rfl); intro W_ hs_ hk_; have HM0_ := HM.out; have n0_ := Mem.set (Mem.to HM) 0 rfl hs_ hk_; simp only [List.set_cons_zero, List.set_cons_succ] at n0_; clear HM hs_; have HM := Aside0.mk n0_; clear n0_; have n1_ := Aside0.mk (Kd.R_mono (R_kept (Kd.R_types (R.to HO1) (Mem.get HM0_ 0 rfl) (by decide)) hk_ (fun _ hk => hk.2)) (fun _ _ => trivial)); clear HO1; have HO1 := n1_; clear n1_; have n1_ := Aside0.mk (Kd.N_step (by (with_reducible repeat (first | apply Kd.N_alloc | apply Kd.N_drewN | apply Kd.N_drew)); exact HN.out) (fun k ho _ => hk_.block k ho)); clear HN; have HN := n1_; clear n1_; clear HM0_; obtain ⟨x0, x1, x2, x3⟩ := cells4_ (Mem.get HM.out 1 rfl); clear hk_))
      go_upto_region 11 with (first | ((with_reducible refine gate_load_ (t := 33) (p := 3) rfl ?_); (try (refine gate_guard (by rfl) ?_; dsimp only)); refine load_event ?hgd 33 (.tmp 3) rfl _ ?hx 33 _ (Mem.get (Mem.to HM) 2 rfl) Tryd.underlying33 rfl ?hi ?_; (case hgd => rfl); (case hx => rfl); (case hi => kernel_rfl)) | (go_at_call 10; refine (statement_Make.calls k a0_0 a0_1 a0_2 a0_3 a0_4 a0_5 a0_6 a0_7 a0_8 a0_9 a0_10 a0_11 a0_12 a0_13 a0_14 a0_15 a0_16 a0_17 A0_18 c0_18 l0_18 AY cY ys a0_20 a0_21 a1_0 (wrap64 (a1_1 + 1)) (wrap64 (a2 + 1)) a1_3 q1 q2 q3 q4 q5 q6 q7 q8 _ (Kd.C_below HR18.out (Mem.below (by first | exact HM.out | exact Mem.to HM))) HC18.out (Kd.N_reads' (by (with_reducible repeat (first | apply Kd.N_alloc | apply Kd.N_drewN | apply Kd.N_drew)); exact HN.out)).2.2 (Kd.N_reads' HN.out).2.1 HM2.out).mono ?_; rintro e W_c ⟨v_, rfl, ho_, hb_⟩; have n1_ := Aside0.mk (Kd.R_below (R.to HO1) hb_); clear HO1; have HO1 := n1_; clear n1_; have n1_ := Aside0.mk (Kd.N_below (by (with_reducible repeat (first | apply Kd.N_alloc | apply Kd.N_drewN | apply Kd.N_drew)); exact HN.out) hb_); clear HN; have HN := n1_; clear n1_; have n2_ := Aside0.mk (Kd.R_lower ho_ (Mem.size (Mem.to HM))); clear ho_; have HO2 := n2_; clear n2_; have n0_ := Mem.later (Mem.to HM) hb_; clear HM; have HM := Aside0.mk n0_; clear n0_; clear hb_ x0 x1 x2 x3; obtain ⟨A2, c2, e_⟩ := Kd.R_slice HO2.out; subst e_) | ((with_reducible refine gate_dst (N := 10) rfl ?_); refine box_event ?hg (N := 10) ?hd (cs := #[.int .i64 0, .int .i64 0, .int .i64 0, .int .i64 0, .int .i64 0, .int .i64 0, .slice none 0 0]) (t := 40) ?hr ?_; (case hd => rfl); (case hg => rfl); (case hr => first | (go_simp; done) | (go_simp; rfl)); intro S2 hg_ W_S2 hk_ hB_; have n0_ := Mem.box (Mem.to HM) hg_ hB_ hk_; clear HM; have HM := Aside0.mk n0_; clear n0_; have n1_ := Aside0.mk (Kd.R_below (R.to HO1) hB_); clear HO1; have HO1 := n1_; clear n1_; have n1_ := Aside0.mk (Kd.R_below (R.to HO2) hB_); clear HO2; have HO2 := n1_; clear n1_; have n1_ := Aside0.mk (Kd.N_mono (ok' := fun k => k ≠ S2) (Kd.N_below (Kd.N_bound (by (with_reducible repeat (first | apply Kd.N_alloc | apply Kd.N_drewN | apply Kd.N_drew)); exact HN.out)) hB_) (fun k hk e => Nat.lt_irrefl _ (hg_ ▸ (e ▸ hk.2)))); clear HN; have HN := n1_; clear n1_; clear hk_ hB_ hg_) | ((with_reducible refine gate_store_ (t := 40) (x := .tmp 10) (y := .tmp 97) rfl ?_); refine store_event ?hgd 40 (.tmp 10) (.tmp 97) rfl ?hdst _ #[.int .i64 q1, .int .i64 q2, .int .i64 q3, .int .i64 q4, .int .i64 q5, .int .i64 q6, .slice A2 q7.length c2] ?hx ?hy 40 _ (Mem.get (Mem.to HM) 0 rfl) ?hi ?hold ?h1 ?_; (case hgd => rfl); (case hdst => rfl); (case hx => rfl); (case hy => first | rfl | (go_simp; done) | (go_simp; rfl)); (case hi => kernel_rfl); (case hold => rfl); (case h1 => rfl); intro W_ hs_ hk_; have HM0_ := HM.out; have n0_ := Mem.set (Mem.to HM) 0 rfl hs_ hk_; simp only [List.set_cons_zero, List.set_cons_succ] at n0_; clear HM hs_; have HM := Aside0.mk n0_; clear n0_; have n1_ := Aside0.mk (Kd.R_mono (R_kept (Kd.R_types (R.to HO1) (Mem.get HM0_ 0 rfl) (by decide)) hk_ (fun _ hk => hk.2)) (fun _ _ => trivial)); clear HO1; have HO1 := n1_; clear n1_; have n1_ := Aside0.mk (Kd.R_mono (R_kept (Kd.R_types (R.to HO2) (Mem.get HM0_ 0 rfl) (by decide)) hk_ (fun _ hk => hk.2)) (fun _ _ => trivial)); clear HO2; have HO2 := n1_; clear n1_; have n1_ := Aside0.mk (Kd.N_step (by (with_reducible repeat (first | apply Kd.N_alloc | apply Kd.N_drewN | apply Kd.N_drew)); exact HN.out) (fun k ho _ => hk_.block k ho)); clear HN; have HN := n1_; clear n1_; clear HM0_; obtain ⟨x0, x1, x2, x3⟩ := cells4_ (Mem.get HM.out 2 rfl); clear hk_))
      go_upto_region 12 with (first | ((with_reducible refine gate_load_ (t := 33) (p := 3) rfl ?_); (try (refine gate_guard (by rfl) ?_; dsimp only)); refine load_event ?hgd 33 (.tmp 3) rfl _ ?hx 33 _ (Mem.get (Mem.to HM) 3 rfl) Tryd.underlying33 rfl ?hi ?_; (case hgd => rfl); (case hx => rfl); (case hi => kernel_rfl)) | (go_at_call 10; refine (statement_Make.calls k a0_0 a0_1 a0_2 a0_3 a0_4 a0_5 a0_6 a0_7 a0_8 a0_9 a0_10 a0_11 a0_12 a0_13 a0_14 a0_15 a0_16 a0_17 A0_18 c0_18 l0_18 AY cY ys a0_20 a0_21 a1_0 a1_1 a1_2 a1_3 s1 s2 s3 s4 s5 s6 s7 s8 _ (Kd.C_below HR18.out (Mem.below (by first | exact HM.out | exact Mem.to HM))) HC18.out (Kd.N_reads' (by (with_reducible repeat (first | apply Kd.N_alloc | apply Kd.N_drewN | apply Kd.N_drew)); exact HN.out)).2.2 (Kd.N_reads' HN.out).2.1 HM3.out).mono ?_; rintro e W_c ⟨v_, rfl, ho_, hb_⟩; have n1_ := Aside0.mk (Kd.R_below (R.to HO1) hb_); clear HO1; have HO1 := n1_; clear n1_; have n1_ := Aside0.mk (Kd.R_below (R.to HO2) hb_); clear HO2; have HO2 := n1_; clear n1_; have n1_ := Aside0.mk (Kd.N_below (by (with_reducible repeat (first | apply Kd.N_alloc | apply Kd.N_drewN | apply Kd.N_drew)); exact HN.out) hb_); clear HN; have HN := n1_; clear n1_; have n2_ := Aside0.mk (Kd.R_lower ho_ (Mem.size (Mem.to HM))); clear ho_; have HO3 := n2_; clear n2_; have n0_ := Mem.later (Mem.to HM) hb_; clear HM; have HM := Aside0.mk n0_; clear n0_; clear hb_ x0 x1 x2 x3; obtain ⟨A3, c3, e_⟩ := Kd.R_slice HO3.out; subst e_) | ((with_reducible refine gate_dst (N := 12) rfl ?_); refine box_event ?hg (N := 12) ?hd (cs := #[.int .i64 0, .int .i64 0, .int .i64 0, .int .i64 0, .int .i64 0, .int .i64 0, .slice none 0 0]) (t := 40) ?hr ?_; (case hd => rfl); (case hg => rfl); (case hr => first | (go_simp; done) | (go_simp; rfl)); intro S3 hg_ W_S3 hk_ hB_; have n0_ := Mem.box (Mem.to HM) hg_ hB_ hk_; clear HM; have HM := Aside0.mk n0_; clear n0_; have n1_ := Aside0.mk (Kd.R_below (R.to HO1) hB_); clear HO1; have HO1 := n1_; clear n1_; have n1_ := Aside0.mk (Kd.R_below (R.to HO2) hB_); clear HO2; have HO2 := n1_; clear n1_; have n1_ := Aside0.mk (Kd.R_below (R.to HO3) hB_); clear HO3; have HO3 := n1_; clear n1_; have n1_ := Aside0.mk (Kd.N_mono (ok' := fun k => k ≠ S3) (Kd.N_below (Kd.N_bound (by (with_reducible repeat (first | apply Kd.N_alloc | apply Kd.N_drewN | apply Kd.N_drew)); exact HN.out)) hB_) (fun k hk e => Nat.lt_irrefl _ (hg_ ▸ (e ▸ hk.2)))); clear HN; have HN := n1_; clear n1_; clear hk_ hB_ hg_) | ((with_reducible refine gate_store_ (t := 40) (x := .tmp 12) (y := .tmp 110) rfl ?_); refine store_event ?hgd 40 (.tmp 12) (.tmp 110) rfl ?hdst _ #[.int .i64 s1, .int .i64 s2, .int .i64 s3, .int .i64 s4, .int .i64 s5, .int .i64 s6, .slice A3 s7.length c3] ?hx ?hy 40 _ (Mem.get (Mem.to HM) 0 rfl) ?hi ?hold ?h1 ?_; (case hgd => rfl); (case hdst => rfl); (case hx => rfl); (case hy => first | rfl | (go_simp; done) | (go_simp; rfl)); (case hi => kernel_rfl); (case hold => rfl); (case h1 => rfl); intro W_ hs_ hk_; have HM0_ := HM.out; have n0_ := Mem.set (Mem.to HM) 0 rfl hs_ hk_; simp only [List.set_cons_zero, List.set_cons_succ] at n0_; clear HM hs_; have HM := Aside0.mk n0_; clear n0_; have n1_ := Aside0.mk (Kd.R_mono (R_kept (Kd.R_types (R.to HO1) (Mem.get HM0_ 0 rfl) (by decide)) hk_ (fun _ hk => hk.2)) (fun _ _ => trivial)); clear HO1; have HO1 := n1_; clear n1_; have n1_ := Aside0.mk (Kd.R_mono (R_kept (Kd.R_types (R.to HO2) (Mem.get HM0_ 0 rfl) (by decide)) hk_ (fun _ hk => hk.2)) (fun _ _ => trivial)); clear HO2; have HO2 := n1_; clear n1_; have n1_ := Aside0.mk (Kd.R_mono (R_kept (Kd.R_types (R.to HO3) (Mem.get HM0_ 0 rfl) (by decide)) hk_ (fun _ hk => hk.2)) (fun _ _ => trivial)); clear HO3; have HO3 := n1_; clear n1_; have n1_ := Aside0.mk (Kd.N_step (by (with_reducible repeat (first | apply Kd.N_alloc | apply Kd.N_drewN | apply Kd.N_drew)); exact HN.out) (fun k ho _ => hk_.block k ho)); clear HN; have HN := n1_; clear n1_; clear HM0_; obtain ⟨x0, x1, x2, x3⟩ := cells4_ (Mem.get HM.out 3 rfl); clear hk_))
      have s16 := Mem.cellv HM.out 2 (g := S1) (t := 40) (cs := #[.int .i64 p1, .int .i64 p2, .int .i64 p3, .int .i64 p4, .int .i64 p5, .int .i64 p6, .slice A1 p7.length c1]) rfl 6 (u := .slice A1 p7.length c1) rfl
      go_upto_region 16 with (first | ((with_reducible refine gate_dst (N := 144) rfl ?_); refine Kd.N_lit k66 (w0 := w) w.heap.size 66 ?hg (N' := 144) ?hd (xs := ([] : List S66)) (inner := []) (ok := fun _ => True) (okp := fun _ => True) ?hr ?hrep (fun _ _ => trivial) trivial ?hB ?hbase (by simp) ?_; (case hd => rfl); (case hg => rfl); (case hr => first | (go_simp; done) | (go_simp; rfl)); (case hrep => exact Reps.none _ _); (case hB => exact (Mem.below (Mem.to HM))); (case hbase => exact Mem.size (Mem.to HM)); intro v144 W_l ho hb hg hat; have HA := Aside0.mk (Mem.apart (Mem.to HM) hat); have n1_ := Aside0.mk (Kd.R_elder' (v := v144) (R.to HO1) (fresh_le hat) (below_none hg)); clear HO1; have HO1 := n1_; clear n1_; have n1_ := Aside0.mk (Kd.R_elder' (v := v144) (R.to HO2) (fresh_le hat) (below_none hg)); clear HO2; have HO2 := n1_; clear n1_; have n1_ := Aside0.mk (Kd.R_elder' (v := v144) (R.to HO3) (fresh_le hat) (below_none hg)); clear HO3; have HO3 := n1_; clear n1_; have n0_ := Mem.grown (Mem.to HM) hb hg (fun i b hi => by simp); clear HM; have HM := Aside0.mk n0_; clear n0_; have HL := Aside0.mk ho; clear ho hb hg hat s16; obtain ⟨A144, c144, e_⟩ := Kd.N_slice HL.out; subst e_; have s16 := Mem.cellv HM.out 2 (g := S1) (t := 40) (cs := #[.int .i64 p1, .int .i64 p2, .int .i64 p3, .int .i64 p4, .int .i64 p5, .int .i64 p6, .slice A1 p7.length c1]) rfl 6 (u := .slice A1 p7.length c1) rfl) | ((with_reducible refine gate_builtin (b := .append) (xs := #[.tmp 144, .tmp 146]) rfl ?_); at_builtin; refine Kd.N_append_rows k66 (w0 := w) w.heap.size rfl (.tmp 144) (.tmp 146) 38 66 (.agg #[(.int .i64 0), (.int .i64 0), (.int .i64 0), (.string ⟨#[]⟩)]) 40 rfl Tryd.underlying38 info66 rfl (by decide) (by omega) _ ([] : List S66) p7 A1 p7.length c1 (fun _ => True) (fun k => True ∧ some k ≠ (Value.slice A144 ([] : List S66).length c144).ownBlock) rfl (by first | rfl | (go_simp; done) | (go_simp; rfl)) ?aN ?aR ?aK (fun _ _ => trivial) ?aB ?aS ?aL ?_; (case aN => exact (by (with_reducible repeat (first | apply Kd.N_alloc | apply Kd.N_drewN | apply Kd.N_drew)); exact HL.out)); (case aR => exact Kd.R_F (R.to HO1)); (case aK => exact fun k hk => ⟨trivial, hk.2⟩); (case aB => exact (Mem.below (Mem.to HM))); (case aS => exact Mem.size (Mem.to HM)); (case aL => have := hlp.out; have := hlq.out; first | omega | (simp only [List.length_nil]; omega)); intro v147 W_a ho hb hg hat; have HA2 := Aside0.mk (Mem.apart_after (Mem.to HM) HA.out hat); (have n1_ := Aside0.mk (Kd.R_after (v1 := v147) (R.to HO1) hg hat); clear HO1; have HO1 := n1_; clear n1_; have n1_ := Aside0.mk (Kd.R_after (v1 := v147) (R.to HO2) hg hat); clear HO2; have HO2 := n1_; clear n1_; have n1_ := Aside0.mk (Kd.R_after (v1 := v147) (R.to HO3) hg hat); clear HO3; have HO3 := n1_; clear n1_); (have n0_ := Mem.grown (Mem.to HM) hb hg HA.out; clear HM; have HM := Aside0.mk n0_; clear n0_); clear HL HA; have HA := HA2; clear HA2; have HL : Aside0 (Kd.N k66 66 W_a w.heap.size (fun _ => True) v147 p7) := ⟨ho⟩; clear ho hb hg hat; obtain ⟨A147, c147, e_⟩ := Kd.N_slice HL.out; subst e_; clear s16))
      refine start_ (n := 19) (S := fun w' => w'.cell? ⟨XB, 0, none⟩ = some (.int .i64 a1_0) ∧ w'.cell? ⟨XB, 1, none⟩ = some (.int .i64 a1_1) ∧ w'.cell? ⟨XB, 2, none⟩ = some (.int .i64 a1_2) ∧ w'.cell? ⟨XB, 3, none⟩ = some (.int .i64 a1_3) ∧ w'.cell? ⟨S1, 4, none⟩ = some (.int .i64 p5) ∧ w'.cell? ⟨S2, 5, none⟩ = some (.int .i64 q6) ∧ w'.cell? ⟨S2, 6, none⟩ = some (.slice A2 q7.length c2)) (ds := [18]) #[false, false, false, false, false, false, false, false, false, false, false, false, false, false, false, false, false, false, false] (by kernel_rfl) rfl rfl (by first | exact ⟨Mem.cellv (Mem.to HM) 3 rfl 0 rfl, Mem.cellv (Mem.to HM) 3 rfl 1 rfl, Mem.cellv (Mem.to HM) 3 rfl 2 rfl, Mem.cellv (Mem.to HM) 3 rfl 3 rfl, Mem.cellv (Mem.to HM) 2 rfl 4 rfl, Mem.cellv (Mem.to HM) 1 rfl 5 rfl, Mem.cellv (Mem.to HM) 1 rfl 6 rfl⟩ | exact ⟨Mem.cellv (Mem.to HM) 4 rfl 0 rfl, Mem.cellv (Mem.to HM) 4 rfl 1 rfl, Mem.cellv (Mem.to HM) 4 rfl 2 rfl, Mem.cellv (Mem.to HM) 4 rfl 3 rfl, Mem.cellv (Mem.to HM) 3 rfl 4 rfl, Mem.cellv (Mem.to HM) 2 rfl 5 rfl, Mem.cellv (Mem.to HM) 2 rfl 6 rfl⟩) (fun hHeld => ?_); refine with_tabW follows.tab16 follows.bits16 (fun HT_ HW_ => ?_)
      refine pure_ (i := 0) (N := some 148) (v := ?_) (a' := ?_) #[true, false, false, false, false, false, false, false, false, false, false, false, false, false, false, false, false, false, false] rfl rfl (any_of HT_.out (by kernel_rfl)) (fun _ _ _ h => h) (Or.inl ⟨by rfl, ?_⟩) ?_ ?_
      rotate_left
      · intro w'
        go_simp
        with_reducible rfl
      rotate_left
      · simp only [Act.put, List.setIfInBounds_toArray, List.set_cons_zero, List.set_cons_succ, i64_w, i32_w]
        rfl
      refine pure_ (i := 2) (N := some 150) (v := ?_) (a' := ?_) #[true, false, true, false, false, false, false, false, false, false, false, false, false, false, false, false, false, false, false] rfl rfl (any_of HT_.out (by kernel_rfl)) (fun _ _ _ h => h) (Or.inl ⟨by rfl, ?_⟩) ?_ ?_
      rotate_left
      · intro w'
        go_simp
        with_reducible rfl
      rotate_left
      · simp only [Act.put, List.setIfInBounds_toArray, List.set_cons_zero, List.set_cons_succ, i64_w, i32_w]
        rfl
      refine pure_ (i := 4) (N := some 152) (v := ?_) (a' := ?_) #[true, false, true, false, true, false, false, false, false, false, false, false, false, false, false, false, false, false, false] rfl rfl (any_of HT_.out (by kernel_rfl)) (fun _ _ _ h => h) (Or.inl ⟨by rfl, ?_⟩) ?_ ?_
      rotate_left
      · intro w'
        go_simp
        with_reducible rfl
      rotate_left
      · simp only [Act.put, List.setIfInBounds_toArray, List.set_cons_zero, List.set_cons_succ, i64_w, i32_w]
        rfl
      refine pure_ (i := 6) (N := some 154) (v := ?_) (a' := ?_) #[true, false, true, false, true, false, true, false, false, false, false, false, false, false, false, false, false, false, false] rfl rfl (any_of HT_.out (by kernel_rfl)) (fun _ _ _ h => h) (Or.inl ⟨by rfl, ?_⟩) ?_ ?_
      rotate_left
      · intro w'
        go_simp
        with_reducible rfl
      rotate_left
      · simp only [Act.put, List.setIfInBounds_toArray, List.set_cons_zero, List.set_cons_succ, i64_w, i32_w]
        rfl
      refine pure_ (i := 8) (N := some 156) (v := ?_) (a' := ?_) #[true, false, true, false, true, false, true, false, true, false, false, false, false, false, false, false, false, false, false] rfl rfl (any_of HT_.out (by kernel_rfl)) (fun _ _ _ h => h) (Or.inl ⟨by rfl, ?_⟩) ?_ ?_
      rotate_left
      · intro w'
        go_simp
        with_reducible rfl
      rotate_left
      · simp only [Act.put, List.setIfInBounds_toArray, List.set_cons_zero, List.set_cons_succ, i64_w, i32_w]
        rfl
      refine pure_ (i := 10) (N := some 158) (v := ?_) (a' := ?_) #[true, false, true, false, true, false, true, false, true, false, true, false, false, false, false, false, false, false, false] rfl rfl (any_of HT_.out (by kernel_rfl)) (fun _ _ _ h => h) (Or.inl ⟨by rfl, ?_⟩) ?_ ?_
      rotate_left
      · intro w'
        go_simp
        with_reducible rfl
      rotate_left
      · simp only [Act.put, List.setIfInBounds_toArray, List.set_cons_zero, List.set_cons_succ, i64_w, i32_w]
        rfl
      refine pure_ (i := 12) (N := some 160) (v := ?_) (a' := ?_) #[true, false, true, false, true, false, true, false, true, false, true, false, true, false, false, false, false, false, false] rfl rfl (any_of HT_.out (by kernel_rfl)) (fun _ _ _ h => h) (Or.inl ⟨by rfl, ?_⟩) ?_ ?_
      rotate_left
      · intro w'
        go_simp
        with_reducible rfl
      rotate_left
      · simp only [Act.put, List.setIfInBounds_toArray, List.set_cons_zero, List.set_cons_succ, i64_w, i32_w]
        rfl
      refine pure_ (i := 13) (N := some 161) (v := ?_) (a' := ?_) #[true, false, true, false, true, false, true, false, true, false, true, false, true, true, false, false, false, false, false] rfl rfl (any_of HT_.out (by kernel_rfl)) (fun _ _ _ h => h) (Or.inl ⟨by rfl, ?_⟩) ?_ ?_
      rotate_left
      · intro w'
        go_simp
        with_reducible rfl
      rotate_left
      · simp only [Act.put, List.setIfInBounds_toArray, List.set_cons_zero, List.set_cons_succ, i64_w, i32_w]
        rfl
      refine take_ (i := 1) (N := some 149) (v := ?_) (a' := ?_) #[true, true, true, false, true, false, true, false, true, false, true, false, true, true, false, false, false, false, false] rfl rfl (take_ofW HT_.out HW_.out (by kernel_rfl)) (fun _ _ _ h => h) (Or.inl ⟨by rfl, ?_⟩) hHeld ?_ ?_
      rotate_left
      · rintro w' ⟨s0_, s1_, s2_, s3_, s4_, s5_, s6_⟩
        go_simp
        with_reducible rfl
      rotate_left
      · simp only [Act.put, List.setIfInBounds_toArray, List.set_cons_zero, List.set_cons_succ, i64_w, i32_w]
        rfl
      refine take_ (i := 3) (N := some 151) (v := ?_) (a' := ?_) #[true, true, true, true, true, false, true, false, true, false, true, false, true, true, false, false, false, false, false] rfl rfl (take_ofW HT_.out HW_.out (by kernel_rfl)) (fun _ _ _ h => h) (Or.inl ⟨by rfl, ?_⟩) hHeld ?_ ?_
      rotate_left
      · rintro w' ⟨s0_, s1_, s2_, s3_, s4_, s5_, s6_⟩
        go_simp
        with_reducible rfl
      rotate_left
      · simp only [Act.put, List.setIfInBounds_toArray, List.set_cons_zero, List.set_cons_succ, i64_w, i32_w]
        rfl
      refine take_ (i := 5) (N := some 153) (v := ?_) (a' := ?_) #[true, true, true, true, true, true, true, false, true, false, true, false, true, true, false, false, false, false, false] rfl rfl (take_ofW HT_.out HW_.out (by kernel_rfl)) (fun _ _ _ h => h) (Or.inl ⟨by rfl, ?_⟩) hHeld ?_ ?_
      rotate_left
      · rintro w' ⟨s0_, s1_, s2_, s3_, s4_, s5_, s6_⟩
        go_simp
        with_reducible rfl
      rotate_left
      · simp only [Act.put, List.setIfInBounds_toArray, List.set_cons_zero, List.set_cons_succ, i64_w, i32_w]
        rfl
      refine take_ (i := 7) (N := some 155) (v := ?_) (a' := ?_) #[true, true, true, true, true, true, true, true, true, false, true, false, true, true, false, false, false, false, false] rfl rfl (take_ofW HT_.out HW_.out (by kernel_rfl)) (fun _ _ _ h => h) (Or.inl ⟨by rfl, ?_⟩) hHeld ?_ ?_
      rotate_left
      · rintro w' ⟨s0_, s1_, s2_, s3_, s4_, s5_, s6_⟩
        go_simp
        with_reducible rfl
      rotate_left
      · simp only [Act.put, List.setIfInBounds_toArray, List.set_cons_zero, List.set_cons_succ, i64_w, i32_w]
        rfl
      refine take_ (i := 9) (N := some 157) (v := ?_) (a' := ?_) #[true, true, true, true, true, true, true, true, true, true, true, false, true, true, false, false, false, false, false] rfl rfl (take_ofW HT_.out HW_.out (by kernel_rfl)) (fun _ _ _ h => h) (Or.inl ⟨by rfl, ?_⟩) hHeld ?_ ?_
      rotate_left
      · rintro w' ⟨s0_, s1_, s2_, s3_, s4_, s5_, s6_⟩
        go_simp
        with_reducible rfl
      rotate_left
      · simp only [Act.put, List.setIfInBounds_toArray, List.set_cons_zero, List.set_cons_succ, i64_w, i32_w]
        rfl
      refine take_ (i := 11) (N := some 159) (v := ?_) (a' := ?_) #[true, true, true, true, true, true, true, true, true, true, true, true, true, true, false, false, false, false, false] rfl rfl (take_ofW HT_.out HW_.out (by kernel_rfl)) (fun _ _ _ h => h) (Or.inl ⟨by rfl, ?_⟩) hHeld ?_ ?_
      rotate_left
      · rintro w' ⟨s0_, s1_, s2_, s3_, s4_, s5_, s6_⟩
        go_simp
        with_reducible rfl
      rotate_left
      · simp only [Act.put, List.setIfInBounds_toArray, List.set_cons_zero, List.set_cons_succ, i64_w, i32_w]
        rfl
      refine take_ (i := 14) (N := some 162) (v := ?_) (a' := ?_) #[true, true, true, true, true, true, true, true, true, true, true, true, true, true, true, false, false, false, false] rfl rfl (take_ofW HT_.out HW_.out (by kernel_rfl)) (fun _ _ _ h => h) (Or.inl ⟨by rfl, ?_⟩) hHeld ?_ ?_
      rotate_left
      · rintro w' ⟨s0_, s1_, s2_, s3_, s4_, s5_, s6_⟩
        go_simp
        with_reducible rfl
      rotate_left
      · simp only [Act.put, List.setIfInBounds_toArray, List.set_cons_zero, List.set_cons_succ, i64_w, i32_w]
        rfl
      refine two_ (i := 15) (j := 17) (Ni := some 163) (Nj := some 17) #[true, true, true, true, true, true, true, true, true, true, true, true, true, true, true, true, false, false, false] #[true, true, true, true, true, true, true, true, true, true, true, true, true, true, true, false, false, true, false] rfl rfl rfl rfl (two_of HT_.out (by kernel_rfl)) (by decide) (by decide) (fun K hK => ?_) (fun K hK => ?_)
      · refine Kd.N_append_rows_step k66 (w0 := w) w.heap.size (by rfl) (.tmp 160) (.tmp 162) 38 66 (.agg #[(.int .i64 0), (.int .i64 0), (.int .i64 0), (.string ⟨#[]⟩)]) 40 rfl Tryd.underlying38 info66 rfl (by decide) (by omega) _ p7 q7 A2 q7.length c2 (fun _ => True) (fun k => True ∧ some k ≠ (Value.slice A147 p7.length c147).ownBlock) rfl (by first | rfl | (go_simp; done) | (go_simp; rfl)) ?aN ?aR ?aK (fun _ _ => trivial) ?aB ?aS ?aL ?_
        (case aN => exact (by (with_reducible repeat (first | apply Kd.N_alloc | apply Kd.N_drewN | apply Kd.N_drew)); exact HL.out))
        (case aR => exact Kd.R_F (R.to HO2))
        (case aK => exact fun k hk => ⟨trivial, hk.2⟩)
        (case aB => exact (Mem.below (Mem.to HM)))
        (case aS => exact Mem.size (Mem.to HM))
        (case aL => have := hlp.out; have := hlq.out; first | omega | (simp only [List.length_nil]; omega))
        intro v163 W_a ho hb hg hat
        have HA2 := Aside0.mk (Mem.apart_after (Mem.to HM) HA.out hat)
        (have n1_ := Aside0.mk (Kd.R_after (v1 := v163) (R.to HO1) hg hat); clear HO1; have HO1 := n1_; clear n1_; have n1_ := Aside0.mk (Kd.R_after (v1 := v163) (R.to HO2) hg hat); clear HO2; have HO2 := n1_; clear n1_; have n1_ := Aside0.mk (Kd.R_after (v1 := v163) (R.to HO3) hg hat); clear HO3; have HO3 := n1_; clear n1_)
        (have n0_ := Mem.grown (Mem.to HM) hb hg HA.out; clear HM; have HM := Aside0.mk n0_; clear n0_)
        clear HL HA
        have HA := HA2
        clear HA2
        have HL : Aside0 (Kd.N k66 66 W_a w.heap.size (fun _ => True) v163 pq) := ⟨by rw [hpq.out]; exact ho⟩
        clear ho hb hg hat
        obtain ⟨A163, c163, e_⟩ := Kd.N_slice HL.out
        subst e_
        refine hK.out _ _ (by first | exact ⟨Mem.cellv (Mem.to HM) 3 rfl 0 rfl, Mem.cellv (Mem.to HM) 3 rfl 1 rfl, Mem.cellv (Mem.to HM) 3 rfl 2 rfl, Mem.cellv (Mem.to HM) 3 rfl 3 rfl, Mem.cellv (Mem.to HM) 2 rfl 4 rfl, Mem.cellv (Mem.to HM) 1 rfl 5 rfl, Mem.cellv (Mem.to HM) 1 rfl 6 rfl⟩ | exact ⟨Mem.cellv (Mem.to HM) 4 rfl 0 rfl, Mem.cellv (Mem.to HM) 4 rfl 1 rfl, Mem.cellv (Mem.to HM) 4 rfl 2 rfl, Mem.cellv (Mem.to HM) 4 rfl 3 rfl, Mem.cellv (Mem.to HM) 3 rfl 4 rfl, Mem.cellv (Mem.to HM) 2 rfl 5 rfl, Mem.cellv (Mem.to HM) 2 rfl 6 rfl⟩) (fun hHeld => ?_)
        clear hK K
        refine norm_ (a' := ?_) ?_ ?_
        rotate_left
        · show Act.put _ (some 163) _ = _
          simp only [Act.put, List.setIfInBounds_toArray, List.set_cons_zero, List.set_cons_succ, i64_w, i32_w]
          rfl
        refine pure_ (i := 16) (N := some 164) (v := ?_) (a' := ?_) #[true, true, true, true, true, true, true, true, true, true, true, true, true, true, true, true, true, false, false] rfl rfl (any_of HT_.out (by kernel_rfl)) (fun _ _ _ h => h) (Or.inl ⟨by rfl, ?_⟩) ?_ ?_
        rotate_left
        · intro w'
          go_simp
          with_reducible rfl
        rotate_left
        · simp only [Act.put, List.setIfInBounds_toArray, List.set_cons_zero, List.set_cons_succ, i64_w, i32_w]
          rfl
        refine one_ (i := 17) (N := some 17) #[true, true, true, true, true, true, true, true, true, true, true, true, true, true, true, true, true, true, false] rfl rfl (one_of HT_.out (by kernel_rfl)) (by decide) (fun K hK => ?_)
        refine box_step (cs := #[.int .i64 0, .int .i64 0, .int .i64 0, .int .i64 0, .int .i64 0, .int .i64 0, .slice none 0 0]) (t := 40) (by rfl) rfl ?hr ?_
        (case hr => first | (go_simp; done) | (go_simp; rfl))
        intro S4 hg_ W_S4 hk_ hB_
        (have n0_ := Mem.box (Mem.to HM) hg_ hB_ hk_; clear HM; have HM := Aside0.mk n0_; clear n0_)
        have n1_ := Aside0.mk (Kd.R_below (R.to HO1) hB_)
        clear HO1
        have HO1 := n1_
        clear n1_
        have n1_ := Aside0.mk (Kd.R_below (R.to HO2) hB_)
        clear HO2
        have HO2 := n1_
        clear n1_
        have n1_ := Aside0.mk (Kd.R_below (R.to HO3) hB_)
        clear HO3
        have HO3 := n1_
        clear n1_
        have n1_ := Aside0.mk (Kd.N_mono (ok' := fun k => k ≠ S4) (Kd.N_below (Kd.N_bound (by (with_reducible repeat (first | apply Kd.N_alloc | apply Kd.N_drewN | apply Kd.N_drew)); exact HL.out)) hB_) (fun k hk e => Nat.lt_irrefl _ (hg_ ▸ (e ▸ hk.2))))
        clear HL
        have HL := n1_
        clear n1_ hk_ hB_ hg_
        refine hK.out _ _ (by first | exact ⟨Mem.cellv (Mem.to HM) 3 rfl 0 rfl, Mem.cellv (Mem.to HM) 3 rfl 1 rfl, Mem.cellv (Mem.to HM) 3 rfl 2 rfl, Mem.cellv (Mem.to HM) 3 rfl 3 rfl, Mem.cellv (Mem.to HM) 2 rfl 4 rfl, Mem.cellv (Mem.to HM) 1 rfl 5 rfl, Mem.cellv (Mem.to HM) 1 rfl 6 rfl⟩ | exact ⟨Mem.cellv (Mem.to HM) 4 rfl 0 rfl, Mem.cellv (Mem.to HM) 4 rfl 1 rfl, Mem.cellv (Mem.to HM) 4 rfl 2 rfl, Mem.cellv (Mem.to HM) 4 rfl 3 rfl, Mem.cellv (Mem.to HM) 3 rfl 4 rfl, Mem.cellv (Mem.to HM) 2 rfl 5 rfl, Mem.cellv (Mem.to HM) 2 rfl 6 rfl⟩) (fun hHeld => ?_)
        clear hK K
        refine norm_ (a' := ?_) ?_ ?_
        rotate_left
        · show Act.put _ (some 17) _ = _
          simp only [Act.put, List.setIfInBounds_toArray, List.set_cons_zero, List.set_cons_succ, i64_w, i32_w]
          rfl
        refine last_ (i := 18) (N := none) #[true, true, true, true, true, true, true, true, true, true, true, true, true, true, true, true, true, true, true] rfl rfl (one_of HT_.out (by kernel_rfl)) (by decide) (fun K hK => ?_)
        refine store_step (by rfl) 40 (.tmp 17) (.tmp 164) rfl rfl _ #[.int .i64 a1_0, .int .i64 a1_1, .int .i64 a1_2, .int .i64 a1_3, .int .i64 p5, .int .i64 q6, .slice A163 pq.length c163] ?hx ?hy 40 _ (Mem.get (Mem.to HM) 0 rfl) ?hi ?hold ?h1 ?_
        (case hx => rfl)
        (case hy => first | rfl | (go_simp; done) | (go_simp; rfl))
        (case hi => kernel_rfl)
        (case hold => rfl)
        (case h1 => rfl)
        intro W_ hs_ hk_
        have HM0_ := HM.out
        (have n1_ := Aside0.mk (Kd.R_mono (R_kept (Kd.R_types (R.to HO1) (Mem.get HM0_ 0 rfl) (by decide)) hk_ (fun _ hk => hk.2)) (fun _ _ => trivial)); clear HO1; have HO1 := n1_; clear n1_; have n1_ := Aside0.mk (Kd.R_mono (R_kept (Kd.R_types (R.to HO2) (Mem.get HM0_ 0 rfl) (by decide)) hk_ (fun _ hk => hk.2)) (fun _ _ => trivial)); clear HO2; have HO2 := n1_; clear n1_; have n1_ := Aside0.mk (Kd.R_mono (R_kept (Kd.R_types (R.to HO3) (Mem.get HM0_ 0 rfl) (by decide)) hk_ (fun _ hk => hk.2)) (fun _ _ => trivial)); clear HO3; have HO3 := n1_; clear n1_; have n1_ := Aside0.mk (Kd.N_step (by (with_reducible repeat (first | apply Kd.N_alloc | apply Kd.N_drewN | apply Kd.N_drew)); exact HL.out) (fun k ho _ => hk_.block k ho)); clear HL; have HL := n1_; clear n1_)
        (have n0_ := Mem.set (Mem.to HM) 0 rfl hs_ hk_; simp only [List.set_cons_zero, List.set_cons_succ] at n0_; clear HM; have HM := Aside0.mk n0_; clear n0_)
        clear hs_ hk_ HM0_
        refine hK.out _ _ ?_
        clear hK K
        refine done_ (done_of HT_.out (by kernel_rfl)) ?_
        go_wp2_with (first | ((with_reducible refine gate_load_ (t := 40) (p := 8) rfl ?_); (try (refine gate_guard (by rfl) ?_; dsimp only)); refine load_event ?hgd 40 (.tmp 8) rfl _ ?hx 40 _ (Mem.get (Mem.to HM) 3 rfl) Tryd.underlying40 rfl ?hi ?_; (case hgd => rfl); (case hx => rfl); (case hi => kernel_rfl)) | ((with_reducible refine gate_load_ (t := 40) (p := 10) rfl ?_); (try (refine gate_guard (by rfl) ?_; dsimp only)); refine load_event ?hgd 40 (.tmp 10) rfl _ ?hx 40 _ (Mem.get (Mem.to HM) 2 rfl) Tryd.underlying40 rfl ?hi ?_; (case hgd => rfl); (case hx => rfl); (case hi => kernel_rfl)) | ((with_reducible refine gate_load_ (t := 40) (p := 12) rfl ?_); (try (refine gate_guard (by rfl) ?_; dsimp only)); refine load_event ?hgd 40 (.tmp 12) rfl _ ?hx 40 _ (Mem.get (Mem.to HM) 1 rfl) Tryd.underlying40 rfl ?hi ?_; (case hgd => rfl); (case hx => rfl); (case hi => kernel_rfl)) | ((with_reducible refine gate_load_ (t := 40) (p := 17) rfl ?_); (try (refine gate_guard (by rfl) ?_; dsimp only)); refine load_event ?hgd 40 (.tmp 17) rfl _ ?hx 40 _ (Mem.get (Mem.to HM) 0 rfl) Tryd.underlying40 rfl ?hi ?_; (case hgd => rfl); (case hx => rfl); (case hi => kernel_rfl)) | (go_at_call 16; with_reducible refine (statement_Follows.calls p1 p2 p3 p4 p5 p6 A1 c1 p7 q1 q2 q3 q4 q5 q6 A2 c2 q7 true _ ?hc1 ?hl1 ?hc2 ?hl2 HFo.out).mono ?_; (case hc1 => exact (Kd.R_reads' (R.to HO1)).2.2); (case hl1 => exact (Kd.R_reads' HO1.out).2.1); (case hc2 => exact (Kd.R_reads' (R.to HO2)).2.2); (case hl2 => exact (Kd.R_reads' HO2.out).2.1); rintro e W_c ⟨rfl, hb_⟩; have n1_ := Aside0.mk (Kd.R_below (R.to HO1) hb_); clear HO1; have HO1 := n1_; clear n1_; have n1_ := Aside0.mk (Kd.R_below (R.to HO2) hb_); clear HO2; have HO2 := n1_; clear n1_; have n1_ := Aside0.mk (Kd.R_below (R.to HO3) hb_); clear HO3; have HO3 := n1_; clear n1_; have n1_ := Aside0.mk (Kd.N_below (by (with_reducible repeat (first | apply Kd.N_alloc | apply Kd.N_drewN | apply Kd.N_drew)); exact HL.out) hb_); clear HL; have HL := n1_; clear n1_; have n0_ := Mem.later (Mem.to HM) hb_; clear HM; have HM := Aside0.mk n0_; clear n0_; clear hb_) | (go_at_call 14; with_reducible refine (statement_Check.calls k p1 p2 p3 p4 p5 p6 A1 c1 p7 0 _ ?hc1 ?hl1 HK1.out).mono ?_; (case hc1 => exact (Kd.R_reads' (R.to HO1)).2.2); (case hl1 => exact (Kd.R_reads' HO1.out).2.1); rintro e W_c ⟨rfl, hb_⟩; have n1_ := Aside0.mk (Kd.R_below (R.to HO1) hb_); clear HO1; have HO1 := n1_; clear n1_; have n1_ := Aside0.mk (Kd.R_below (R.to HO2) hb_); clear HO2; have HO2 := n1_; clear n1_; have n1_ := Aside0.mk (Kd.R_below (R.to HO3) hb_); clear HO3; have HO3 := n1_; clear n1_; have n1_ := Aside0.mk (Kd.N_below (by (with_reducible repeat (first | apply Kd.N_alloc | apply Kd.N_drewN | apply Kd.N_drew)); exact HL.out) hb_); clear HL; have HL := n1_; clear n1_; have n0_ := Mem.later (Mem.to HM) hb_; clear HM; have HM := Aside0.mk n0_; clear n0_; clear hb_) | (go_at_call 14; with_reducible refine (statement_Check.calls k q1 q2 q3 q4 q5 q6 A2 c2 q7 0 _ ?hc1 ?hl1 HK2.out).mono ?_; (case hc1 => exact (Kd.R_reads' (R.to HO2)).2.2); (case hl1 => exact (Kd.R_reads' HO2.out).2.1); rintro e W_c ⟨rfl, hb_⟩; have n1_ := Aside0.mk (Kd.R_below (R.to HO1) hb_); clear HO1; have HO1 := n1_; clear n1_; have n1_ := Aside0.mk (Kd.R_below (R.to HO2) hb_); clear HO2; have HO2 := n1_; clear n1_; have n1_ := Aside0.mk (Kd.R_below (R.to HO3) hb_); clear HO3; have HO3 := n1_; clear n1_; have n1_ := Aside0.mk (Kd.N_below (by (with_reducible repeat (first | apply Kd.N_alloc | apply Kd.N_drewN | apply Kd.N_drew)); exact HL.out) hb_); clear HL; have HL := n1_; clear n1_; have n0_ := Mem.later (Mem.to HM) hb_; clear HM; have HM := Aside0.mk n0_; clear n0_; clear hb_) | (go_at_call 14; with_reducible refine (statement_Check.calls k s1 s2 s3 s4 s5 s6 A3 c3 s7 0 _ ?hc1 ?hl1 HK3.out).mono ?_; (case hc1 => exact (Kd.R_reads' (R.to HO3)).2.2); (case hl1 => exact (Kd.R_reads' HO3.out).2.1); rintro e W_c ⟨rfl, hb_⟩; have n1_ := Aside0.mk (Kd.R_below (R.to HO1) hb_); clear HO1; have HO1 := n1_; clear n1_; have n1_ := Aside0.mk (Kd.R_below (R.to HO2) hb_); clear HO2; have HO2 := n1_; clear n1_; have n1_ := Aside0.mk (Kd.R_below (R.to HO3) hb_); clear HO3; have HO3 := n1_; clear n1_; have n1_ := Aside0.mk (Kd.N_below (by (with_reducible repeat (first | apply Kd.N_alloc | apply Kd.N_drewN | apply Kd.N_drew)); exact HL.out) hb_); clear HL; have HL := n1_; clear n1_; have n0_ := Mem.later (Mem.to HM) hb_; clear HM; have HM := Aside0.mk n0_; clear n0_; clear hb_) | (go_at_call 12; with_reducible refine (corebankref45_Same.calls k a1_0 a1_1 a1_2 a1_3 p5 q6 A163 c163 pq s1 s2 s3 s4 s5 s6 A3 c3 s7 true _ ?hc1 ?hl1 ?hc2 ?hl2 HS.out rfl).mono ?_; (case hc1 => exact (Kd.N_reads' (by (with_reducible repeat (first | apply Kd.N_alloc | apply Kd.N_drewN | apply Kd.N_drew)); exact HL.out)).2.2); (case hl1 => exact (Kd.N_reads' HL.out).2.1); (case hc2 => exact (Kd.R_reads' (R.to HO3)).2.2); (case hl2 => exact (Kd.R_reads' HO3.out).2.1); rintro e W_c ⟨rfl, hb_⟩; have n1_ := Aside0.mk (Kd.R_below (R.to HO1) hb_); clear HO1; have HO1 := n1_; clear n1_; have n1_ := Aside0.mk (Kd.R_below (R.to HO2) hb_); clear HO2; have HO2 := n1_; clear n1_; have n1_ := Aside0.mk (Kd.R_below (R.to HO3) hb_); clear HO3; have HO3 := n1_; clear n1_; have n1_ := Aside0.mk (Kd.N_below (by (with_reducible repeat (first | apply Kd.N_alloc | apply Kd.N_drewN | apply Kd.N_drew)); exact HL.out) hb_); clear HL; have HL := n1_; clear n1_; have n0_ := Mem.later (Mem.to HM) hb_; clear HM; have HM := Aside0.mk n0_; clear n0_; clear hb_) | (go_at_call 9; refine (lives_any _ ⟨(Glob.at HG (Mem.below (by first | exact HM.out | exact Mem.to HM)))⟩).mono ?_; rintro e W_c ⟨rfl, hb_⟩; have n0_ := Mem.later (Mem.to HM) hb_; clear HM; have HM := Aside0.mk n0_; clear n0_; clear hb_))
        go_ret
        exact ⟨rfl, Mem.below (Mem.to HM)⟩
      · refine box_step (cs := #[.int .i64 0, .int .i64 0, .int .i64 0, .int .i64 0, .int .i64 0, .int .i64 0, .slice none 0 0]) (t := 40) (by rfl) rfl ?hr ?_
        (case hr => first | (go_simp; done) | (go_simp; rfl))
        intro S4 hg_ W_S4 hk_ hB_
        have HA2 := Aside0.mk (Mem.apart_box (t := 40) (cs := #[.int .i64 0, .int .i64 0, .int .i64 0, .int .i64 0, .int .i64 0, .int .i64 0, .slice none 0 0]) HA.out (Kd.N_lt (by (with_reducible repeat (first | apply Kd.N_alloc | apply Kd.N_drewN | apply Kd.N_drew)); exact HL.out)) hg_)
        clear HA
        have HA := HA2
        clear HA2
        (have n0_ := Mem.box (Mem.to HM) hg_ hB_ hk_; clear HM; have HM := Aside0.mk n0_; clear n0_)
        have n1_ := Aside0.mk (Kd.R_below (R.to HO1) hB_)
        clear HO1
        have HO1 := n1_
        clear n1_
        have n1_ := Aside0.mk (R_box (ok := fun _ => True) (q := fun k => some k ≠ (Value.slice A147 p7.length c147).ownBlock) (R.to HO2) hg_ hB_)
        clear HO2
        have HO2 := n1_
        clear n1_
        have n1_ := Aside0.mk (Kd.R_below (R.to HO3) hB_)
        clear HO3
        have HO3 := n1_
        clear n1_
        have n1_ := Aside0.mk (Kd.N_mono (ok' := fun k => k ≠ S4) (Kd.N_below (Kd.N_bound (by (with_reducible repeat (first | apply Kd.N_alloc | apply Kd.N_drewN | apply Kd.N_drew)); exact HL.out)) hB_) (fun k hk e => Nat.lt_irrefl _ (hg_ ▸ (e ▸ hk.2))))
        clear HL
        have HL := n1_
        clear n1_ hk_ hB_ hg_
        refine hK.out _ _ (by first | exact ⟨Mem.cellv (Mem.to HM) 3 rfl 0 rfl, Mem.cellv (Mem.to HM) 3 rfl 1 rfl, Mem.cellv (Mem.to HM) 3 rfl 2 rfl, Mem.cellv (Mem.to HM) 3 rfl 3 rfl, Mem.cellv (Mem.to HM) 2 rfl 4 rfl, Mem.cellv (Mem.to HM) 1 rfl 5 rfl, Mem.cellv (Mem.to HM) 1 rfl 6 rfl⟩ | exact ⟨Mem.cellv (Mem.to HM) 4 rfl 0 rfl, Mem.cellv (Mem.to HM) 4 rfl 1 rfl, Mem.cellv (Mem.to HM) 4 rfl 2 rfl, Mem.cellv (Mem.to HM) 4 rfl 3 rfl, Mem.cellv (Mem.to HM) 3 rfl 4 rfl, Mem.cellv (Mem.to HM) 2 rfl 5 rfl, Mem.cellv (Mem.to HM) 2 rfl 6 rfl⟩) (fun hHeld => ?_)
        clear hK K
        refine norm_ (a' := ?_) ?_ ?_
        rotate_left
        · show Act.put _ (some 17) _ = _
          simp only [Act.put, List.setIfInBounds_toArray, List.set_cons_zero, List.set_cons_succ, i64_w, i32_w]
          rfl
        refine one_ (i := 15) (N := some 163) #[true, true, true, true, true, true, true, true, true, true, true, true, true, true, true, true, false, true, false] rfl rfl (one_of HT_.out (by kernel_rfl)) (by decide) (fun K hK => ?_)
        refine Kd.N_append_rows_step k66 (w0 := w) w.heap.size (by rfl) (.tmp 160) (.tmp 162) 38 66 (.agg #[(.int .i64 0), (.int .i64 0), (.int .i64 0), (.string ⟨#[]⟩)]) 40 rfl Tryd.underlying38 info66 rfl (by decide) (by omega) _ p7 q7 A2 q7.length c2 (fun k => k ≠ S4) (fun k => k ≠ S4 ∧ some k ≠ (Value.slice A147 p7.length c147).ownBlock) rfl (by first | rfl | (go_simp; done) | (go_simp; rfl)) ?aN ?aR ?aK ?aF ?aB ?aS ?aL ?_
        (case aF => exact fun k hk e => Nat.lt_irrefl _ (Nat.lt_of_lt_of_le (e ▸ Mem.slot (by first | exact HM.out | exact Mem.to HM) 0 rfl) hk))
        (case aN => exact (by (with_reducible repeat (first | apply Kd.N_alloc | apply Kd.N_drewN | apply Kd.N_drew)); exact HL.out))
        (case aR => exact Kd.R_F (R.to HO2))
        (case aK => exact fun k hk => hk)
        (case aB => exact (Mem.below (Mem.to HM)))
        (case aS => exact Mem.size (Mem.to HM))
        (case aL => have := hlp.out; have := hlq.out; first | omega | (simp only [List.length_nil]; omega))
        intro v163 W_a ho hb hg hat
        have HA2 := Aside0.mk (Mem.apart_after (Mem.to HM) HA.out hat)
        (have n1_ := Aside0.mk (Kd.R_after (v1 := v163) (R.to HO1) hg hat); clear HO1; have HO1 := n1_; clear n1_; have n1_ := Aside0.mk (Kd.R_after (v1 := v163) (R.to HO2) hg hat); clear HO2; have HO2 := n1_; clear n1_; have n1_ := Aside0.mk (Kd.R_after (v1 := v163) (R.to HO3) hg hat); clear HO3; have HO3 := n1_; clear n1_)
        (have n0_ := Mem.grown (Mem.to HM) hb hg HA.out; clear HM; have HM := Aside0.mk n0_; clear n0_)
        clear HL HA
        have HA := HA2
        clear HA2
        have HL : Aside0 (Kd.N k66 66 W_a w.heap.size (fun k => k ≠ S4) v163 pq) := ⟨by rw [hpq.out]; exact ho⟩
        clear ho hb hg hat
        obtain ⟨A163, c163, e_⟩ := Kd.N_slice HL.out
        subst e_
        refine hK.out _ _ (by first | exact ⟨Mem.cellv (Mem.to HM) 3 rfl 0 rfl, Mem.cellv (Mem.to HM) 3 rfl 1 rfl, Mem.cellv (Mem.to HM) 3 rfl 2 rfl, Mem.cellv (Mem.to HM) 3 rfl 3 rfl, Mem.cellv (Mem.to HM) 2 rfl 4 rfl, Mem.cellv (Mem.to HM) 1 rfl 5 rfl, Mem.cellv (Mem.to HM) 1 rfl 6 rfl⟩ | exact ⟨Mem.cellv (Mem.to HM) 4 rfl 0 rfl, Mem.cellv (Mem.to HM) 4 rfl 1 rfl, Mem.cellv (Mem.to HM) 4 rfl 2 rfl, Mem.cellv (Mem.to HM) 4 rfl 3 rfl, Mem.cellv (Mem.to HM) 3 rfl 4 rfl, Mem.cellv (Mem.to HM) 2 rfl 5 rfl, Mem.cellv (Mem.to HM) 2 rfl 6 rfl⟩) (fun hHeld => ?_)
        clear hK K
        refine norm_ (a' := ?_) ?_ ?_
        rotate_left
        · show Act.put _ (some 163) _ = _
          simp only [Act.put, List.setIfInBounds_toArray, List.set_cons_zero, List.set_cons_succ, i64_w, i32_w]
          rfl
        refine pure_ (i := 16) (N := some 164) (v := ?_) (a' := ?_) #[true, true, true, true, true, true, true, true, true, true, true, true, true, true, true, true, true, true, false] rfl rfl (any_of HT_.out (by kernel_rfl)) (fun _ _ _ h => h) (Or.inl ⟨by rfl, ?_⟩) ?_ ?_
        rotate_left
        · intro w'
          go_simp
          with_reducible rfl
        rotate_left
        · simp only [Act.put, List.setIfInBounds_toArray, List.set_cons_zero, List.set_cons_succ, i64_w, i32_w]
          rfl
        refine last_ (i := 18) (N := none) #[true, true, true, true, true, true, true, true, true, true, true, true, true, true, true, true, true, true, true] rfl rfl (one_of HT_.out (by kernel_rfl)) (by decide) (fun K hK => ?_)
        refine store_step (by rfl) 40 (.tmp 17) (.tmp 164) rfl rfl _ #[.int .i64 a1_0, .int .i64 a1_1, .int .i64 a1_2, .int .i64 a1_3, .int .i64 p5, .int .i64 q6, .slice A163 pq.length c163] ?hx ?hy 40 _ (Mem.get (Mem.to HM) 0 rfl) ?hi ?hold ?h1 ?_
        (case hx => rfl)
        (case hy => first | rfl | (go_simp; done) | (go_simp; rfl))
        (case hi => kernel_rfl)
        (case hold => rfl)
        (case h1 => rfl)
        intro W_ hs_ hk_
        have HM0_ := HM.out
        (have n1_ := Aside0.mk (Kd.R_mono (R_kept (Kd.R_types (R.to HO1) (Mem.get HM0_ 0 rfl) (by decide)) hk_ (fun _ hk => hk.2)) (fun _ _ => trivial)); clear HO1; have HO1 := n1_; clear n1_; have n1_ := Aside0.mk (Kd.R_mono (R_kept (Kd.R_types (R.to HO2) (Mem.get HM0_ 0 rfl) (by decide)) hk_ (fun _ hk => hk.2)) (fun _ _ => trivial)); clear HO2; have HO2 := n1_; clear n1_; have n1_ := Aside0.mk (Kd.R_mono (R_kept (Kd.R_types (R.to HO3) (Mem.get HM0_ 0 rfl) (by decide)) hk_ (fun _ hk => hk.2)) (fun _ _ => trivial)); clear HO3; have HO3 := n1_; clear n1_; have n1_ := Aside0.mk (Kd.N_step (by (with_reducible repeat (first | apply Kd.N_alloc | apply Kd.N_drewN | apply Kd.N_drew)); exact HL.out) (fun k ho _ => hk_.block k ho)); clear HL; have HL := n1_; clear n1_)
        (have n0_ := Mem.set (Mem.to HM) 0 rfl hs_ hk_; simp only [List.set_cons_zero, List.set_cons_succ] at n0_; clear HM; have HM := Aside0.mk n0_; clear n0_)
        clear hs_ hk_ HM0_
        refine hK.out _ _ ?_
        clear hK K
        refine done_ (done_of HT_.out (by kernel_rfl)) ?_
        go_wp2_with (first | ((with_reducible refine gate_load_ (t := 40) (p := 8) rfl ?_); (try (refine gate_guard (by rfl) ?_; dsimp only)); refine load_event ?hgd 40 (.tmp 8) rfl _ ?hx 40 _ (Mem.get (Mem.to HM) 3 rfl) Tryd.underlying40 rfl ?hi ?_; (case hgd => rfl); (case hx => rfl); (case hi => kernel_rfl)) | ((with_reducible refine gate_load_ (t := 40) (p := 10) rfl ?_); (try (refine gate_guard (by rfl) ?_; dsimp only)); refine load_event ?hgd 40 (.tmp 10) rfl _ ?hx 40 _ (Mem.get (Mem.to HM) 2 rfl) Tryd.underlying40 rfl ?hi ?_; (case hgd => rfl); (case hx => rfl); (case hi => kernel_rfl)) | ((with_reducible refine gate_load_ (t := 40) (p := 12) rfl ?_); (try (refine gate_guard (by rfl) ?_; dsimp only)); refine load_event ?hgd 40 (.tmp 12) rfl _ ?hx 40 _ (Mem.get (Mem.to HM) 1 rfl) Tryd.underlying40 rfl ?hi ?_; (case hgd => rfl); (case hx => rfl); (case hi => kernel_rfl)) | ((with_reducible refine gate_load_ (t := 40) (p := 17) rfl ?_); (try (refine gate_guard (by rfl) ?_; dsimp only)); refine load_event ?hgd 40 (.tmp 17) rfl _ ?hx 40 _ (Mem.get (Mem.to HM) 0 rfl) Tryd.underlying40 rfl ?hi ?_; (case hgd => rfl); (case hx => rfl); (case hi => kernel_rfl)) | (go_at_call 16; with_reducible refine (statement_Follows.calls p1 p2 p3 p4 p5 p6 A1 c1 p7 q1 q2 q3 q4 q5 q6 A2 c2 q7 true _ ?hc1 ?hl1 ?hc2 ?hl2 HFo.out).mono ?_; (case hc1 => exact (Kd.R_reads' (R.to HO1)).2.2); (case hl1 => exact (Kd.R_reads' HO1.out).2.1); (case hc2 => exact (Kd.R_reads' (R.to HO2)).2.2); (case hl2 => exact (Kd.R_reads' HO2.out).2.1); rintro e W_c ⟨rfl, hb_⟩; have n1_ := Aside0.mk (Kd.R_below (R.to HO1) hb_); clear HO1; have HO1 := n1_; clear n1_; have n1_ := Aside0.mk (Kd.R_below (R.to HO2) hb_); clear HO2; have HO2 := n1_; clear n1_; have n1_ := Aside0.mk (Kd.R_below (R.to HO3) hb_); clear HO3; have HO3 := n1_; clear n1_; have n1_ := Aside0.mk (Kd.N_below (by (with_reducible repeat (first | apply Kd.N_alloc | apply Kd.N_drewN | apply Kd.N_drew)); exact HL.out) hb_); clear HL; have HL := n1_; clear n1_; have n0_ := Mem.later (Mem.to HM) hb_; clear HM; have HM := Aside0.mk n0_; clear n0_; clear hb_) | (go_at_call 14; with_reducible refine (statement_Check.calls k p1 p2 p3 p4 p5 p6 A1 c1 p7 0 _ ?hc1 ?hl1 HK1.out).mono ?_; (case hc1 => exact (Kd.R_reads' (R.to HO1)).2.2); (case hl1 => exact (Kd.R_reads' HO1.out).2.1); rintro e W_c ⟨rfl, hb_⟩; have n1_ := Aside0.mk (Kd.R_below (R.to HO1) hb_); clear HO1; have HO1 := n1_; clear n1_; have n1_ := Aside0.mk (Kd.R_below (R.to HO2) hb_); clear HO2; have HO2 := n1_; clear n1_; have n1_ := Aside0.mk (Kd.R_below (R.to HO3) hb_); clear HO3; have HO3 := n1_; clear n1_; have n1_ := Aside0.mk (Kd.N_below (by (with_reducible repeat (first | apply Kd.N_alloc | apply Kd.N_drewN | apply Kd.N_drew)); exact HL.out) hb_); clear HL; have HL := n1_; clear n1_; have n0_ := Mem.later (Mem.to HM) hb_; clear HM; have HM := Aside0.mk n0_; clear n0_; clear hb_) | (go_at_call 14; with_reducible refine (statement_Check.calls k q1 q2 q3 q4 q5 q6 A2 c2 q7 0 _ ?hc1 ?hl1 HK2.out).mono ?_; (case hc1 => exact (Kd.R_reads' (R.to HO2)).2.2); (case hl1 => exact (Kd.R_reads' HO2.out).2.1); rintro e W_c ⟨rfl, hb_⟩; have n1_ := Aside0.mk (Kd.R_below (R.to HO1) hb_); clear HO1; have HO1 := n1_; clear n1_; have n1_ := Aside0.mk (Kd.R_below (R.to HO2) hb_); clear HO2; have HO2 := n1_; clear n1_; have n1_ := Aside0.mk (Kd.R_below (R.to HO3) hb_); clear HO3; have HO3 := n1_; clear n1_; have n1_ := Aside0.mk (Kd.N_below (by (with_reducible repeat (first | apply Kd.N_alloc | apply Kd.N_drewN | apply Kd.N_drew)); exact HL.out) hb_); clear HL; have HL := n1_; clear n1_; have n0_ := Mem.later (Mem.to HM) hb_; clear HM; have HM := Aside0.mk n0_; clear n0_; clear hb_) | (go_at_call 14; with_reducible refine (statement_Check.calls k s1 s2 s3 s4 s5 s6 A3 c3 s7 0 _ ?hc1 ?hl1 HK3.out).mono ?_; (case hc1 => exact (Kd.R_reads' (R.to HO3)).2.2); (case hl1 => exact (Kd.R_reads' HO3.out).2.1); rintro e W_c ⟨rfl, hb_⟩; have n1_ := Aside0.mk (Kd.R_below (R.to HO1) hb_); clear HO1; have HO1 := n1_; clear n1_; have n1_ := Aside0.mk (Kd.R_below (R.to HO2) hb_); clear HO2; have HO2 := n1_; clear n1_; have n1_ := Aside0.mk (Kd.R_below (R.to HO3) hb_); clear HO3; have HO3 := n1_; clear n1_; have n1_ := Aside0.mk (Kd.N_below (by (with_reducible repeat (first | apply Kd.N_alloc | apply Kd.N_drewN | apply Kd.N_drew)); exact HL.out) hb_); clear HL; have HL := n1_; clear n1_; have n0_ := Mem.later (Mem.to HM) hb_; clear HM; have HM := Aside0.mk n0_; clear n0_; clear hb_) | (go_at_call 12; with_reducible refine (corebankref45_Same.calls k a1_0 a1_1 a1_2 a1_3 p5 q6 A163 c163 pq s1 s2 s3 s4 s5 s6 A3 c3 s7 true _ ?hc1 ?hl1 ?hc2 ?hl2 HS.out rfl).mono ?_; (case hc1 => exact (Kd.N_reads' (by (with_reducible repeat (first | apply Kd.N_alloc | apply Kd.N_drewN | apply Kd.N_drew)); exact HL.out)).2.2); (case hl1 => exact (Kd.N_reads' HL.out).2.1); (case hc2 => exact (Kd.R_reads' (R.to HO3)).2.2); (case hl2 => exact (Kd.R_reads' HO3.out).2.1); rintro e W_c ⟨rfl, hb_⟩; have n1_ := Aside0.mk (Kd.R_below (R.to HO1) hb_); clear HO1; have HO1 := n1_; clear n1_; have n1_ := Aside0.mk (Kd.R_below (R.to HO2) hb_); clear HO2; have HO2 := n1_; clear n1_; have n1_ := Aside0.mk (Kd.R_below (R.to HO3) hb_); clear HO3; have HO3 := n1_; clear n1_; have n1_ := Aside0.mk (Kd.N_below (by (with_reducible repeat (first | apply Kd.N_alloc | apply Kd.N_drewN | apply Kd.N_drew)); exact HL.out) hb_); clear HL; have HL := n1_; clear n1_; have n0_ := Mem.later (Mem.to HM) hb_; clear HM; have HM := Aside0.mk n0_; clear n0_; clear hb_) | (go_at_call 9; refine (lives_any _ ⟨(Glob.at HG (Mem.below (by first | exact HM.out | exact Mem.to HM)))⟩).mono ?_; rintro e W_c ⟨rfl, hb_⟩; have n0_ := Mem.later (Mem.to HM) hb_; clear HM; have HM := Aside0.mk n0_; clear n0_; clear hb_))
        go_ret
        exact ⟨rfl, Mem.below (Mem.to HM)⟩
end
/-- The law: what it comes to, as far as the proof needs it. -/
def corebanklaw45_StatementFollows.f (k : Nat) (a0_0 : OV) (a0_1 : OV) (a0_2 : OV) (a0_3 : Int) (a0_4 : Int) (a0_5 : Int) (a0_6 : Int) (a0_7 : Int) (a0_8 : Int) (a0_9 : Int) (a0_10 : Int) (a0_11 : Int) (a0_12 : Int) (a0_13 : Int) (a0_14 : Int) (a0_15 : Int) (a0_16 : Int) (a0_17 : OV) (l0_18 : List (S57)) (l0_19 : List (S54)) (a0_20 : OV) (a0_21 : OV) (a1_0 a1_1 a1_2 a1_3 a2 : Int) : Option Bool :=
  (corebanklaw45_few.f k a0_0 a0_1 a0_2 a0_3 a0_4 a0_5 a0_6 a0_7 a0_8 a0_9 a0_10 a0_11 a0_12 a0_13 a0_14 a0_15 a0_16 a0_17 l0_18 l0_19 a0_20 a0_21).bind fun t => if t = true then (if a1_0 < 1000 then some true else if a1_1 < 1 then some true else if a1_1 ≥ 4611686018427387904 then some true else if a2 < a1_2 then some true else if a2 ≥ a1_3 then some true else
    (if l0_19.length ≤ 60 then (downL k l0_19 1).bind fun u => if u = true then some true else
      (numL k l0_19 0).bind fun ys => (statement_Make.f k a0_0 a0_1 a0_2 a0_3 a0_4 a0_5 a0_6 a0_7 a0_8 a0_9 a0_10 a0_11 a0_12 a0_13 a0_14 a0_15 a0_16 a0_17 l0_18 ys a0_20 a0_21 a1_0 a1_1 a1_2 a2).bind fun p => (statement_Make.f k a0_0 a0_1 a0_2 a0_3 a0_4 a0_5 a0_6 a0_7 a0_8 a0_9 a0_10 a0_11 a0_12 a0_13 a0_14 a0_15 a0_16 a0_17 l0_18 ys a0_20 a0_21 a1_0 (wrap64 (a1_1 + 1)) (wrap64 (a2 + 1)) a1_3).bind fun q => (statement_Make.f k a0_0 a0_1 a0_2 a0_3 a0_4 a0_5 a0_6 a0_7 a0_8 a0_9 a0_10 a0_11 a0_12 a0_13 a0_14 a0_15 a0_16 a0_17 l0_18 ys a0_20 a0_21 a1_0 a1_1 a1_2 a1_3).bind fun s =>
        if p.2.2.2.2.2.2.2 = 0 ∧ q.2.2.2.2.2.2.2 = 0 then
          (if s.2.2.2.2.2.2.2 = 0 ∧ p.2.2.2.2.2.2.1.length ≤ 60 ∧ q.2.2.2.2.2.2.1.length ≤ 60 then (statement_Follows.f p.1 p.2.1 p.2.2.1 p.2.2.2.1 p.2.2.2.2.1 p.2.2.2.2.2.1 p.2.2.2.2.2.2.1 q.1 q.2.1 q.2.2.1 q.2.2.2.1 q.2.2.2.2.1 q.2.2.2.2.2.1 q.2.2.2.2.2.2.1).bind fun b => if b = true then (statement_Check.f k p.1 p.2.1 p.2.2.1 p.2.2.2.1 p.2.2.2.2.1 p.2.2.2.2.2.1 p.2.2.2.2.2.2.1).bind fun e1 => (statement_Check.f k q.1 q.2.1 q.2.2.1 q.2.2.2.1 q.2.2.2.2.1 q.2.2.2.2.2.1 q.2.2.2.2.2.2.1).bind fun e2 => (statement_Check.f k s.1 s.2.1 s.2.2.1 s.2.2.2.1 s.2.2.2.2.1 s.2.2.2.2.2.1 s.2.2.2.2.2.2.1).bind fun e3 => if e1 = 0 ∧ e2 = 0 ∧ e3 = 0 then corebankref45_Same.f k a1_0 a1_1 a1_2 a1_3 p.2.2.2.2.1 q.2.2.2.2.2.1 (p.2.2.2.2.2.2.1 ++ q.2.2.2.2.2.2.1) s.1 s.2.1 s.2.2.1 s.2.2.2.1 s.2.2.2.2.1 s.2.2.2.2.2.1 s.2.2.2.2.2.2.1 else none else none else none)
        else (corebankref24_Find.f k a0_0 a0_1 a0_2 a0_3 a0_4 a0_5 a0_6 a0_7 a0_8 a0_9 a0_10 a0_11 a0_12 a0_13 a0_14 a0_15 a0_16 a0_17 l0_18 ys a0_20 a0_21 a1_0).bind fun g => if g.2.2.2.2.2.2.2 = true then (if a1_2 < 0 then some true else if a1_3 > 73048 then some true else none) else some true else none)) else some true
theorem corebanklaw45_StatementFollows.calls (k : Nat) (a0_0 : OV) (a0_1 : OV) (a0_2 : OV) (a0_3 : Int) (a0_4 : Int) (a0_5 : Int) (a0_6 : Int) (a0_7 : Int) (a0_8 : Int) (a0_9 : Int) (a0_10 : Int) (a0_11 : Int) (a0_12 : Int) (a0_13 : Int) (a0_14 : Int) (a0_15 : Int) (a0_16 : Int) (a0_17 : OV) (A0_18 : Option Addr) (c0_18 : Nat) (l0_18 : List (S57)) (A0_19 : Option Addr) (c0_19 : Nat) (l0_19 : List (S54)) (a0_20 : OV) (a0_21 : OV) (a1_0 a1_1 a1_2 a1_3 a2 : Int) (r : Bool) (w : World) (hr0_18 : Kd.C k57 w A0_18 l0_18.length l0_18) (hc0_18 : l0_18.length ≤ c0_18) (hr0_19 : Kd.C k54 w A0_19 l0_19.length l0_19) (hc0_19 : l0_19.length ≤ c0_19) (h : corebanklaw45_StatementFollows.f k a0_0 a0_1 a0_2 a0_3 a0_4 a0_5 a0_6 a0_7 a0_8 a0_9 a0_10 a0_11 a0_12 a0_13 a0_14 a0_15 a0_16 a0_17 l0_18 l0_19 a0_20 a0_21 a1_0 a1_1 a1_2 a1_3 a2 = some r) (hG : Glob w) (ht : r = true) :
    Calls Tryd.prog 6 #[.agg #[a0_0.1, a0_1.1, a0_2.1, .int .i64 a0_3, .int .i64 a0_4, .int .i64 a0_5, .int .i64 a0_6, .int .i64 a0_7, .int .i64 a0_8, .int .i64 a0_9, .int .i64 a0_10, .int .i64 a0_11, .int .i64 a0_12, .int .i64 a0_13, .int .i64 a0_14, .int .i64 a0_15, .int .i64 a0_16, a0_17.1, .slice A0_18 l0_18.length c0_18, .slice A0_19 l0_19.length c0_19, a0_20.1, a0_21.1], .agg #[.int .i64 a1_0, .int .i64 a1_1, .int .i64 a1_2, .int .i64 a1_3], .int .i64 a2] w fun e w' => e = .returned (.bool true) ∧ Below w.heap.size w w' := by
  subst ht
  unfold corebanklaw45_StatementFollows.f at h
  obtain ⟨b, hf, h⟩ := Option.bind_eq_some_iff.1 h
  cases b with
  | false => exact wfollows_many k a0_0 a0_1 a0_2 a0_3 a0_4 a0_5 a0_6 a0_7 a0_8 a0_9 a0_10 a0_11 a0_12 a0_13 a0_14 a0_15 a0_16 a0_17 A0_18 c0_18 l0_18 A0_19 c0_19 l0_19 a0_20 a0_21 a1_0 a1_1 a1_2 a1_3 a2 w ⟨hr0_18⟩ ⟨hc0_18⟩ ⟨hr0_19⟩ ⟨hc0_19⟩ ⟨hG⟩ ⟨hf⟩
  | true =>
    rw [if_pos rfl] at h
    by_cases t0 : a1_0 < 1000
    · exact wfollows_t0 k a0_0 a0_1 a0_2 a0_3 a0_4 a0_5 a0_6 a0_7 a0_8 a0_9 a0_10 a0_11 a0_12 a0_13 a0_14 a0_15 a0_16 a0_17 A0_18 c0_18 l0_18 A0_19 c0_19 l0_19 a0_20 a0_21 a1_0 a1_1 a1_2 a1_3 a2 w ⟨hr0_18⟩ ⟨hc0_18⟩ ⟨hr0_19⟩ ⟨hc0_19⟩ ⟨hG⟩ ⟨hf⟩ t0
    rw [if_neg t0] at h
    by_cases t1 : a1_1 < 1
    · exact wfollows_t1 k a0_0 a0_1 a0_2 a0_3 a0_4 a0_5 a0_6 a0_7 a0_8 a0_9 a0_10 a0_11 a0_12 a0_13 a0_14 a0_15 a0_16 a0_17 A0_18 c0_18 l0_18 A0_19 c0_19 l0_19 a0_20 a0_21 a1_0 a1_1 a1_2 a1_3 a2 w ⟨hr0_18⟩ ⟨hc0_18⟩ ⟨hr0_19⟩ ⟨hc0_19⟩ ⟨hG⟩ ⟨hf⟩ t0 t1
    rw [if_neg t1] at h
    by_cases t2 : a1_1 ≥ 4611686018427387904
    · exact wfollows_t2 k a0_0 a0_1 a0_2 a0_3 a0_4 a0_5 a0_6 a0_7 a0_8 a0_9 a0_10 a0_11 a0_12 a0_13 a0_14 a0_15 a0_16 a0_17 A0_18 c0_18 l0_18 A0_19 c0_19 l0_19 a0_20 a0_21 a1_0 a1_1 a1_2 a1_3 a2 w ⟨hr0_18⟩ ⟨hc0_18⟩ ⟨hr0_19⟩ ⟨hc0_19⟩ ⟨hG⟩ ⟨hf⟩ t0 t1 t2
    rw [if_neg t2] at h
    by_cases t3 : a2 < a1_2
    · exact wfollows_t3 k a0_0 a0_1 a0_2 a0_3 a0_4 a0_5 a0_6 a0_7 a0_8 a0_9 a0_10 a0_11 a0_12 a0_13 a0_14 a0_15 a0_16 a0_17 A0_18 c0_18 l0_18 A0_19 c0_19 l0_19 a0_20 a0_21 a1_0 a1_1 a1_2 a1_3 a2 w ⟨hr0_18⟩ ⟨hc0_18⟩ ⟨hr0_19⟩ ⟨hc0_19⟩ ⟨hG⟩ ⟨hf⟩ t0 t1 t2 t3
    rw [if_neg t3] at h
    by_cases t4 : a2 ≥ a1_3
    · exact wfollows_t4 k a0_0 a0_1 a0_2 a0_3 a0_4 a0_5 a0_6 a0_7 a0_8 a0_9 a0_10 a0_11 a0_12 a0_13 a0_14 a0_15 a0_16 a0_17 A0_18 c0_18 l0_18 A0_19 c0_19 l0_19 a0_20 a0_21 a1_0 a1_1 a1_2 a1_3 a2 w ⟨hr0_18⟩ ⟨hc0_18⟩ ⟨hr0_19⟩ ⟨hc0_19⟩ ⟨hG⟩ ⟨hf⟩ t0 t1 t2 t3 t4
    rw [if_neg t4] at h
    by_cases hl : l0_19.length ≤ 60
    case neg => rw [if_neg hl] at h; cases h
    rw [if_pos hl] at h
    obtain ⟨u, hu, h⟩ := Option.bind_eq_some_iff.1 h
    cases u with
    | true => exact wfollows_down k a0_0 a0_1 a0_2 a0_3 a0_4 a0_5 a0_6 a0_7 a0_8 a0_9 a0_10 a0_11 a0_12 a0_13 a0_14 a0_15 a0_16 a0_17 A0_18 c0_18 l0_18 A0_19 c0_19 l0_19 a0_20 a0_21 a1_0 a1_1 a1_2 a1_3 a2 w ⟨hr0_18⟩ ⟨hc0_18⟩ ⟨hr0_19⟩ ⟨hc0_19⟩ ⟨hG⟩ ⟨hf⟩ t0 t1 t2 t3 t4 k ⟨hu⟩ ⟨hl⟩
    | false =>
      rw [if_neg (by decide)] at h
      obtain ⟨ys, hy, h⟩ := Option.bind_eq_some_iff.1 h
      obtain ⟨⟨p1, p2, p3, p4, p5, p6, p7, p8⟩, m1, h⟩ := Option.bind_eq_some_iff.1 h
      obtain ⟨⟨q1, q2, q3, q4, q5, q6, q7, q8⟩, m2, h⟩ := Option.bind_eq_some_iff.1 h
      obtain ⟨⟨s1, s2, s3, s4, s5, s6, s7, s8⟩, m3, h⟩ := Option.bind_eq_some_iff.1 h
      dsimp only at h
      by_cases g1 : p8 = 0
      · by_cases g2 : q8 = 0
        · rw [if_pos ⟨g1, g2⟩] at h
          by_cases g3 : s8 = 0 ∧ p7.length ≤ 60 ∧ q7.length ≤ 60
          · rw [if_pos g3] at h
            obtain ⟨g3, hlp, hlq⟩ := g3
            obtain ⟨b, hfo, h⟩ := Option.bind_eq_some_iff.1 h
            cases b with
            | false => rw [if_neg (by decide)] at h; cases h
            | true =>
              rw [if_pos rfl] at h
              obtain ⟨e1, hk1, h⟩ := Option.bind_eq_some_iff.1 h
              obtain ⟨e2, hk2, h⟩ := Option.bind_eq_some_iff.1 h
              obtain ⟨e3, hk3, hz⟩ := Option.bind_eq_some_iff.1 h
              by_cases e : e1 = 0 ∧ e2 = 0 ∧ e3 = 0
              · rw [if_pos e] at hz
                obtain ⟨rfl, rfl, rfl⟩ := e
                exact wfollows_main k a0_0 a0_1 a0_2 a0_3 a0_4 a0_5 a0_6 a0_7 a0_8 a0_9 a0_10 a0_11 a0_12 a0_13 a0_14 a0_15 a0_16 a0_17 A0_18 c0_18 l0_18 A0_19 c0_19 l0_19 a0_20 a0_21 a1_0 a1_1 a1_2 a1_3 a2 w ⟨hr0_18⟩ ⟨hc0_18⟩ ⟨hr0_19⟩ ⟨hc0_19⟩ ⟨hG⟩ ⟨hf⟩ t0 t1 t2 t3 t4 k ⟨hu⟩ ⟨hl⟩ ys ⟨hy⟩ p1 p2 p3 p4 p5 p6 p8 q1 q2 q3 q4 q5 q6 q8 s1 s2 s3 s4 s5 s6 s8 p7 q7 s7 ⟨m1⟩ ⟨m2⟩ ⟨m3⟩ g1 g2 g3 _ ⟨rfl⟩ ⟨hlp⟩ ⟨hlq⟩ ⟨hfo⟩ ⟨hk1⟩ ⟨hk2⟩ ⟨hk3⟩ ⟨hz⟩
              · rw [if_neg e] at hz; cases hz
          · rw [if_neg g3] at h; cases h
        · rw [if_neg (fun e => g2 e.2)] at h
          obtain ⟨⟨f1, f2, f3, f4, f5, f6, f7, f8⟩, hfd, h⟩ := Option.bind_eq_some_iff.1 h
          dsimp only at h
          cases f8 with
          | false => exact wfollows_e2n k a0_0 a0_1 a0_2 a0_3 a0_4 a0_5 a0_6 a0_7 a0_8 a0_9 a0_10 a0_11 a0_12 a0_13 a0_14 a0_15 a0_16 a0_17 A0_18 c0_18 l0_18 A0_19 c0_19 l0_19 a0_20 a0_21 a1_0 a1_1 a1_2 a1_3 a2 w ⟨hr0_18⟩ ⟨hc0_18⟩ ⟨hr0_19⟩ ⟨hc0_19⟩ ⟨hG⟩ ⟨hf⟩ t0 t1 t2 t3 t4 k ⟨hu⟩ ⟨hl⟩ ys ⟨hy⟩ p1 p2 p3 p4 p5 p6 p8 q1 q2 q3 q4 q5 q6 q8 s1 s2 s3 s4 s5 s6 s8 p7 q7 s7 ⟨m1⟩ ⟨m2⟩ ⟨m3⟩ g1 g2  f1 f2 f3 f4 f5 f6 f7 ⟨hfd⟩
          | true =>
            rw [if_pos rfl] at h
            by_cases d1 : a1_2 < 0
            · exact wfollows_e2f k a0_0 a0_1 a0_2 a0_3 a0_4 a0_5 a0_6 a0_7 a0_8 a0_9 a0_10 a0_11 a0_12 a0_13 a0_14 a0_15 a0_16 a0_17 A0_18 c0_18 l0_18 A0_19 c0_19 l0_19 a0_20 a0_21 a1_0 a1_1 a1_2 a1_3 a2 w ⟨hr0_18⟩ ⟨hc0_18⟩ ⟨hr0_19⟩ ⟨hc0_19⟩ ⟨hG⟩ ⟨hf⟩ t0 t1 t2 t3 t4 k ⟨hu⟩ ⟨hl⟩ ys ⟨hy⟩ p1 p2 p3 p4 p5 p6 p8 q1 q2 q3 q4 q5 q6 q8 s1 s2 s3 s4 s5 s6 s8 p7 q7 s7 ⟨m1⟩ ⟨m2⟩ ⟨m3⟩ g1 g2  d1 f1 f2 f3 f4 f5 f6 f7 ⟨hfd⟩
            · rw [if_neg d1] at h
              by_cases d2 : a1_3 > 73048
              · exact wfollows_e2t k a0_0 a0_1 a0_2 a0_3 a0_4 a0_5 a0_6 a0_7 a0_8 a0_9 a0_10 a0_11 a0_12 a0_13 a0_14 a0_15 a0_16 a0_17 A0_18 c0_18 l0_18 A0_19 c0_19 l0_19 a0_20 a0_21 a1_0 a1_1 a1_2 a1_3 a2 w ⟨hr0_18⟩ ⟨hc0_18⟩ ⟨hr0_19⟩ ⟨hc0_19⟩ ⟨hG⟩ ⟨hf⟩ t0 t1 t2 t3 t4 k ⟨hu⟩ ⟨hl⟩ ys ⟨hy⟩ p1 p2 p3 p4 p5 p6 p8 q1 q2 q3 q4 q5 q6 q8 s1 s2 s3 s4 s5 s6 s8 p7 q7 s7 ⟨m1⟩ ⟨m2⟩ ⟨m3⟩ g1 g2  d1 d2 f1 f2 f3 f4 f5 f6 f7 ⟨hfd⟩
              · rw [if_neg d2] at h; cases h
      · rw [if_neg (fun e => g1 e.1)] at h
        obtain ⟨⟨f1, f2, f3, f4, f5, f6, f7, f8⟩, hfd, h⟩ := Option.bind_eq_some_iff.1 h
        dsimp only at h
        cases f8 with
        | false => exact wfollows_e1n k a0_0 a0_1 a0_2 a0_3 a0_4 a0_5 a0_6 a0_7 a0_8 a0_9 a0_10 a0_11 a0_12 a0_13 a0_14 a0_15 a0_16 a0_17 A0_18 c0_18 l0_18 A0_19 c0_19 l0_19 a0_20 a0_21 a1_0 a1_1 a1_2 a1_3 a2 w ⟨hr0_18⟩ ⟨hc0_18⟩ ⟨hr0_19⟩ ⟨hc0_19⟩ ⟨hG⟩ ⟨hf⟩ t0 t1 t2 t3 t4 k ⟨hu⟩ ⟨hl⟩ ys ⟨hy⟩ p1 p2 p3 p4 p5 p6 p8 q1 q2 q3 q4 q5 q6 q8 s1 s2 s3 s4 s5 s6 s8 p7 q7 s7 ⟨m1⟩ ⟨m2⟩ ⟨m3⟩ g1  f1 f2 f3 f4 f5 f6 f7 ⟨hfd⟩
        | true =>
          rw [if_pos rfl] at h
          by_cases d1 : a1_2 < 0
          · exact wfollows_e1f k a0_0 a0_1 a0_2 a0_3 a0_4 a0_5 a0_6 a0_7 a0_8 a0_9 a0_10 a0_11 a0_12 a0_13 a0_14 a0_15 a0_16 a0_17 A0_18 c0_18 l0_18 A0_19 c0_19 l0_19 a0_20 a0_21 a1_0 a1_1 a1_2 a1_3 a2 w ⟨hr0_18⟩ ⟨hc0_18⟩ ⟨hr0_19⟩ ⟨hc0_19⟩ ⟨hG⟩ ⟨hf⟩ t0 t1 t2 t3 t4 k ⟨hu⟩ ⟨hl⟩ ys ⟨hy⟩ p1 p2 p3 p4 p5 p6 p8 q1 q2 q3 q4 q5 q6 q8 s1 s2 s3 s4 s5 s6 s8 p7 q7 s7 ⟨m1⟩ ⟨m2⟩ ⟨m3⟩ g1  d1 f1 f2 f3 f4 f5 f6 f7 ⟨hfd⟩
          · rw [if_neg d1] at h
            by_cases d2 : a1_3 > 73048
            · exact wfollows_e1t k a0_0 a0_1 a0_2 a0_3 a0_4 a0_5 a0_6 a0_7 a0_8 a0_9 a0_10 a0_11 a0_12 a0_13 a0_14 a0_15 a0_16 a0_17 A0_18 c0_18 l0_18 A0_19 c0_19 l0_19 a0_20 a0_21 a1_0 a1_1 a1_2 a1_3 a2 w ⟨hr0_18⟩ ⟨hc0_18⟩ ⟨hr0_19⟩ ⟨hc0_19⟩ ⟨hG⟩ ⟨hf⟩ t0 t1 t2 t3 t4 k ⟨hu⟩ ⟨hl⟩ ys ⟨hy⟩ p1 p2 p3 p4 p5 p6 p8 q1 q2 q3 q4 q5 q6 q8 s1 s2 s3 s4 s5 s6 s8 p7 q7 s7 ⟨m1⟩ ⟨m2⟩ ⟨m3⟩ g1  d1 d2 f1 f2 f3 f4 f5 f6 f7 ⟨hfd⟩
            · rw [if_neg d2] at h; cases h
end Go.Proofs.YtimjodgnlahclaaDoor.G
