/-
  The reference's Make: its contract: it returns the statement of the account, or the error; all memory that stood before stays. Written by mkrmake.py, a program of this session.
-/
import Derived.Test.YtimjodgnlahclaaDoorGx9
import Derived.Test.YtimjodgnlahclaaDoorMem2
import Derived.Deep.RegionHeld3
import Derived.WalkKit
import Derived.WalkSpells
namespace Go.Proofs.YtimjodgnlahclaaDoor.G
open Go.RowKit Go.Proofs.YtimjodgnlahclaaDoorW.PrintWords Go.Proofs.YtimjodgnlahclaaDoorW.PrintLast Go.Proofs.YtimjodgnlahclaaDoorW.PrintMore
set_option linter.unusedVariables false
set_option linter.unusedSimpArgs false

set_option maxHeartbeats 4000000 in
set_option maxRecDepth 100000 in
theorem rmake_none (k : Nat) (a0_0 : OV) (a0_1 : OV) (a0_2 : OV) (a0_3 : Int) (a0_4 : Int) (a0_5 : Int) (a0_6 : Int) (a0_7 : Int) (a0_8 : Int) (a0_9 : Int) (a0_10 : Int) (a0_11 : Int) (a0_12 : Int) (a0_13 : Int) (a0_14 : Int) (a0_15 : Int) (a0_16 : Int) (a0_17 : OV) (A0_18 : Option Addr) (c0_18 : Nat) (l0_18 : List (S57)) (A0_19 : Option Addr) (c0_19 : Nat) (l0_19 : List (S54)) (a0_20 : OV) (a0_21 : OV) (a1 a2 a3 a4 : Int) (q1 q2 q3 q4 : Int) (q5 q6 q7 : ByteArray) (HF : Aside0 (corebankref24_Find.f k a0_0 a0_1 a0_2 a0_3 a0_4 a0_5 a0_6 a0_7 a0_8 a0_9 a0_10 a0_11 a0_12 a0_13 a0_14 a0_15 a0_16 a0_17 l0_18 l0_19 a0_20 a0_21 a1 = some (q1, q2, q3, q4, q5, q6, q7, false))) (w : World) (HR18 : Aside0 (Kd.C k57 w A0_18 l0_18.length l0_18)) (HC18 : Aside0 (l0_18.length ≤ c0_18)) (HR19 : Aside0 (Kd.C k54 w A0_19 l0_19.length l0_19)) (HC19 : Aside0 (l0_19.length ≤ c0_19)) :
    Calls Tryd.prog 11 #[.agg #[a0_0.1, a0_1.1, a0_2.1, .int .i64 a0_3, .int .i64 a0_4, .int .i64 a0_5, .int .i64 a0_6, .int .i64 a0_7, .int .i64 a0_8, .int .i64 a0_9, .int .i64 a0_10, .int .i64 a0_11, .int .i64 a0_12, .int .i64 a0_13, .int .i64 a0_14, .int .i64 a0_15, .int .i64 a0_16, a0_17.1, .slice A0_18 l0_18.length c0_18, .slice A0_19 l0_19.length c0_19, a0_20.1, a0_21.1], .int .i64 a1, .int .i64 a2, .int .i64 a3, .int .i64 a4] w fun e w' => ∃ v6_ : Value, e = .returned (.tuple #[.agg #[.int .i64 0, .int .i64 0, .int .i64 0, .int .i64 0, .int .i64 0, .int .i64 0, v6_], .int .i64 11]) ∧ Kd.R k66 66 w' w.heap.size (fun _ => True) v6_ [] ∧ Below w.heap.size w w' := by
  have HM := Aside0.mk (Mem.nil w)
  have hu33 := Tryd.underlying33
  have hu40 := Tryd.underlying40
  have hu57 := Tryd.underlying57
  have hu54 := Tryd.underlying54
  have hu66 := Tryd.underlying66
  go_enter Tryd.func11, Tryd.ntmps11
  go_wp2_with (first | ((with_reducible refine gate_dst (N := 5) rfl ?_); refine box_event ?hg (N := 5) ?hd (cs := #[a0_0.1, a0_1.1, a0_2.1, .int .i64 a0_3, .int .i64 a0_4, .int .i64 a0_5, .int .i64 a0_6, .int .i64 a0_7, .int .i64 a0_8, .int .i64 a0_9, .int .i64 a0_10, .int .i64 a0_11, .int .i64 a0_12, .int .i64 a0_13, .int .i64 a0_14, .int .i64 a0_15, .int .i64 a0_16, a0_17.1, .slice A0_18 l0_18.length c0_18, .slice A0_19 l0_19.length c0_19, a0_20.1, a0_21.1]) (t := 33) ?hr ?_; (case hd => rfl); (case hg => rfl); (case hr => first | (go_simp; done) | (go_simp; rfl)); intro BK hg_ W_BK hk_ hB_; have n0_ := Mem.box (by repeat (first | exact HM.out | apply Mem.drewN | apply Mem.drew | apply Mem.alloc)) hg_ hB_ hk_; clear HM; have HM := Aside0.mk n0_; clear n0_; clear hk_ hB_ hg_) | ((with_reducible refine gate_dst (N := 10) rfl ?_); refine box_event ?hg (N := 10) ?hd (cs := #[.int .i64 0, .int .i64 0, .int .i64 0, .int .i64 0, .int .i64 0, .int .i64 0, .slice none 0 0]) (t := 40) ?hr ?_; (case hd => rfl); (case hg => rfl); (case hr => first | (go_simp; done) | (go_simp; rfl)); intro RS hg_ W_RS hk_ hB_; have n0_ := Mem.box (by repeat (first | exact HM.out | apply Mem.drewN | apply Mem.drew | apply Mem.alloc)) hg_ hB_ hk_; clear HM; have HM := Aside0.mk n0_; clear n0_; clear hk_ hB_ hg_) | ((with_reducible refine gate_load_ (t := 33) (p := 5) rfl ?_); refine load_event ?hgd 33 (.tmp 5) rfl _ ?hx 33 _ (Mem.get (by repeat (first | exact HM.out | apply Mem.drewN | apply Mem.drew | apply Mem.alloc)) 1 rfl) Tryd.underlying33 rfl ?hi ?_; (case hgd => rfl); (case hx => rfl); (case hi => kernel_rfl)) | (go_at_call 21; refine (corebankref24_Find.calls k a0_0 a0_1 a0_2 a0_3 a0_4 a0_5 a0_6 a0_7 a0_8 a0_9 a0_10 a0_11 a0_12 a0_13 a0_14 a0_15 a0_16 a0_17 A0_18 c0_18 l0_18 A0_19 c0_19 l0_19 a0_20 a0_21 a1 q1 q2 q3 q4 q5 q6 q7 false _ (Kd.C_below HR18.out (Mem.below (by repeat (first | exact HM.out | apply Mem.drewN | apply Mem.drew | apply Mem.alloc)))) HC18.out (Kd.C_below HR19.out (Mem.below (by repeat (first | exact HM.out | apply Mem.drewN | apply Mem.drew | apply Mem.alloc)))) HC19.out HF.out).mono ?_; rintro e W_f ⟨rfl, hb_⟩; have n0_ := Mem.later (by repeat (first | exact HM.out | apply Mem.drewN | apply Mem.drew | apply Mem.alloc)) hb_; clear HM; have HM := Aside0.mk n0_; clear n0_; clear hb_) | ((with_reducible refine gate_dst (N := 12) rfl ?_); refine box_event ?hg (N := 12) ?hd (cs := #[.int .i64 0, .int .i64 0, .int .i64 0, .int .i64 0, .string (⟨#[]⟩ : ByteArray), .string (⟨#[]⟩ : ByteArray), .string (⟨#[]⟩ : ByteArray)]) (t := 57) ?hr ?_; (case hd => rfl); (case hg => rfl); (case hr => first | (go_simp; done) | (go_simp; rfl)); intro AC hg_ W_AC hk_ hB_; have n0_ := Mem.box (by repeat (first | exact HM.out | apply Mem.drewN | apply Mem.drew | apply Mem.alloc)) hg_ hB_ hk_; clear HM; have HM := Aside0.mk n0_; clear n0_; clear hk_ hB_ hg_) | ((with_reducible refine gate_store_ (t := 57) (x := .tmp 12) (y := .tmp 21) rfl ?_); refine store_event ?hgd 57 (.tmp 12) (.tmp 21) rfl ?hdst _ #[.int .i64 q1, .int .i64 q2, .int .i64 q3, .int .i64 q4, .string q5, .string q6, .string q7] ?hx ?hy 57 _ (Mem.get (by repeat (first | exact HM.out | apply Mem.drewN | apply Mem.drew | apply Mem.alloc)) 0 rfl) ?hi ?hold ?h1 ?_; (case hgd => rfl); (case hdst => rfl); (case hx => rfl); (case hy => first | rfl | (go_simp; done) | (go_simp; rfl)); (case hi => kernel_rfl); (case hold => rfl); (case h1 => rfl); intro W_ hs_ hk_; have n0_ := Mem.set (by repeat (first | exact HM.out | apply Mem.drewN | apply Mem.drew | apply Mem.alloc)) 0 rfl hs_ hk_; simp only [List.set_cons_zero, List.set_cons_succ] at n0_; clear HM hs_; have HM := Aside0.mk n0_; clear n0_; clear hk_) | ((with_reducible refine gate_store_ (t := 40) (x := .tmp 10) (y := .tmp 25) rfl ?_); refine store_event ?hgd 40 (.tmp 10) (.tmp 25) rfl ?hdst _ #[.int .i64 0, .int .i64 0, .int .i64 0, .int .i64 0, .int .i64 0, .int .i64 0, .slice none 0 0] ?hx ?hy 40 _ (Mem.get (by repeat (first | exact HM.out | apply Mem.drewN | apply Mem.drew | apply Mem.alloc)) 1 rfl) ?hi ?hold ?h1 ?_; (case hgd => rfl); (case hdst => rfl); (case hx => rfl); (case hy => first | rfl | (go_simp; done) | (go_simp; rfl)); (case hi => kernel_rfl); (case hold => rfl); (case h1 => rfl); intro W_ hs_ hk_; have n0_ := Mem.set (by repeat (first | exact HM.out | apply Mem.drewN | apply Mem.drew | apply Mem.alloc)) 1 rfl hs_ hk_; simp only [List.set_cons_zero, List.set_cons_succ] at n0_; clear HM hs_; have HM := Aside0.mk n0_; clear n0_; clear hk_))
  refine bodyPost_ret (results_ct rfl _ _ RS 40 #[.int .i64 0, .int .i64 0, .int .i64 0, .int .i64 0, .int .i64 0, .int .i64 0, .slice none 0 0] (0, 0) _ rfl (Mem.get (by repeat (first | exact HM.out | apply Mem.drewN | apply Mem.drew | apply Mem.alloc)) 1 rfl) Tryd.underlying40 rfl (by kernel_rfl)) rfl ?_
  exact ⟨_, rfl, Kd.R_nil _ _ _ _ _, Mem.below (by repeat (first | exact HM.out | apply Mem.drewN | apply Mem.drew | apply Mem.alloc))⟩

set_option maxHeartbeats 4000000 in
set_option maxRecDepth 100000 in
theorem rmake_no (k : Nat) (a0_0 : OV) (a0_1 : OV) (a0_2 : OV) (a0_3 : Int) (a0_4 : Int) (a0_5 : Int) (a0_6 : Int) (a0_7 : Int) (a0_8 : Int) (a0_9 : Int) (a0_10 : Int) (a0_11 : Int) (a0_12 : Int) (a0_13 : Int) (a0_14 : Int) (a0_15 : Int) (a0_16 : Int) (a0_17 : OV) (A0_18 : Option Addr) (c0_18 : Nat) (l0_18 : List (S57)) (A0_19 : Option Addr) (c0_19 : Nat) (l0_19 : List (S54)) (a0_20 : OV) (a0_21 : OV) (a1 a2 a3 a4 : Int) (q1 q2 q3 q4 : Int) (q5 q6 q7 : ByteArray) (HF : Aside0 (corebankref24_Find.f k a0_0 a0_1 a0_2 a0_3 a0_4 a0_5 a0_6 a0_7 a0_8 a0_9 a0_10 a0_11 a0_12 a0_13 a0_14 a0_15 a0_16 a0_17 l0_18 l0_19 a0_20 a0_21 a1 = some (q1, q2, q3, q4, q5, q6, q7, true))) (w : World) (HR18 : Aside0 (Kd.C k57 w A0_18 l0_18.length l0_18)) (HC18 : Aside0 (l0_18.length ≤ c0_18)) (HR19 : Aside0 (Kd.C k54 w A0_19 l0_19.length l0_19)) (HC19 : Aside0 (l0_19.length ≤ c0_19)) (d1 : a2 < 1) :
    Calls Tryd.prog 11 #[.agg #[a0_0.1, a0_1.1, a0_2.1, .int .i64 a0_3, .int .i64 a0_4, .int .i64 a0_5, .int .i64 a0_6, .int .i64 a0_7, .int .i64 a0_8, .int .i64 a0_9, .int .i64 a0_10, .int .i64 a0_11, .int .i64 a0_12, .int .i64 a0_13, .int .i64 a0_14, .int .i64 a0_15, .int .i64 a0_16, a0_17.1, .slice A0_18 l0_18.length c0_18, .slice A0_19 l0_19.length c0_19, a0_20.1, a0_21.1], .int .i64 a1, .int .i64 a2, .int .i64 a3, .int .i64 a4] w fun e w' => ∃ v6_ : Value, e = .returned (.tuple #[.agg #[.int .i64 0, .int .i64 0, .int .i64 0, .int .i64 0, .int .i64 0, .int .i64 0, v6_], .int .i64 1]) ∧ Kd.R k66 66 w' w.heap.size (fun _ => True) v6_ [] ∧ Below w.heap.size w w' := by
  have HM := Aside0.mk (Mem.nil w)
  have hu33 := Tryd.underlying33
  have hu40 := Tryd.underlying40
  have hu57 := Tryd.underlying57
  have hu54 := Tryd.underlying54
  have hu66 := Tryd.underlying66
  have d1b : decide (a2 < 1) = true := decide_eq_true d1
  clear d1
  go_enter Tryd.func11, Tryd.ntmps11
  go_wp2_with (first | ((with_reducible refine gate_dst (N := 5) rfl ?_); refine box_event ?hg (N := 5) ?hd (cs := #[a0_0.1, a0_1.1, a0_2.1, .int .i64 a0_3, .int .i64 a0_4, .int .i64 a0_5, .int .i64 a0_6, .int .i64 a0_7, .int .i64 a0_8, .int .i64 a0_9, .int .i64 a0_10, .int .i64 a0_11, .int .i64 a0_12, .int .i64 a0_13, .int .i64 a0_14, .int .i64 a0_15, .int .i64 a0_16, a0_17.1, .slice A0_18 l0_18.length c0_18, .slice A0_19 l0_19.length c0_19, a0_20.1, a0_21.1]) (t := 33) ?hr ?_; (case hd => rfl); (case hg => rfl); (case hr => first | (go_simp; done) | (go_simp; rfl)); intro BK hg_ W_BK hk_ hB_; have n0_ := Mem.box (by repeat (first | exact HM.out | apply Mem.drewN | apply Mem.drew | apply Mem.alloc)) hg_ hB_ hk_; clear HM; have HM := Aside0.mk n0_; clear n0_; clear hk_ hB_ hg_) | ((with_reducible refine gate_dst (N := 10) rfl ?_); refine box_event ?hg (N := 10) ?hd (cs := #[.int .i64 0, .int .i64 0, .int .i64 0, .int .i64 0, .int .i64 0, .int .i64 0, .slice none 0 0]) (t := 40) ?hr ?_; (case hd => rfl); (case hg => rfl); (case hr => first | (go_simp; done) | (go_simp; rfl)); intro RS hg_ W_RS hk_ hB_; have n0_ := Mem.box (by repeat (first | exact HM.out | apply Mem.drewN | apply Mem.drew | apply Mem.alloc)) hg_ hB_ hk_; clear HM; have HM := Aside0.mk n0_; clear n0_; clear hk_ hB_ hg_) | ((with_reducible refine gate_load_ (t := 33) (p := 5) rfl ?_); refine load_event ?hgd 33 (.tmp 5) rfl _ ?hx 33 _ (Mem.get (by repeat (first | exact HM.out | apply Mem.drewN | apply Mem.drew | apply Mem.alloc)) 1 rfl) Tryd.underlying33 rfl ?hi ?_; (case hgd => rfl); (case hx => rfl); (case hi => kernel_rfl)) | (go_at_call 21; refine (corebankref24_Find.calls k a0_0 a0_1 a0_2 a0_3 a0_4 a0_5 a0_6 a0_7 a0_8 a0_9 a0_10 a0_11 a0_12 a0_13 a0_14 a0_15 a0_16 a0_17 A0_18 c0_18 l0_18 A0_19 c0_19 l0_19 a0_20 a0_21 a1 q1 q2 q3 q4 q5 q6 q7 true _ (Kd.C_below HR18.out (Mem.below (by repeat (first | exact HM.out | apply Mem.drewN | apply Mem.drew | apply Mem.alloc)))) HC18.out (Kd.C_below HR19.out (Mem.below (by repeat (first | exact HM.out | apply Mem.drewN | apply Mem.drew | apply Mem.alloc)))) HC19.out HF.out).mono ?_; rintro e W_f ⟨rfl, hb_⟩; have n0_ := Mem.later (by repeat (first | exact HM.out | apply Mem.drewN | apply Mem.drew | apply Mem.alloc)) hb_; clear HM; have HM := Aside0.mk n0_; clear n0_; clear hb_) | ((with_reducible refine gate_dst (N := 12) rfl ?_); refine box_event ?hg (N := 12) ?hd (cs := #[.int .i64 0, .int .i64 0, .int .i64 0, .int .i64 0, .string (⟨#[]⟩ : ByteArray), .string (⟨#[]⟩ : ByteArray), .string (⟨#[]⟩ : ByteArray)]) (t := 57) ?hr ?_; (case hd => rfl); (case hg => rfl); (case hr => first | (go_simp; done) | (go_simp; rfl)); intro AC hg_ W_AC hk_ hB_; have n0_ := Mem.box (by repeat (first | exact HM.out | apply Mem.drewN | apply Mem.drew | apply Mem.alloc)) hg_ hB_ hk_; clear HM; have HM := Aside0.mk n0_; clear n0_; clear hk_ hB_ hg_) | ((with_reducible refine gate_store_ (t := 57) (x := .tmp 12) (y := .tmp 21) rfl ?_); refine store_event ?hgd 57 (.tmp 12) (.tmp 21) rfl ?hdst _ #[.int .i64 q1, .int .i64 q2, .int .i64 q3, .int .i64 q4, .string q5, .string q6, .string q7] ?hx ?hy 57 _ (Mem.get (by repeat (first | exact HM.out | apply Mem.drewN | apply Mem.drew | apply Mem.alloc)) 0 rfl) ?hi ?hold ?h1 ?_; (case hgd => rfl); (case hdst => rfl); (case hx => rfl); (case hy => first | rfl | (go_simp; done) | (go_simp; rfl)); (case hi => kernel_rfl); (case hold => rfl); (case h1 => rfl); intro W_ hs_ hk_; have n0_ := Mem.set (by repeat (first | exact HM.out | apply Mem.drewN | apply Mem.drew | apply Mem.alloc)) 0 rfl hs_ hk_; simp only [List.set_cons_zero, List.set_cons_succ] at n0_; clear HM hs_; have HM := Aside0.mk n0_; clear n0_; clear hk_) | ((with_reducible refine gate_store_ (t := 40) (x := .tmp 10) (y := .tmp 43) rfl ?_); refine store_event ?hgd 40 (.tmp 10) (.tmp 43) rfl ?hdst _ #[.int .i64 0, .int .i64 0, .int .i64 0, .int .i64 0, .int .i64 0, .int .i64 0, .slice none 0 0] ?hx ?hy 40 _ (Mem.get (by repeat (first | exact HM.out | apply Mem.drewN | apply Mem.drew | apply Mem.alloc)) 1 rfl) ?hi ?hold ?h1 ?_; (case hgd => rfl); (case hdst => rfl); (case hx => rfl); (case hy => first | rfl | (go_simp; done) | (go_simp; rfl)); (case hi => kernel_rfl); (case hold => rfl); (case h1 => rfl); intro W_ hs_ hk_; have n0_ := Mem.set (by repeat (first | exact HM.out | apply Mem.drewN | apply Mem.drew | apply Mem.alloc)) 1 rfl hs_ hk_; simp only [List.set_cons_zero, List.set_cons_succ] at n0_; clear HM hs_; have HM := Aside0.mk n0_; clear n0_; clear hk_))
  refine bodyPost_ret (results_ct rfl _ _ RS 40 #[.int .i64 0, .int .i64 0, .int .i64 0, .int .i64 0, .int .i64 0, .int .i64 0, .slice none 0 0] (0, 0) _ rfl (Mem.get (by repeat (first | exact HM.out | apply Mem.drewN | apply Mem.drew | apply Mem.alloc)) 1 rfl) Tryd.underlying40 rfl (by kernel_rfl)) rfl ?_
  exact ⟨_, rfl, Kd.R_nil _ _ _ _ _, Mem.below (by repeat (first | exact HM.out | apply Mem.drewN | apply Mem.drew | apply Mem.alloc))⟩

set_option maxHeartbeats 4000000 in
set_option maxRecDepth 100000 in
theorem rmake_from (k : Nat) (a0_0 : OV) (a0_1 : OV) (a0_2 : OV) (a0_3 : Int) (a0_4 : Int) (a0_5 : Int) (a0_6 : Int) (a0_7 : Int) (a0_8 : Int) (a0_9 : Int) (a0_10 : Int) (a0_11 : Int) (a0_12 : Int) (a0_13 : Int) (a0_14 : Int) (a0_15 : Int) (a0_16 : Int) (a0_17 : OV) (A0_18 : Option Addr) (c0_18 : Nat) (l0_18 : List (S57)) (A0_19 : Option Addr) (c0_19 : Nat) (l0_19 : List (S54)) (a0_20 : OV) (a0_21 : OV) (a1 a2 a3 a4 : Int) (q1 q2 q3 q4 : Int) (q5 q6 q7 : ByteArray) (HF : Aside0 (corebankref24_Find.f k a0_0 a0_1 a0_2 a0_3 a0_4 a0_5 a0_6 a0_7 a0_8 a0_9 a0_10 a0_11 a0_12 a0_13 a0_14 a0_15 a0_16 a0_17 l0_18 l0_19 a0_20 a0_21 a1 = some (q1, q2, q3, q4, q5, q6, q7, true))) (w : World) (HR18 : Aside0 (Kd.C k57 w A0_18 l0_18.length l0_18)) (HC18 : Aside0 (l0_18.length ≤ c0_18)) (HR19 : Aside0 (Kd.C k54 w A0_19 l0_19.length l0_19)) (HC19 : Aside0 (l0_19.length ≤ c0_19)) (d1 : ¬ a2 < 1) (HV1 : Aside0 (corebankref04_Valid.f a3 = some false)) :
    Calls Tryd.prog 11 #[.agg #[a0_0.1, a0_1.1, a0_2.1, .int .i64 a0_3, .int .i64 a0_4, .int .i64 a0_5, .int .i64 a0_6, .int .i64 a0_7, .int .i64 a0_8, .int .i64 a0_9, .int .i64 a0_10, .int .i64 a0_11, .int .i64 a0_12, .int .i64 a0_13, .int .i64 a0_14, .int .i64 a0_15, .int .i64 a0_16, a0_17.1, .slice A0_18 l0_18.length c0_18, .slice A0_19 l0_19.length c0_19, a0_20.1, a0_21.1], .int .i64 a1, .int .i64 a2, .int .i64 a3, .int .i64 a4] w fun e w' => ∃ v6_ : Value, e = .returned (.tuple #[.agg #[.int .i64 0, .int .i64 0, .int .i64 0, .int .i64 0, .int .i64 0, .int .i64 0, v6_], .int .i64 1]) ∧ Kd.R k66 66 w' w.heap.size (fun _ => True) v6_ [] ∧ Below w.heap.size w w' := by
  have HM := Aside0.mk (Mem.nil w)
  have hu33 := Tryd.underlying33
  have hu40 := Tryd.underlying40
  have hu57 := Tryd.underlying57
  have hu54 := Tryd.underlying54
  have hu66 := Tryd.underlying66
  have d1b : decide (a2 < 1) = false := decide_eq_false d1
  clear d1
  go_enter Tryd.func11, Tryd.ntmps11
  go_wp2_with (first | ((with_reducible refine gate_dst (N := 5) rfl ?_); refine box_event ?hg (N := 5) ?hd (cs := #[a0_0.1, a0_1.1, a0_2.1, .int .i64 a0_3, .int .i64 a0_4, .int .i64 a0_5, .int .i64 a0_6, .int .i64 a0_7, .int .i64 a0_8, .int .i64 a0_9, .int .i64 a0_10, .int .i64 a0_11, .int .i64 a0_12, .int .i64 a0_13, .int .i64 a0_14, .int .i64 a0_15, .int .i64 a0_16, a0_17.1, .slice A0_18 l0_18.length c0_18, .slice A0_19 l0_19.length c0_19, a0_20.1, a0_21.1]) (t := 33) ?hr ?_; (case hd => rfl); (case hg => rfl); (case hr => first | (go_simp; done) | (go_simp; rfl)); intro BK hg_ W_BK hk_ hB_; have n0_ := Mem.box (by repeat (first | exact HM.out | apply Mem.drewN | apply Mem.drew | apply Mem.alloc)) hg_ hB_ hk_; clear HM; have HM := Aside0.mk n0_; clear n0_; clear hk_ hB_ hg_) | ((with_reducible refine gate_dst (N := 10) rfl ?_); refine box_event ?hg (N := 10) ?hd (cs := #[.int .i64 0, .int .i64 0, .int .i64 0, .int .i64 0, .int .i64 0, .int .i64 0, .slice none 0 0]) (t := 40) ?hr ?_; (case hd => rfl); (case hg => rfl); (case hr => first | (go_simp; done) | (go_simp; rfl)); intro RS hg_ W_RS hk_ hB_; have n0_ := Mem.box (by repeat (first | exact HM.out | apply Mem.drewN | apply Mem.drew | apply Mem.alloc)) hg_ hB_ hk_; clear HM; have HM := Aside0.mk n0_; clear n0_; clear hk_ hB_ hg_) | ((with_reducible refine gate_load_ (t := 33) (p := 5) rfl ?_); refine load_event ?hgd 33 (.tmp 5) rfl _ ?hx 33 _ (Mem.get (by repeat (first | exact HM.out | apply Mem.drewN | apply Mem.drew | apply Mem.alloc)) 1 rfl) Tryd.underlying33 rfl ?hi ?_; (case hgd => rfl); (case hx => rfl); (case hi => kernel_rfl)) | (go_at_call 21; refine (corebankref24_Find.calls k a0_0 a0_1 a0_2 a0_3 a0_4 a0_5 a0_6 a0_7 a0_8 a0_9 a0_10 a0_11 a0_12 a0_13 a0_14 a0_15 a0_16 a0_17 A0_18 c0_18 l0_18 A0_19 c0_19 l0_19 a0_20 a0_21 a1 q1 q2 q3 q4 q5 q6 q7 true _ (Kd.C_below HR18.out (Mem.below (by repeat (first | exact HM.out | apply Mem.drewN | apply Mem.drew | apply Mem.alloc)))) HC18.out (Kd.C_below HR19.out (Mem.below (by repeat (first | exact HM.out | apply Mem.drewN | apply Mem.drew | apply Mem.alloc)))) HC19.out HF.out).mono ?_; rintro e W_f ⟨rfl, hb_⟩; have n0_ := Mem.later (by repeat (first | exact HM.out | apply Mem.drewN | apply Mem.drew | apply Mem.alloc)) hb_; clear HM; have HM := Aside0.mk n0_; clear n0_; clear hb_) | ((with_reducible refine gate_dst (N := 12) rfl ?_); refine box_event ?hg (N := 12) ?hd (cs := #[.int .i64 0, .int .i64 0, .int .i64 0, .int .i64 0, .string (⟨#[]⟩ : ByteArray), .string (⟨#[]⟩ : ByteArray), .string (⟨#[]⟩ : ByteArray)]) (t := 57) ?hr ?_; (case hd => rfl); (case hg => rfl); (case hr => first | (go_simp; done) | (go_simp; rfl)); intro AC hg_ W_AC hk_ hB_; have n0_ := Mem.box (by repeat (first | exact HM.out | apply Mem.drewN | apply Mem.drew | apply Mem.alloc)) hg_ hB_ hk_; clear HM; have HM := Aside0.mk n0_; clear n0_; clear hk_ hB_ hg_) | ((with_reducible refine gate_store_ (t := 57) (x := .tmp 12) (y := .tmp 21) rfl ?_); refine store_event ?hgd 57 (.tmp 12) (.tmp 21) rfl ?hdst _ #[.int .i64 q1, .int .i64 q2, .int .i64 q3, .int .i64 q4, .string q5, .string q6, .string q7] ?hx ?hy 57 _ (Mem.get (by repeat (first | exact HM.out | apply Mem.drewN | apply Mem.drew | apply Mem.alloc)) 0 rfl) ?hi ?hold ?h1 ?_; (case hgd => rfl); (case hdst => rfl); (case hx => rfl); (case hy => first | rfl | (go_simp; done) | (go_simp; rfl)); (case hi => kernel_rfl); (case hold => rfl); (case h1 => rfl); intro W_ hs_ hk_; have n0_ := Mem.set (by repeat (first | exact HM.out | apply Mem.drewN | apply Mem.drew | apply Mem.alloc)) 0 rfl hs_ hk_; simp only [List.set_cons_zero, List.set_cons_succ] at n0_; clear HM hs_; have HM := Aside0.mk n0_; clear n0_; clear hk_) | (go_at_call 26; (with_reducible refine (corebankref04_Valid.calls a3 false _ HV1.out).mono ?_); rintro e w' ⟨rfl, ⟨nd, rfl⟩⟩) | ((with_reducible refine gate_store_ (t := 40) (x := .tmp 10) (y := .tmp 43) rfl ?_); refine store_event ?hgd 40 (.tmp 10) (.tmp 43) rfl ?hdst _ #[.int .i64 0, .int .i64 0, .int .i64 0, .int .i64 0, .int .i64 0, .int .i64 0, .slice none 0 0] ?hx ?hy 40 _ (Mem.get (by repeat (first | exact HM.out | apply Mem.drewN | apply Mem.drew | apply Mem.alloc)) 1 rfl) ?hi ?hold ?h1 ?_; (case hgd => rfl); (case hdst => rfl); (case hx => rfl); (case hy => first | rfl | (go_simp; done) | (go_simp; rfl)); (case hi => kernel_rfl); (case hold => rfl); (case h1 => rfl); intro W_ hs_ hk_; have n0_ := Mem.set (by repeat (first | exact HM.out | apply Mem.drewN | apply Mem.drew | apply Mem.alloc)) 1 rfl hs_ hk_; simp only [List.set_cons_zero, List.set_cons_succ] at n0_; clear HM hs_; have HM := Aside0.mk n0_; clear n0_; clear hk_))
  refine bodyPost_ret (results_ct rfl _ _ RS 40 #[.int .i64 0, .int .i64 0, .int .i64 0, .int .i64 0, .int .i64 0, .int .i64 0, .slice none 0 0] (0, 0) _ rfl (Mem.get (by repeat (first | exact HM.out | apply Mem.drewN | apply Mem.drew | apply Mem.alloc)) 1 rfl) Tryd.underlying40 rfl (by kernel_rfl)) rfl ?_
  exact ⟨_, rfl, Kd.R_nil _ _ _ _ _, Mem.below (by repeat (first | exact HM.out | apply Mem.drewN | apply Mem.drew | apply Mem.alloc))⟩

set_option maxHeartbeats 4000000 in
set_option maxRecDepth 100000 in
theorem rmake_to (k : Nat) (a0_0 : OV) (a0_1 : OV) (a0_2 : OV) (a0_3 : Int) (a0_4 : Int) (a0_5 : Int) (a0_6 : Int) (a0_7 : Int) (a0_8 : Int) (a0_9 : Int) (a0_10 : Int) (a0_11 : Int) (a0_12 : Int) (a0_13 : Int) (a0_14 : Int) (a0_15 : Int) (a0_16 : Int) (a0_17 : OV) (A0_18 : Option Addr) (c0_18 : Nat) (l0_18 : List (S57)) (A0_19 : Option Addr) (c0_19 : Nat) (l0_19 : List (S54)) (a0_20 : OV) (a0_21 : OV) (a1 a2 a3 a4 : Int) (q1 q2 q3 q4 : Int) (q5 q6 q7 : ByteArray) (HF : Aside0 (corebankref24_Find.f k a0_0 a0_1 a0_2 a0_3 a0_4 a0_5 a0_6 a0_7 a0_8 a0_9 a0_10 a0_11 a0_12 a0_13 a0_14 a0_15 a0_16 a0_17 l0_18 l0_19 a0_20 a0_21 a1 = some (q1, q2, q3, q4, q5, q6, q7, true))) (w : World) (HR18 : Aside0 (Kd.C k57 w A0_18 l0_18.length l0_18)) (HC18 : Aside0 (l0_18.length ≤ c0_18)) (HR19 : Aside0 (Kd.C k54 w A0_19 l0_19.length l0_19)) (HC19 : Aside0 (l0_19.length ≤ c0_19)) (d1 : ¬ a2 < 1) (HV1 : Aside0 (corebankref04_Valid.f a3 = some true)) (HV2 : Aside0 (corebankref04_Valid.f a4 = some false)) :
    Calls Tryd.prog 11 #[.agg #[a0_0.1, a0_1.1, a0_2.1, .int .i64 a0_3, .int .i64 a0_4, .int .i64 a0_5, .int .i64 a0_6, .int .i64 a0_7, .int .i64 a0_8, .int .i64 a0_9, .int .i64 a0_10, .int .i64 a0_11, .int .i64 a0_12, .int .i64 a0_13, .int .i64 a0_14, .int .i64 a0_15, .int .i64 a0_16, a0_17.1, .slice A0_18 l0_18.length c0_18, .slice A0_19 l0_19.length c0_19, a0_20.1, a0_21.1], .int .i64 a1, .int .i64 a2, .int .i64 a3, .int .i64 a4] w fun e w' => ∃ v6_ : Value, e = .returned (.tuple #[.agg #[.int .i64 0, .int .i64 0, .int .i64 0, .int .i64 0, .int .i64 0, .int .i64 0, v6_], .int .i64 1]) ∧ Kd.R k66 66 w' w.heap.size (fun _ => True) v6_ [] ∧ Below w.heap.size w w' := by
  have HM := Aside0.mk (Mem.nil w)
  have hu33 := Tryd.underlying33
  have hu40 := Tryd.underlying40
  have hu57 := Tryd.underlying57
  have hu54 := Tryd.underlying54
  have hu66 := Tryd.underlying66
  have d1b : decide (a2 < 1) = false := decide_eq_false d1
  clear d1
  go_enter Tryd.func11, Tryd.ntmps11
  go_wp2_with (first | ((with_reducible refine gate_dst (N := 5) rfl ?_); refine box_event ?hg (N := 5) ?hd (cs := #[a0_0.1, a0_1.1, a0_2.1, .int .i64 a0_3, .int .i64 a0_4, .int .i64 a0_5, .int .i64 a0_6, .int .i64 a0_7, .int .i64 a0_8, .int .i64 a0_9, .int .i64 a0_10, .int .i64 a0_11, .int .i64 a0_12, .int .i64 a0_13, .int .i64 a0_14, .int .i64 a0_15, .int .i64 a0_16, a0_17.1, .slice A0_18 l0_18.length c0_18, .slice A0_19 l0_19.length c0_19, a0_20.1, a0_21.1]) (t := 33) ?hr ?_; (case hd => rfl); (case hg => rfl); (case hr => first | (go_simp; done) | (go_simp; rfl)); intro BK hg_ W_BK hk_ hB_; have n0_ := Mem.box (by repeat (first | exact HM.out | apply Mem.drewN | apply Mem.drew | apply Mem.alloc)) hg_ hB_ hk_; clear HM; have HM := Aside0.mk n0_; clear n0_; clear hk_ hB_ hg_) | ((with_reducible refine gate_dst (N := 10) rfl ?_); refine box_event ?hg (N := 10) ?hd (cs := #[.int .i64 0, .int .i64 0, .int .i64 0, .int .i64 0, .int .i64 0, .int .i64 0, .slice none 0 0]) (t := 40) ?hr ?_; (case hd => rfl); (case hg => rfl); (case hr => first | (go_simp; done) | (go_simp; rfl)); intro RS hg_ W_RS hk_ hB_; have n0_ := Mem.box (by repeat (first | exact HM.out | apply Mem.drewN | apply Mem.drew | apply Mem.alloc)) hg_ hB_ hk_; clear HM; have HM := Aside0.mk n0_; clear n0_; clear hk_ hB_ hg_) | ((with_reducible refine gate_load_ (t := 33) (p := 5) rfl ?_); refine load_event ?hgd 33 (.tmp 5) rfl _ ?hx 33 _ (Mem.get (by repeat (first | exact HM.out | apply Mem.drewN | apply Mem.drew | apply Mem.alloc)) 1 rfl) Tryd.underlying33 rfl ?hi ?_; (case hgd => rfl); (case hx => rfl); (case hi => kernel_rfl)) | (go_at_call 21; refine (corebankref24_Find.calls k a0_0 a0_1 a0_2 a0_3 a0_4 a0_5 a0_6 a0_7 a0_8 a0_9 a0_10 a0_11 a0_12 a0_13 a0_14 a0_15 a0_16 a0_17 A0_18 c0_18 l0_18 A0_19 c0_19 l0_19 a0_20 a0_21 a1 q1 q2 q3 q4 q5 q6 q7 true _ (Kd.C_below HR18.out (Mem.below (by repeat (first | exact HM.out | apply Mem.drewN | apply Mem.drew | apply Mem.alloc)))) HC18.out (Kd.C_below HR19.out (Mem.below (by repeat (first | exact HM.out | apply Mem.drewN | apply Mem.drew | apply Mem.alloc)))) HC19.out HF.out).mono ?_; rintro e W_f ⟨rfl, hb_⟩; have n0_ := Mem.later (by repeat (first | exact HM.out | apply Mem.drewN | apply Mem.drew | apply Mem.alloc)) hb_; clear HM; have HM := Aside0.mk n0_; clear n0_; clear hb_) | ((with_reducible refine gate_dst (N := 12) rfl ?_); refine box_event ?hg (N := 12) ?hd (cs := #[.int .i64 0, .int .i64 0, .int .i64 0, .int .i64 0, .string (⟨#[]⟩ : ByteArray), .string (⟨#[]⟩ : ByteArray), .string (⟨#[]⟩ : ByteArray)]) (t := 57) ?hr ?_; (case hd => rfl); (case hg => rfl); (case hr => first | (go_simp; done) | (go_simp; rfl)); intro AC hg_ W_AC hk_ hB_; have n0_ := Mem.box (by repeat (first | exact HM.out | apply Mem.drewN | apply Mem.drew | apply Mem.alloc)) hg_ hB_ hk_; clear HM; have HM := Aside0.mk n0_; clear n0_; clear hk_ hB_ hg_) | ((with_reducible refine gate_store_ (t := 57) (x := .tmp 12) (y := .tmp 21) rfl ?_); refine store_event ?hgd 57 (.tmp 12) (.tmp 21) rfl ?hdst _ #[.int .i64 q1, .int .i64 q2, .int .i64 q3, .int .i64 q4, .string q5, .string q6, .string q7] ?hx ?hy 57 _ (Mem.get (by repeat (first | exact HM.out | apply Mem.drewN | apply Mem.drew | apply Mem.alloc)) 0 rfl) ?hi ?hold ?h1 ?_; (case hgd => rfl); (case hdst => rfl); (case hx => rfl); (case hy => first | rfl | (go_simp; done) | (go_simp; rfl)); (case hi => kernel_rfl); (case hold => rfl); (case h1 => rfl); intro W_ hs_ hk_; have n0_ := Mem.set (by repeat (first | exact HM.out | apply Mem.drewN | apply Mem.drew | apply Mem.alloc)) 0 rfl hs_ hk_; simp only [List.set_cons_zero, List.set_cons_succ] at n0_; clear HM hs_; have HM := Aside0.mk n0_; clear n0_; clear hk_) | (go_at_call 26; (with_reducible refine (corebankref04_Valid.calls a3 true _ HV1.out).mono ?_); rintro e w' ⟨rfl, ⟨nd, rfl⟩⟩) | (go_at_call 26; (with_reducible refine (corebankref04_Valid.calls a4 false _ HV2.out).mono ?_); rintro e w' ⟨rfl, ⟨nd, rfl⟩⟩) | ((with_reducible refine gate_store_ (t := 40) (x := .tmp 10) (y := .tmp 43) rfl ?_); refine store_event ?hgd 40 (.tmp 10) (.tmp 43) rfl ?hdst _ #[.int .i64 0, .int .i64 0, .int .i64 0, .int .i64 0, .int .i64 0, .int .i64 0, .slice none 0 0] ?hx ?hy 40 _ (Mem.get (by repeat (first | exact HM.out | apply Mem.drewN | apply Mem.drew | apply Mem.alloc)) 1 rfl) ?hi ?hold ?h1 ?_; (case hgd => rfl); (case hdst => rfl); (case hx => rfl); (case hy => first | rfl | (go_simp; done) | (go_simp; rfl)); (case hi => kernel_rfl); (case hold => rfl); (case h1 => rfl); intro W_ hs_ hk_; have n0_ := Mem.set (by repeat (first | exact HM.out | apply Mem.drewN | apply Mem.drew | apply Mem.alloc)) 1 rfl hs_ hk_; simp only [List.set_cons_zero, List.set_cons_succ] at n0_; clear HM hs_; have HM := Aside0.mk n0_; clear n0_; clear hk_))
  refine bodyPost_ret (results_ct rfl _ _ RS 40 #[.int .i64 0, .int .i64 0, .int .i64 0, .int .i64 0, .int .i64 0, .int .i64 0, .slice none 0 0] (0, 0) _ rfl (Mem.get (by repeat (first | exact HM.out | apply Mem.drewN | apply Mem.drew | apply Mem.alloc)) 1 rfl) Tryd.underlying40 rfl (by kernel_rfl)) rfl ?_
  exact ⟨_, rfl, Kd.R_nil _ _ _ _ _, Mem.below (by repeat (first | exact HM.out | apply Mem.drewN | apply Mem.drew | apply Mem.alloc))⟩

set_option maxHeartbeats 4000000 in
set_option maxRecDepth 100000 in
theorem rmake_turned (k : Nat) (a0_0 : OV) (a0_1 : OV) (a0_2 : OV) (a0_3 : Int) (a0_4 : Int) (a0_5 : Int) (a0_6 : Int) (a0_7 : Int) (a0_8 : Int) (a0_9 : Int) (a0_10 : Int) (a0_11 : Int) (a0_12 : Int) (a0_13 : Int) (a0_14 : Int) (a0_15 : Int) (a0_16 : Int) (a0_17 : OV) (A0_18 : Option Addr) (c0_18 : Nat) (l0_18 : List (S57)) (A0_19 : Option Addr) (c0_19 : Nat) (l0_19 : List (S54)) (a0_20 : OV) (a0_21 : OV) (a1 a2 a3 a4 : Int) (q1 q2 q3 q4 : Int) (q5 q6 q7 : ByteArray) (HF : Aside0 (corebankref24_Find.f k a0_0 a0_1 a0_2 a0_3 a0_4 a0_5 a0_6 a0_7 a0_8 a0_9 a0_10 a0_11 a0_12 a0_13 a0_14 a0_15 a0_16 a0_17 l0_18 l0_19 a0_20 a0_21 a1 = some (q1, q2, q3, q4, q5, q6, q7, true))) (w : World) (HR18 : Aside0 (Kd.C k57 w A0_18 l0_18.length l0_18)) (HC18 : Aside0 (l0_18.length ≤ c0_18)) (HR19 : Aside0 (Kd.C k54 w A0_19 l0_19.length l0_19)) (HC19 : Aside0 (l0_19.length ≤ c0_19)) (d1 : ¬ a2 < 1) (HV1 : Aside0 (corebankref04_Valid.f a3 = some true)) (HV2 : Aside0 (corebankref04_Valid.f a4 = some true)) (d2 : a3 > a4) :
    Calls Tryd.prog 11 #[.agg #[a0_0.1, a0_1.1, a0_2.1, .int .i64 a0_3, .int .i64 a0_4, .int .i64 a0_5, .int .i64 a0_6, .int .i64 a0_7, .int .i64 a0_8, .int .i64 a0_9, .int .i64 a0_10, .int .i64 a0_11, .int .i64 a0_12, .int .i64 a0_13, .int .i64 a0_14, .int .i64 a0_15, .int .i64 a0_16, a0_17.1, .slice A0_18 l0_18.length c0_18, .slice A0_19 l0_19.length c0_19, a0_20.1, a0_21.1], .int .i64 a1, .int .i64 a2, .int .i64 a3, .int .i64 a4] w fun e w' => ∃ v6_ : Value, e = .returned (.tuple #[.agg #[.int .i64 0, .int .i64 0, .int .i64 0, .int .i64 0, .int .i64 0, .int .i64 0, v6_], .int .i64 1]) ∧ Kd.R k66 66 w' w.heap.size (fun _ => True) v6_ [] ∧ Below w.heap.size w w' := by
  have HM := Aside0.mk (Mem.nil w)
  have hu33 := Tryd.underlying33
  have hu40 := Tryd.underlying40
  have hu57 := Tryd.underlying57
  have hu54 := Tryd.underlying54
  have hu66 := Tryd.underlying66
  have d1b : decide (a2 < 1) = false := decide_eq_false d1
  clear d1
  have d2b : decide (a3 > a4) = true := decide_eq_true d2
  clear d2
  go_enter Tryd.func11, Tryd.ntmps11
  go_wp2_with (first | ((with_reducible refine gate_dst (N := 5) rfl ?_); refine box_event ?hg (N := 5) ?hd (cs := #[a0_0.1, a0_1.1, a0_2.1, .int .i64 a0_3, .int .i64 a0_4, .int .i64 a0_5, .int .i64 a0_6, .int .i64 a0_7, .int .i64 a0_8, .int .i64 a0_9, .int .i64 a0_10, .int .i64 a0_11, .int .i64 a0_12, .int .i64 a0_13, .int .i64 a0_14, .int .i64 a0_15, .int .i64 a0_16, a0_17.1, .slice A0_18 l0_18.length c0_18, .slice A0_19 l0_19.length c0_19, a0_20.1, a0_21.1]) (t := 33) ?hr ?_; (case hd => rfl); (case hg => rfl); (case hr => first | (go_simp; done) | (go_simp; rfl)); intro BK hg_ W_BK hk_ hB_; have n0_ := Mem.box (by repeat (first | exact HM.out | apply Mem.drewN | apply Mem.drew | apply Mem.alloc)) hg_ hB_ hk_; clear HM; have HM := Aside0.mk n0_; clear n0_; clear hk_ hB_ hg_) | ((with_reducible refine gate_dst (N := 10) rfl ?_); refine box_event ?hg (N := 10) ?hd (cs := #[.int .i64 0, .int .i64 0, .int .i64 0, .int .i64 0, .int .i64 0, .int .i64 0, .slice none 0 0]) (t := 40) ?hr ?_; (case hd => rfl); (case hg => rfl); (case hr => first | (go_simp; done) | (go_simp; rfl)); intro RS hg_ W_RS hk_ hB_; have n0_ := Mem.box (by repeat (first | exact HM.out | apply Mem.drewN | apply Mem.drew | apply Mem.alloc)) hg_ hB_ hk_; clear HM; have HM := Aside0.mk n0_; clear n0_; clear hk_ hB_ hg_) | ((with_reducible refine gate_load_ (t := 33) (p := 5) rfl ?_); refine load_event ?hgd 33 (.tmp 5) rfl _ ?hx 33 _ (Mem.get (by repeat (first | exact HM.out | apply Mem.drewN | apply Mem.drew | apply Mem.alloc)) 1 rfl) Tryd.underlying33 rfl ?hi ?_; (case hgd => rfl); (case hx => rfl); (case hi => kernel_rfl)) | (go_at_call 21; refine (corebankref24_Find.calls k a0_0 a0_1 a0_2 a0_3 a0_4 a0_5 a0_6 a0_7 a0_8 a0_9 a0_10 a0_11 a0_12 a0_13 a0_14 a0_15 a0_16 a0_17 A0_18 c0_18 l0_18 A0_19 c0_19 l0_19 a0_20 a0_21 a1 q1 q2 q3 q4 q5 q6 q7 true _ (Kd.C_below HR18.out (Mem.below (by repeat (first | exact HM.out | apply Mem.drewN | apply Mem.drew | apply Mem.alloc)))) HC18.out (Kd.C_below HR19.out (Mem.below (by repeat (first | exact HM.out | apply Mem.drewN | apply Mem.drew | apply Mem.alloc)))) HC19.out HF.out).mono ?_; rintro e W_f ⟨rfl, hb_⟩; have n0_ := Mem.later (by repeat (first | exact HM.out | apply Mem.drewN | apply Mem.drew | apply Mem.alloc)) hb_; clear HM; have HM := Aside0.mk n0_; clear n0_; clear hb_) | ((with_reducible refine gate_dst (N := 12) rfl ?_); refine box_event ?hg (N := 12) ?hd (cs := #[.int .i64 0, .int .i64 0, .int .i64 0, .int .i64 0, .string (⟨#[]⟩ : ByteArray), .string (⟨#[]⟩ : ByteArray), .string (⟨#[]⟩ : ByteArray)]) (t := 57) ?hr ?_; (case hd => rfl); (case hg => rfl); (case hr => first | (go_simp; done) | (go_simp; rfl)); intro AC hg_ W_AC hk_ hB_; have n0_ := Mem.box (by repeat (first | exact HM.out | apply Mem.drewN | apply Mem.drew | apply Mem.alloc)) hg_ hB_ hk_; clear HM; have HM := Aside0.mk n0_; clear n0_; clear hk_ hB_ hg_) | ((with_reducible refine gate_store_ (t := 57) (x := .tmp 12) (y := .tmp 21) rfl ?_); refine store_event ?hgd 57 (.tmp 12) (.tmp 21) rfl ?hdst _ #[.int .i64 q1, .int .i64 q2, .int .i64 q3, .int .i64 q4, .string q5, .string q6, .string q7] ?hx ?hy 57 _ (Mem.get (by repeat (first | exact HM.out | apply Mem.drewN | apply Mem.drew | apply Mem.alloc)) 0 rfl) ?hi ?hold ?h1 ?_; (case hgd => rfl); (case hdst => rfl); (case hx => rfl); (case hy => first | rfl | (go_simp; done) | (go_simp; rfl)); (case hi => kernel_rfl); (case hold => rfl); (case h1 => rfl); intro W_ hs_ hk_; have n0_ := Mem.set (by repeat (first | exact HM.out | apply Mem.drewN | apply Mem.drew | apply Mem.alloc)) 0 rfl hs_ hk_; simp only [List.set_cons_zero, List.set_cons_succ] at n0_; clear HM hs_; have HM := Aside0.mk n0_; clear n0_; clear hk_) | (go_at_call 26; (with_reducible refine (corebankref04_Valid.calls a3 true _ HV1.out).mono ?_); rintro e w' ⟨rfl, ⟨nd, rfl⟩⟩) | (go_at_call 26; (with_reducible refine (corebankref04_Valid.calls a4 true _ HV2.out).mono ?_); rintro e w' ⟨rfl, ⟨nd, rfl⟩⟩) | ((with_reducible refine gate_store_ (t := 40) (x := .tmp 10) (y := .tmp 43) rfl ?_); refine store_event ?hgd 40 (.tmp 10) (.tmp 43) rfl ?hdst _ #[.int .i64 0, .int .i64 0, .int .i64 0, .int .i64 0, .int .i64 0, .int .i64 0, .slice none 0 0] ?hx ?hy 40 _ (Mem.get (by repeat (first | exact HM.out | apply Mem.drewN | apply Mem.drew | apply Mem.alloc)) 1 rfl) ?hi ?hold ?h1 ?_; (case hgd => rfl); (case hdst => rfl); (case hx => rfl); (case hy => first | rfl | (go_simp; done) | (go_simp; rfl)); (case hi => kernel_rfl); (case hold => rfl); (case h1 => rfl); intro W_ hs_ hk_; have n0_ := Mem.set (by repeat (first | exact HM.out | apply Mem.drewN | apply Mem.drew | apply Mem.alloc)) 1 rfl hs_ hk_; simp only [List.set_cons_zero, List.set_cons_succ] at n0_; clear HM hs_; have HM := Aside0.mk n0_; clear n0_; clear hk_))
  refine bodyPost_ret (results_ct rfl _ _ RS 40 #[.int .i64 0, .int .i64 0, .int .i64 0, .int .i64 0, .int .i64 0, .int .i64 0, .slice none 0 0] (0, 0) _ rfl (Mem.get (by repeat (first | exact HM.out | apply Mem.drewN | apply Mem.drew | apply Mem.alloc)) 1 rfl) Tryd.underlying40 rfl (by kernel_rfl)) rfl ?_
  exact ⟨_, rfl, Kd.R_nil _ _ _ _ _, Mem.below (by repeat (first | exact HM.out | apply Mem.drewN | apply Mem.drew | apply Mem.alloc))⟩

set_option maxHeartbeats 4000000 in
set_option maxRecDepth 100000 in
theorem rmake_main (k : Nat) (a0_0 : OV) (a0_1 : OV) (a0_2 : OV) (a0_3 : Int) (a0_4 : Int) (a0_5 : Int) (a0_6 : Int) (a0_7 : Int) (a0_8 : Int) (a0_9 : Int) (a0_10 : Int) (a0_11 : Int) (a0_12 : Int) (a0_13 : Int) (a0_14 : Int) (a0_15 : Int) (a0_16 : Int) (a0_17 : OV) (A0_18 : Option Addr) (c0_18 : Nat) (l0_18 : List (S57)) (A0_19 : Option Addr) (c0_19 : Nat) (l0_19 : List (S54)) (a0_20 : OV) (a0_21 : OV) (a1 a2 a3 a4 : Int) (k2 : Nat) (q1 q2 q3 q4 : Int) (q5 q6 q7 : ByteArray) (HF : Aside0 (corebankref24_Find.f k a0_0 a0_1 a0_2 a0_3 a0_4 a0_5 a0_6 a0_7 a0_8 a0_9 a0_10 a0_11 a0_12 a0_13 a0_14 a0_15 a0_16 a0_17 l0_18 l0_19 a0_20 a0_21 a1 = some (q1, q2, q3, q4, q5, q6, q7, true))) (w : World) (HR18 : Aside0 (Kd.C k57 w A0_18 l0_18.length l0_18)) (HC18 : Aside0 (l0_18.length ≤ c0_18)) (HR19 : Aside0 (Kd.C k54 w A0_19 l0_19.length l0_19)) (HC19 : Aside0 (l0_19.length ≤ c0_19)) (d1 : ¬ a2 < 1) (HV1 : Aside0 (corebankref04_Valid.f a3 = some true)) (HV2 : Aside0 (corebankref04_Valid.f a4 = some true)) (d2 : ¬ a3 > a4) (t1 t2 : List S54) (t256 t260 : Int) (HB1 : Aside0 (corebankref45_before.f k2 l0_19 (wrap64 (a3 - 1)) = some t1)) (HO1 : Aside0 (corebankref21_Of.f k2 t1 a1 = some t256)) (HB2 : Aside0 (corebankref45_before.f k2 l0_19 a4 = some t2)) (HO2 : Aside0 (corebankref21_Of.f k2 t2 a1 = some t260)) (kq : Nat) (r1 r2 r3 r4 r5 r6 : Int) (r7 : List S66) (r8 : Int) (HL : Aside0 (corebankref45_Make.l0 kq a1 a3 a4 0 a0_0 a0_1 a0_2 a0_3 a0_4 a0_5 a0_6 a0_7 a0_8 a0_9 a0_10 a0_11 a0_12 a0_13 a0_14 a0_15 a0_16 a0_17 l0_18 l0_19 a0_20 a0_21 a1 a2 a3 a4 t256 t260 [] = some (r1, r2, r3, r4, r5, r6, r7, r8))) :
    Calls Tryd.prog 11 #[.agg #[a0_0.1, a0_1.1, a0_2.1, .int .i64 a0_3, .int .i64 a0_4, .int .i64 a0_5, .int .i64 a0_6, .int .i64 a0_7, .int .i64 a0_8, .int .i64 a0_9, .int .i64 a0_10, .int .i64 a0_11, .int .i64 a0_12, .int .i64 a0_13, .int .i64 a0_14, .int .i64 a0_15, .int .i64 a0_16, a0_17.1, .slice A0_18 l0_18.length c0_18, .slice A0_19 l0_19.length c0_19, a0_20.1, a0_21.1], .int .i64 a1, .int .i64 a2, .int .i64 a3, .int .i64 a4] w fun e w' => ∃ v6_ : Value, e = .returned (.tuple #[.agg #[.int .i64 r1, .int .i64 r2, .int .i64 r3, .int .i64 r4, .int .i64 r5, .int .i64 r6, v6_], .int .i64 r8]) ∧ Kd.R k66 66 w' w.heap.size (fun _ => True) v6_ r7 ∧ Below w.heap.size w w' := by
  have HM := Aside0.mk (Mem.nil w)
  have hu33 := Tryd.underlying33
  have hu40 := Tryd.underlying40
  have hu57 := Tryd.underlying57
  have hu54 := Tryd.underlying54
  have hu66 := Tryd.underlying66
  have d1b : decide (a2 < 1) = false := decide_eq_false d1
  clear d1
  have d2b : decide (a3 > a4) = false := decide_eq_false d2
  clear d2
  have hu29 := Tryd.underlying29
  have hu38 := Tryd.underlying38
  go_enter Tryd.func11, Tryd.ntmps11
  go_upto_region 8 with (first | ((with_reducible refine gate_dst (N := 5) rfl ?_); refine box_event ?hg (N := 5) ?hd (cs := #[a0_0.1, a0_1.1, a0_2.1, .int .i64 a0_3, .int .i64 a0_4, .int .i64 a0_5, .int .i64 a0_6, .int .i64 a0_7, .int .i64 a0_8, .int .i64 a0_9, .int .i64 a0_10, .int .i64 a0_11, .int .i64 a0_12, .int .i64 a0_13, .int .i64 a0_14, .int .i64 a0_15, .int .i64 a0_16, a0_17.1, .slice A0_18 l0_18.length c0_18, .slice A0_19 l0_19.length c0_19, a0_20.1, a0_21.1]) (t := 33) ?hr ?_; (case hd => rfl); (case hg => rfl); (case hr => first | (go_simp; done) | (go_simp; rfl)); intro BK hg_ W_BK hk_ hB_; have n0_ := Mem.box (by repeat (first | exact HM.out | apply Mem.drewN | apply Mem.drew | apply Mem.alloc)) hg_ hB_ hk_; clear HM; have HM := Aside0.mk n0_; clear n0_; clear hk_ hB_ hg_) | ((with_reducible refine gate_dst (N := 10) rfl ?_); refine box_event ?hg (N := 10) ?hd (cs := #[.int .i64 0, .int .i64 0, .int .i64 0, .int .i64 0, .int .i64 0, .int .i64 0, .slice none 0 0]) (t := 40) ?hr ?_; (case hd => rfl); (case hg => rfl); (case hr => first | (go_simp; done) | (go_simp; rfl)); intro RS hg_ W_RS hk_ hB_; have n0_ := Mem.box (by repeat (first | exact HM.out | apply Mem.drewN | apply Mem.drew | apply Mem.alloc)) hg_ hB_ hk_; clear HM; have HM := Aside0.mk n0_; clear n0_; clear hk_ hB_ hg_) | ((with_reducible refine gate_load_ (t := 33) (p := 5) rfl ?_); refine load_event ?hgd 33 (.tmp 5) rfl _ ?hx 33 _ (Mem.get (by repeat (first | exact HM.out | apply Mem.drewN | apply Mem.drew | apply Mem.alloc)) 1 rfl) Tryd.underlying33 rfl ?hi ?_; (case hgd => rfl); (case hx => rfl); (case hi => kernel_rfl)) | (go_at_call 21; refine (corebankref24_Find.calls k a0_0 a0_1 a0_2 a0_3 a0_4 a0_5 a0_6 a0_7 a0_8 a0_9 a0_10 a0_11 a0_12 a0_13 a0_14 a0_15 a0_16 a0_17 A0_18 c0_18 l0_18 A0_19 c0_19 l0_19 a0_20 a0_21 a1 q1 q2 q3 q4 q5 q6 q7 true _ (Kd.C_below HR18.out (Mem.below (by repeat (first | exact HM.out | apply Mem.drewN | apply Mem.drew | apply Mem.alloc)))) HC18.out (Kd.C_below HR19.out (Mem.below (by repeat (first | exact HM.out | apply Mem.drewN | apply Mem.drew | apply Mem.alloc)))) HC19.out HF.out).mono ?_; rintro e W_f ⟨rfl, hb_⟩; have n0_ := Mem.later (by repeat (first | exact HM.out | apply Mem.drewN | apply Mem.drew | apply Mem.alloc)) hb_; clear HM; have HM := Aside0.mk n0_; clear n0_; clear hb_) | ((with_reducible refine gate_dst (N := 12) rfl ?_); refine box_event ?hg (N := 12) ?hd (cs := #[.int .i64 0, .int .i64 0, .int .i64 0, .int .i64 0, .string (⟨#[]⟩ : ByteArray), .string (⟨#[]⟩ : ByteArray), .string (⟨#[]⟩ : ByteArray)]) (t := 57) ?hr ?_; (case hd => rfl); (case hg => rfl); (case hr => first | (go_simp; done) | (go_simp; rfl)); intro AC hg_ W_AC hk_ hB_; have n0_ := Mem.box (by repeat (first | exact HM.out | apply Mem.drewN | apply Mem.drew | apply Mem.alloc)) hg_ hB_ hk_; clear HM; have HM := Aside0.mk n0_; clear n0_; clear hk_ hB_ hg_) | ((with_reducible refine gate_store_ (t := 57) (x := .tmp 12) (y := .tmp 21) rfl ?_); refine store_event ?hgd 57 (.tmp 12) (.tmp 21) rfl ?hdst _ #[.int .i64 q1, .int .i64 q2, .int .i64 q3, .int .i64 q4, .string q5, .string q6, .string q7] ?hx ?hy 57 _ (Mem.get (by repeat (first | exact HM.out | apply Mem.drewN | apply Mem.drew | apply Mem.alloc)) 0 rfl) ?hi ?hold ?h1 ?_; (case hgd => rfl); (case hdst => rfl); (case hx => rfl); (case hy => first | rfl | (go_simp; done) | (go_simp; rfl)); (case hi => kernel_rfl); (case hold => rfl); (case h1 => rfl); intro W_ hs_ hk_; have n0_ := Mem.set (by repeat (first | exact HM.out | apply Mem.drewN | apply Mem.drew | apply Mem.alloc)) 0 rfl hs_ hk_; simp only [List.set_cons_zero, List.set_cons_succ] at n0_; clear HM hs_; have HM := Aside0.mk n0_; clear n0_; clear hk_) | (go_at_call 26; (with_reducible refine (corebankref04_Valid.calls a3 true _ HV1.out).mono ?_); rintro e w' ⟨rfl, ⟨nd, rfl⟩⟩) | (go_at_call 26; (with_reducible refine (corebankref04_Valid.calls a4 true _ HV2.out).mono ?_); rintro e w' ⟨rfl, ⟨nd, rfl⟩⟩) | ((with_reducible refine gate_dst (N := 14) rfl ?_); refine box_event ?hg (N := 14) ?hd (cs := #[.int .i64 0, .int .i64 0, .int .i64 0, .int .i64 0, .int .i64 0, .int .i64 0, .slice none 0 0]) (t := 40) ?hr ?_; (case hd => rfl); (case hg => rfl); (case hr => first | (go_simp; done) | (go_simp; rfl)); intro S hg_ W_S hk_ hB_; have n0_ := Mem.box (by repeat (first | exact HM.out | apply Mem.drewN | apply Mem.drew | apply Mem.alloc)) hg_ hB_ hk_; clear HM; have HM := Aside0.mk n0_; clear n0_; clear hk_ hB_ hg_) | ((with_reducible refine gate_store_ (t := 40) (x := .tmp 14) (y := .tmp 48) rfl ?_); refine store_event ?hgd 40 (.tmp 14) (.tmp 48) rfl ?hdst _ #[.int .i64 a1, .int .i64 a2, .int .i64 a3, .int .i64 a4, .int .i64 0, .int .i64 0, .slice none 0 0] ?hx ?hy 40 _ (Mem.get (by repeat (first | exact HM.out | apply Mem.drewN | apply Mem.drew | apply Mem.alloc)) 0 rfl) ?hi ?hold ?h1 ?_; (case hgd => rfl); (case hdst => rfl); (case hx => rfl); (case hy => first | rfl | (go_simp; done) | (go_simp; rfl)); (case hi => kernel_rfl); (case hold => rfl); (case h1 => rfl); intro W_ hs_ hk_; have n0_ := Mem.set (by repeat (first | exact HM.out | apply Mem.drewN | apply Mem.drew | apply Mem.alloc)) 0 rfl hs_ hk_; simp only [List.set_cons_zero, List.set_cons_succ] at n0_; clear HM hs_; have HM := Aside0.mk n0_; clear n0_; have b19 := Mem.cellv HM.out 3 rfl 19 (u := .slice A0_19 l0_19.length c0_19) rfl; clear hk_) | (go_at_call 28; refine (corebankref45_before.calls k2 (fun k_ => k_ < w.heap.size) A0_19 c0_19 l0_19 (wrap64 (a3 - 1)) t1 _ ?sV HB1.out).mono ?_; (case sV => exact Kd.V_mk HC19.out (Kd.F_below (Kd.C_F k54_heap HR19.out) (Mem.below (by repeat (first | exact HM.out | apply Mem.drewN | apply Mem.drew | apply Mem.alloc))))); rintro e W_b ⟨v_, rfl, ho_, hb_⟩; have n0_ := Mem.later (by repeat (first | exact HM.out | apply Mem.drewN | apply Mem.drew | apply Mem.alloc)) hb_; clear HM; have HM := Aside0.mk n0_; clear n0_; clear hb_ b19; have b19 := Mem.cellv HM.out 3 rfl 19 (u := .slice A0_19 l0_19.length c0_19) rfl; obtain ⟨P1, e1, e_⟩ := Kd.N_slice ho_; subst e_; have HN := Aside0.mk ho_; clear ho_) | (go_at_call 27; refine (corebankref21_Of.calls k2 P1 e1 t1 a1 t256 _ ?sC ?sL HO1.out).mono ?_; (case sC => exact (Kd.N_reads' HN.out).2.2); (case sL => exact (Kd.N_reads' HN.out).2.1); rintro e W_o ⟨rfl, hb_⟩; have n0_ := Mem.later (by repeat (first | exact HM.out | apply Mem.drewN | apply Mem.drew | apply Mem.alloc)) hb_; clear HM; have HM := Aside0.mk n0_; clear n0_; clear hb_ HN b19; have b19 := Mem.cellv HM.out 3 rfl 19 (u := .slice A0_19 l0_19.length c0_19) rfl) | ((with_reducible refine gate_store_ (t := 3) (x := .tmp 56) (y := .tmp 55) rfl ?_); refine cell_event ?hgd 3 (.tmp 56) (.tmp 55) rfl ?hdst _ 4 (.int .i64 t256) ?hx ?hy _ _ (Mem.get (by repeat (first | exact HM.out | apply Mem.drewN | apply Mem.drew | apply Mem.alloc)) 0 rfl) ?hj ?hi ?h1 ?_; (case hgd => rfl); (case hdst => rfl); (case hx => rfl); (case hy => first | rfl | (go_simp; done) | (go_simp; rfl)); (case hj => first | (simp; done) | decide); (case hi => kernel_rfl); (case h1 => rfl); intro W_ hs_ hk_; have n0_ := Mem.set (by repeat (first | exact HM.out | apply Mem.drewN | apply Mem.drew | apply Mem.alloc)) 0 rfl hs_ hk_; simp only [List.set_cons_zero, List.set_cons_succ, List.setIfInBounds_toArray] at n0_; clear HM hs_; have HM := Aside0.mk n0_; clear n0_; clear b19; have b19 := Mem.cellv HM.out 3 rfl 19 (u := .slice A0_19 l0_19.length c0_19) rfl; clear hk_))
  go_upto_region 9 with (first | (go_at_call 28; refine (corebankref45_before.calls k2 (fun k_ => k_ < w.heap.size) A0_19 c0_19 l0_19 a4 t2 _ ?sV HB2.out).mono ?_; (case sV => exact Kd.V_mk HC19.out (Kd.F_below (Kd.C_F k54_heap HR19.out) (Mem.below (by repeat (first | exact HM.out | apply Mem.drewN | apply Mem.drew | apply Mem.alloc))))); rintro e W_b ⟨v_, rfl, ho_, hb_⟩; have n0_ := Mem.later (by repeat (first | exact HM.out | apply Mem.drewN | apply Mem.drew | apply Mem.alloc)) hb_; clear HM; have HM := Aside0.mk n0_; clear n0_; clear hb_ b19; have b19 := Mem.cellv HM.out 3 rfl 19 (u := .slice A0_19 l0_19.length c0_19) rfl; obtain ⟨P2, e2, e_⟩ := Kd.N_slice ho_; subst e_; have HN := Aside0.mk ho_; clear ho_) | (go_at_call 27; refine (corebankref21_Of.calls k2 P2 e2 t2 a1 t260 _ ?sC ?sL HO2.out).mono ?_; (case sC => exact (Kd.N_reads' HN.out).2.2); (case sL => exact (Kd.N_reads' HN.out).2.1); rintro e W_o ⟨rfl, hb_⟩; have n0_ := Mem.later (by repeat (first | exact HM.out | apply Mem.drewN | apply Mem.drew | apply Mem.alloc)) hb_; clear HM; have HM := Aside0.mk n0_; clear n0_; clear hb_ HN b19; have b19 := Mem.cellv HM.out 3 rfl 19 (u := .slice A0_19 l0_19.length c0_19) rfl) | ((with_reducible refine gate_store_ (t := 3) (x := .tmp 63) (y := .tmp 62) rfl ?_); refine cell_event ?hgd 3 (.tmp 63) (.tmp 62) rfl ?hdst _ 5 (.int .i64 t260) ?hx ?hy _ _ (Mem.get (by repeat (first | exact HM.out | apply Mem.drewN | apply Mem.drew | apply Mem.alloc)) 0 rfl) ?hj ?hi ?h1 ?_; (case hgd => rfl); (case hdst => rfl); (case hx => rfl); (case hy => first | rfl | (go_simp; done) | (go_simp; rfl)); (case hj => first | (simp; done) | decide); (case hi => kernel_rfl); (case h1 => rfl); intro W_ hs_ hk_; have n0_ := Mem.set (by repeat (first | exact HM.out | apply Mem.drewN | apply Mem.drew | apply Mem.alloc)) 0 rfl hs_ hk_; simp only [List.set_cons_zero, List.set_cons_succ, List.setIfInBounds_toArray] at n0_; clear HM hs_; have HM := Aside0.mk n0_; clear n0_; clear b19; clear hk_))
  go_wp2
  go_loopg [15] kq (fun gg v15 wr => ∃ (x15 : Int) (ls : List S66) (v : Value), v15 = .int .i64 x15 ∧ Aside0 (corebankref45_Make.l0 gg a1 a3 a4 x15 a0_0 a0_1 a0_2 a0_3 a0_4 a0_5 a0_6 a0_7 a0_8 a0_9 a0_10 a0_11 a0_12 a0_13 a0_14 a0_15 a0_16 a0_17 l0_18 l0_19 a0_20 a0_21 a1 a2 a3 a4 t256 t260 ls = some (r1, r2, r3, r4, r5, r6, r7, r8)) ∧ Aside0 (Kd.R k66 66 wr w.heap.size (fun _ => True) v ls) ∧ Aside0 (Mem w wr [(S, 40, #[.int .i64 a1, .int .i64 a2, .int .i64 a3, .int .i64 a4, .int .i64 t256, .int .i64 t260, v]), (AC, 57, #[.int .i64 q1, .int .i64 q2, .int .i64 q3, .int .i64 q4, .string q5, .string q6, .string q7]), (RS, 40, #[.int .i64 0, .int .i64 0, .int .i64 0, .int .i64 0, .int .i64 0, .int .i64 0, .slice none 0 0]), (BK, 33, #[a0_0.1, a0_1.1, a0_2.1, .int .i64 a0_3, .int .i64 a0_4, .int .i64 a0_5, .int .i64 a0_6, .int .i64 a0_7, .int .i64 a0_8, .int .i64 a0_9, .int .i64 a0_10, .int .i64 a0_11, .int .i64 a0_12, .int .i64 a0_13, .int .i64 a0_14, .int .i64 a0_15, .int .i64 a0_16, a0_17.1, .slice A0_18 l0_18.length c0_18, .slice A0_19 l0_19.length c0_19, a0_20.1, a0_21.1])]))
  case atStart => exact ⟨0, [], .slice none 0 0, rfl, HL, ⟨Kd.R_nil _ _ _ _ _⟩, HM⟩
  case round =>
    clear HL HM
    obtain ⟨x15, ls, v, rfl, HL, HO, HM⟩ := hrel
    obtain ⟨Ao, co, eo⟩ := Kd.R_slice HO.out
    subst eo
    have H := HL.out
    clear HL
    have b19 := Mem.cellv HM.out 3 rfl 19 (u := .slice A0_19 l0_19.length c0_19) rfl
    cases gk with
    | zero => exact absurd H (by simp [corebankref45_Make.l0])
    | succ k2 =>
    simp only [corebankref45_Make.l0] at H
    have hmx := HR19.out.2.1
    by_cases c1 : x15 < (l0_19.length : Int)
    · rw [if_pos c1] at H
      by_cases c2 : 0 ≤ x15
      · rw [if_pos c2] at H
        obtain ⟨ad, A8, c8, e_, hx0, hx1, hx2, hx3, hx4, hx5, hx6, hx7, hx8, hx9, hl8, hi8⟩ := at_T54 HR19.out x15 c2 c1
        cases e_
        replace hx0 := ((Mem.below HM.out).cell (World.block_lt_of_cell? w _ hx0)).trans hx0
        replace hx1 := ((Mem.below HM.out).cell (World.block_lt_of_cell? w _ hx1)).trans hx1
        replace hx2 := ((Mem.below HM.out).cell (World.block_lt_of_cell? w _ hx2)).trans hx2
        replace hx3 := ((Mem.below HM.out).cell (World.block_lt_of_cell? w _ hx3)).trans hx3
        replace hx4 := ((Mem.below HM.out).cell (World.block_lt_of_cell? w _ hx4)).trans hx4
        replace hx5 := ((Mem.below HM.out).cell (World.block_lt_of_cell? w _ hx5)).trans hx5
        replace hx6 := ((Mem.below HM.out).cell (World.block_lt_of_cell? w _ hx6)).trans hx6
        replace hx7 := ((Mem.below HM.out).cell (World.block_lt_of_cell? w _ hx7)).trans hx7
        replace hx8 := ((Mem.below HM.out).cell (World.block_lt_of_cell? w _ hx8)).trans hx8
        replace hx9 := ((Mem.below HM.out).cell (World.block_lt_of_cell? w _ hx9)).trans hx9
        have HI := Aside0.mk hi8
        have HJ := Aside0.mk hl8
        clear hi8 hl8
        have hw1 : wrap64 (x15 + 1) = x15 + 1 := by unfold wrap64; omega
        rw [hw1] at H
        have c1b : decide (x15 < (l0_19.length : Int)) = true := decide_eq_true c1
        have p1 : (x15 < (l0_19.length : Int)) = True := eq_true c1
        have p2 : (0 ≤ x15) = True := eq_true c2
        by_cases c3 : a3 ≤ ((rd_T54 l0_19 x15).f1)
        · rw [if_pos c3] at H
          by_cases c4 : ((rd_T54 l0_19 x15).f1) ≤ a4
          · rw [if_pos c4] at H
            obtain ⟨t263, A10, H⟩ := Option.bind_eq_some_iff.1 H
            have A1 := Aside0.mk A10
            clear A10
            cases t263 with
            | true =>
              rw [if_pos rfl, if_pos (by omega), if_pos (by omega)] at H
              obtain ⟨t268, A20, H⟩ := Option.bind_eq_some_iff.1 H
              have A2 := Aside0.mk A20
              clear A20
              by_cases c5 : ls.length < 3518437208883
              · rw [if_pos c5] at H
                have hlen := Aside0.mk c5
                obtain ⟨y, hy⟩ : ∃ y, y = ls ++ [(⟨((rd_T54 l0_19 x15).f0), ((rd_T54 l0_19 x15).f1), t268, ((rd_T54 l0_19 x15).f7)⟩ : S66)] := ⟨_, rfl⟩
                rw [← hy] at H
                have HY := Aside0.mk hy
                have H := Aside0.mk H
                clear hy c5
                obtain ⟨yl, hyl⟩ : ∃ yl, yl = ((l0_19.take (x15 + 1).toNat).drop x15.toNat) := ⟨_, rfl⟩
                have NY := Aside0.mk hyl
                clear hyl
                obtain ⟨i073, hi073, _, hsz73, _⟩ := info_parts info54
                have hroom73 : l0_19.length ≤ c0_19 := HC19.out
                have hC73 : Kd.C k54 _ (some ad) l0_19.length l0_19 := HR19.out
                have hcut73 := cut_mid (P := Tryd.prog) 29 54 .i64 .i64 Tryd.underlying29 hi073 10 hsz73 (some ad) l0_19.length c0_19 x15 (x15 + 1) c2 (by omega) (by omega) hroom73
                have hr73 := Kd.C_mid (lo := x15.toNat) (hi := (x15 + 1).toNat) (c := c0_19) hC73 (by omega) (by omega) hroom73
                obtain ⟨A73, hA73⟩ : ∃ A1, A1 = (if c0_19 = x15.toNat then (some ad) else ((some ad) : Option Addr).map (·.add (x15.toNat * 10))) := ⟨_, rfl⟩
                obtain ⟨c73, hc73⟩ : ∃ c1, c1 = c0_19 - x15.toNat := ⟨_, rfl⟩
                have hy73 : yl.length = (x15 + 1).toNat - x15.toNat := (by rw [NY.out, List.length_drop, List.length_take]; omega)
                rw [← NY.out] at hr73
                replace hr73 : Kd.C k54 _ A73 yl.length yl := (by rw [hA73]; exact hr73)
                rw [← hy73, ← hA73, ← hc73] at hcut73
                have HRY := Aside0.mk hr73
                have HCY := Aside0.mk (show yl.length ≤ c73 from by rw [hy73, hc73]; omega)
                have HA2 : Aside0 (corebankref21_Of.f k2 yl a1 = some t268) := ⟨by rw [NY.out]; exact A2.out⟩
                have hwr : IntKind.i64.wrap (x15 + 1) = x15 + 1 := by rw [i64_w]; exact hw1
                have c3b : decide (a3 ≤ ((rd_T54 l0_19 x15).f1)) = true := decide_eq_true c3
                have c4b : decide (((rd_T54 l0_19 x15).f1) ≤ a4) = true := decide_eq_true c4
                clear hr73 hC73 hroom73 hi073 hsz73 hc73 hy73 hA73 c1 c2 c3 c4 hw1 hmx A2
                go_upto_region 14 with (first | ((with_reducible refine gate_dst (N := 16) rfl ?_); refine box_event ?hg (N := 16) ?hd (cs := #[.int .i64 0, .int .i64 0, .int .i64 0, .int .i64 0, .int .i64 0, .int .i64 0, .string (⟨#[]⟩ : ByteArray), .string (⟨#[]⟩ : ByteArray), .slice none 0 0, .int .u64 0]) (t := 54) ?hr ?_; (case hd => rfl); (case hg => rfl); (case hr => first | (go_simp; done) | (go_simp; rfl)); intro E hg_ W_E hk_ hB_; have n0_ := Mem.box (by repeat (first | exact HM.out | apply Mem.drewN | apply Mem.drew | apply Mem.alloc)) hg_ hB_ hk_; clear HM; have HM := Aside0.mk n0_; clear n0_; clear hk_ hg_; have n1_ := Aside0.mk (Kd.R_below (by (with_reducible repeat (first | apply Kd.R_alloc | apply Kd.R_drewN | apply Kd.R_drew)); exact HO.out) hB_); clear HO hB_; have HO := n1_; clear n1_) | ((with_reducible refine gate_store_ (t := 54) (x := .tmp 16) (y := .tmp 75) rfl ?_); refine store_event ?hgd 54 (.tmp 16) (.tmp 75) rfl ?hdst _ #[.int .i64 ((rd_T54 l0_19 x15).f0), .int .i64 ((rd_T54 l0_19 x15).f1), .int .i64 ((rd_T54 l0_19 x15).f2), .int .i64 ((rd_T54 l0_19 x15).f3), .int .i64 ((rd_T54 l0_19 x15).f4), .int .i64 ((rd_T54 l0_19 x15).f5), .string ((rd_T54 l0_19 x15).f6), .string ((rd_T54 l0_19 x15).f7), .slice A8 ((rd_T54 l0_19 x15).f8).length c8, .int .u64 ((rd_T54 l0_19 x15).f9)] ?hx ?hy 54 _ (Mem.get (by repeat (first | exact HM.out | apply Mem.drewN | apply Mem.drew | apply Mem.alloc)) 0 rfl) ?hi ?hold ?h1 ?_; (case hgd => rfl); (case hdst => rfl); (case hx => rfl); (case hy => first | rfl | (go_simp; done) | (go_simp; rfl)); (case hi => kernel_rfl); (case hold => rfl); (case h1 => rfl); intro W_ hs_ hk_; have HM0_ := (by repeat (first | exact HM.out | apply Mem.drewN | apply Mem.drew | apply Mem.alloc)); have n0_ := Mem.set (by repeat (first | exact HM.out | apply Mem.drewN | apply Mem.drew | apply Mem.alloc)) 0 rfl hs_ hk_; simp only [List.set_cons_zero, List.set_cons_succ] at n0_; clear HM hs_; have HM := Aside0.mk n0_; clear n0_; have n1_ := Aside0.mk (Kd.R_mono (R_kept (Kd.R_types HO.out (Mem.get HM0_ 0 rfl) (by decide)) hk_ (fun _ hk => hk.2)) (fun _ _ => trivial)); clear HO HM0_; have HO := n1_; clear n1_; clear b19; obtain ⟨e0, e1, e2, e3, e4, e5, e6, e7, e8, e9⟩ := cells10_ (Mem.get HM.out 0 rfl); clear hk_) | (go_at_call 29; refine (corebankref45_moves.calls k2 ((rd_T54 l0_19 x15).f0) ((rd_T54 l0_19 x15).f1) ((rd_T54 l0_19 x15).f2) ((rd_T54 l0_19 x15).f3) ((rd_T54 l0_19 x15).f4) ((rd_T54 l0_19 x15).f5) ((rd_T54 l0_19 x15).f6) ((rd_T54 l0_19 x15).f7) A8 c8 ((rd_T54 l0_19 x15).f8) ((rd_T54 l0_19 x15).f9) a1 true _ (Kd.C_below HI.out (Mem.below (by repeat (first | exact HM.out | apply Mem.drewN | apply Mem.drew | apply Mem.alloc)))) HJ.out A1.out).mono ?_; rintro e W_m ⟨rfl, hb_⟩; have n1_ := Aside0.mk (Kd.R_below (by (with_reducible repeat (first | apply Kd.R_alloc | apply Kd.R_drewN | apply Kd.R_drew)); exact HO.out) hb_); clear HO; have HO := n1_; clear n1_; have n0_ := Mem.later (by repeat (first | exact HM.out | apply Mem.drewN | apply Mem.drew | apply Mem.alloc)) hb_; clear HM; have HM := Aside0.mk n0_; clear n0_; clear hb_ e0 e1 e2 e3 e4 e5 e6 e7 e8 e9))
                refine start_ (n := 21) (S := fun w' => w'.cell? ⟨S, 6, none⟩ = some (.slice Ao ls.length co) ∧ w'.cell? ⟨E, 0, none⟩ = some (.int .i64 ((rd_T54 l0_19 x15).f0)) ∧ w'.cell? ⟨E, 1, none⟩ = some (.int .i64 ((rd_T54 l0_19 x15).f1)) ∧ w'.cell? ⟨E, 7, none⟩ = some (.string ((rd_T54 l0_19 x15).f7)) ∧ w'.cell? ⟨BK, 19, none⟩ = some (.slice (some ad) l0_19.length c0_19)) (ds := [20]) #[false, false, false, false, false, false, false, false, false, false, false, false, false, false, false, false, false, false, false, false, false] (by kernel_rfl) rfl rfl ⟨Mem.cellv (by repeat (first | exact HM.out | apply Mem.drewN | apply Mem.drew | apply Mem.alloc)) 1 rfl 6 rfl, Mem.cellv (by repeat (first | exact HM.out | apply Mem.drewN | apply Mem.drew | apply Mem.alloc)) 0 rfl 0 rfl, Mem.cellv (by repeat (first | exact HM.out | apply Mem.drewN | apply Mem.drew | apply Mem.alloc)) 0 rfl 1 rfl, Mem.cellv (by repeat (first | exact HM.out | apply Mem.drewN | apply Mem.drew | apply Mem.alloc)) 0 rfl 7 rfl, Mem.cellv (by repeat (first | exact HM.out | apply Mem.drewN | apply Mem.drew | apply Mem.alloc)) 4 rfl 19 rfl⟩ (fun hHeld => ?_); refine with_tabW corebankref45_Make.tab14 corebankref45_Make.bits14 (fun HT_ HW_ => ?_)
                refine pure_ (i := 0) (N := some 91) (v := ?_) (a' := ?_) #[true, false, false, false, false, false, false, false, false, false, false, false, false, false, false, false, false, false, false, false, false] rfl rfl (any_of HT_.out (by kernel_rfl)) (fun _ _ _ h => h) (Or.inl ⟨by rfl, ?_⟩) ?_ ?_
                rotate_left
                · intro w'
                  go_simp
                  with_reducible rfl
                rotate_left
                · simp only [Act.put, List.setIfInBounds_toArray, List.set_cons_zero, List.set_cons_succ, i64_w, i32_w]
                  rfl
                refine pure_ (i := 2) (N := some 93) (v := ?_) (a' := ?_) #[true, false, true, false, false, false, false, false, false, false, false, false, false, false, false, false, false, false, false, false, false] rfl rfl (any_of HT_.out (by kernel_rfl)) (fun _ _ _ h => h) (Or.inl ⟨by rfl, ?_⟩) ?_ ?_
                rotate_left
                · intro w'
                  go_simp
                  with_reducible rfl
                rotate_left
                · simp only [Act.put, List.setIfInBounds_toArray, List.set_cons_zero, List.set_cons_succ, i64_w, i32_w]
                  rfl
                refine pure_ (i := 4) (N := some 95) (v := ?_) (a' := ?_) #[true, false, true, false, true, false, false, false, false, false, false, false, false, false, false, false, false, false, false, false, false] rfl rfl (any_of HT_.out (by kernel_rfl)) (fun _ _ _ h => h) (Or.inl ⟨by rfl, ?_⟩) ?_ ?_
                rotate_left
                · intro w'
                  go_simp
                  with_reducible rfl
                rotate_left
                · simp only [Act.put, List.setIfInBounds_toArray, List.set_cons_zero, List.set_cons_succ, i64_w, i32_w]
                  rfl
                refine pure_ (i := 6) (N := some 97) (v := ?_) (a' := ?_) #[true, false, true, false, true, false, true, false, false, false, false, false, false, false, false, false, false, false, false, false, false] rfl rfl (any_of HT_.out (by kernel_rfl)) (fun _ _ _ h => h) (Or.inl ⟨by rfl, ?_⟩) ?_ ?_
                rotate_left
                · intro w'
                  go_simp
                  with_reducible rfl
                rotate_left
                · simp only [Act.put, List.setIfInBounds_toArray, List.set_cons_zero, List.set_cons_succ, i64_w, i32_w]
                  rfl
                refine pure_ (i := 8) (N := some 99) (v := ?_) (a' := ?_) #[true, false, true, false, true, false, true, false, true, false, false, false, false, false, false, false, false, false, false, false, false] rfl rfl (any_of HT_.out (by kernel_rfl)) (fun _ _ _ h => h) (Or.inl ⟨by rfl, ?_⟩) ?_ ?_
                rotate_left
                · intro w'
                  go_simp
                  with_reducible rfl
                rotate_left
                · simp only [Act.put, List.setIfInBounds_toArray, List.set_cons_zero, List.set_cons_succ, i64_w, i32_w]
                  rfl
                refine pure_ (i := 9) (N := some 100) (v := ?_) (a' := ?_) #[true, false, true, false, true, false, true, false, true, true, false, false, false, false, false, false, false, false, false, false, false] rfl rfl (any_of HT_.out (by kernel_rfl)) (fun _ _ _ h => h) (Or.inl ⟨by rfl, ?_⟩) ?_ ?_
                rotate_left
                · intro w'
                  go_simp
                  with_reducible rfl
                rotate_left
                · simp only [Act.put, List.setIfInBounds_toArray, List.set_cons_zero, List.set_cons_succ, i64_w, i32_w]
                  rfl
                refine pure_ (i := 10) (N := some 101) (v := ?_) (a' := ?_) #[true, false, true, false, true, false, true, false, true, true, true, false, false, false, false, false, false, false, false, false, false] rfl rfl (any_of HT_.out (by kernel_rfl)) (fun _ _ _ h => h) (Or.inl ⟨by rfl, ?_⟩) ?_ ?_
                rotate_left
                · intro w'
                  go_simp
                  with_reducible rfl
                rotate_left
                · simp only [Act.put, List.setIfInBounds_toArray, List.set_cons_zero, List.set_cons_succ, i64_w, i32_w]
                  rfl
                refine pure_ (i := 12) (N := some 103) (v := ?_) (a' := ?_) #[true, false, true, false, true, false, true, false, true, true, true, false, true, false, false, false, false, false, false, false, false] rfl rfl (any_of HT_.out (by kernel_rfl)) (fun _ _ _ h => h) (Or.inl ⟨by rfl, ?_⟩) ?_ ?_
                rotate_left
                · intro w'
                  go_simp
                  with_reducible rfl
                rotate_left
                · simp only [Act.put, List.setIfInBounds_toArray, List.set_cons_zero, List.set_cons_succ, i64_w, i32_w]
                  rfl
                refine pure_ (i := 14) (N := some 105) (v := ?_) (a' := ?_) #[true, false, true, false, true, false, true, false, true, true, true, false, true, false, true, false, false, false, false, false, false] rfl rfl (any_of HT_.out (by kernel_rfl)) (fun _ _ _ h => h) (Or.inl ⟨by rfl, ?_⟩) ?_ ?_
                rotate_left
                · intro w'
                  go_simp
                  with_reducible rfl
                rotate_left
                · simp only [Act.put, List.setIfInBounds_toArray, List.set_cons_zero, List.set_cons_succ, i64_w, i32_w]
                  rfl
                refine take_ (i := 1) (N := some 92) (v := ?_) (a' := ?_) #[true, true, true, false, true, false, true, false, true, true, true, false, true, false, true, false, false, false, false, false, false] rfl rfl (take_ofW HT_.out HW_.out (by kernel_rfl)) (fun _ _ _ h => h) (Or.inl ⟨by rfl, ?_⟩) hHeld ?_ ?_
                rotate_left
                · rintro w' ⟨s0_, s1_, s2_, s3_, s4_⟩
                  go_simp
                  with_reducible rfl
                rotate_left
                · simp only [Act.put, List.setIfInBounds_toArray, List.set_cons_zero, List.set_cons_succ, i64_w, i32_w]
                  rfl
                refine take_ (i := 3) (N := some 94) (v := ?_) (a' := ?_) #[true, true, true, true, true, false, true, false, true, true, true, false, true, false, true, false, false, false, false, false, false] rfl rfl (take_ofW HT_.out HW_.out (by kernel_rfl)) (fun _ _ _ h => h) (Or.inl ⟨by rfl, ?_⟩) hHeld ?_ ?_
                rotate_left
                · rintro w' ⟨s0_, s1_, s2_, s3_, s4_⟩
                  go_simp
                  with_reducible rfl
                rotate_left
                · simp only [Act.put, List.setIfInBounds_toArray, List.set_cons_zero, List.set_cons_succ, i64_w, i32_w]
                  rfl
                refine take_ (i := 5) (N := some 96) (v := ?_) (a' := ?_) #[true, true, true, true, true, true, true, false, true, true, true, false, true, false, true, false, false, false, false, false, false] rfl rfl (take_ofW HT_.out HW_.out (by kernel_rfl)) (fun _ _ _ h => h) (Or.inl ⟨by rfl, ?_⟩) hHeld ?_ ?_
                rotate_left
                · rintro w' ⟨s0_, s1_, s2_, s3_, s4_⟩
                  go_simp
                  with_reducible rfl
                rotate_left
                · simp only [Act.put, List.setIfInBounds_toArray, List.set_cons_zero, List.set_cons_succ, i64_w, i32_w]
                  rfl
                refine take_ (i := 7) (N := some 98) (v := ?_) (a' := ?_) #[true, true, true, true, true, true, true, true, true, true, true, false, true, false, true, false, false, false, false, false, false] rfl rfl (take_ofW HT_.out HW_.out (by kernel_rfl)) (fun _ _ _ h => h) (Or.inl ⟨by rfl, ?_⟩) hHeld ?_ ?_
                rotate_left
                · rintro w' ⟨s0_, s1_, s2_, s3_, s4_⟩
                  go_simp
                  with_reducible rfl
                rotate_left
                · simp only [Act.put, List.setIfInBounds_toArray, List.set_cons_zero, List.set_cons_succ, i64_w, i32_w]
                  rfl
                refine pure_ (i := 11) (N := some 102) (v := ?_) (a' := ?_) #[true, true, true, true, true, true, true, true, true, true, true, true, true, false, true, false, false, false, false, false, false] rfl rfl (any_of HT_.out (by kernel_rfl)) (fun _ _ _ h => h) (Or.inl ⟨by rfl, ?_⟩) ?_ ?_
                rotate_left
                · intro w'
                  go_simp
                  with_reducible rfl
                rotate_left
                · simp only [Act.put, List.setIfInBounds_toArray, List.set_cons_zero, List.set_cons_succ, i64_w, i32_w]
                  rfl
                refine take_ (i := 15) (N := some 106) (v := ?_) (a' := ?_) #[true, true, true, true, true, true, true, true, true, true, true, true, true, false, true, true, false, false, false, false, false] rfl rfl (take_ofW HT_.out HW_.out (by kernel_rfl)) (fun _ _ _ h => h) (Or.inl ⟨by rfl, ?_⟩) hHeld ?_ ?_
                rotate_left
                · rintro w' ⟨s0_, s1_, s2_, s3_, s4_⟩
                  go_simp
                  with_reducible rfl
                rotate_left
                · simp only [Act.put, List.setIfInBounds_toArray, List.set_cons_zero, List.set_cons_succ, i64_w, i32_w]
                  rfl
                refine one_ (i := 13) (N := some 104) #[true, true, true, true, true, true, true, true, true, true, true, true, true, true, true, true, false, false, false, false, false] rfl rfl (one_of HT_.out (by kernel_rfl)) (by decide) (fun K hK => ?_)
                refine goes_ Tryd.func27 (by kernel_rfl) rfl #[.slice A73 yl.length c73, .int .i64 a1] (by rfl) rfl rfl (by (try simp only [List.map_toArray, List.map_cons, List.map_nil]); first | done | rfl) ?_
                with_reducible refine (corebankref21_Of.calls k2 _ _ yl a1 t268 _ ?side1 ?side2 HA2.out).mono ?_
                (case side1 => exact Kd.C_below HRY.out (Mem.below (by repeat (first | exact HM.out | apply Mem.drewN | apply Mem.drew | apply Mem.alloc))))
                (case side2 => exact HCY.out)
                rintro e W_o ⟨rfl, hb_⟩
                refine ⟨_, rfl, ?_⟩
                have n1_ := Aside0.mk (Kd.R_below (by (with_reducible repeat (first | apply Kd.R_alloc | apply Kd.R_drewN | apply Kd.R_drew)); exact HO.out) hb_)
                clear HO
                have HO := n1_
                clear n1_
                have n0_ := Mem.later (by repeat (first | exact HM.out | apply Mem.drewN | apply Mem.drew | apply Mem.alloc)) hb_
                clear HM
                have HM := Aside0.mk n0_
                clear n0_ hb_
                refine hK.out _ _ ⟨Mem.cellv (by repeat (first | exact HM.out | apply Mem.drewN | apply Mem.drew | apply Mem.alloc)) 1 rfl 6 rfl, Mem.cellv (by repeat (first | exact HM.out | apply Mem.drewN | apply Mem.drew | apply Mem.alloc)) 0 rfl 0 rfl, Mem.cellv (by repeat (first | exact HM.out | apply Mem.drewN | apply Mem.drew | apply Mem.alloc)) 0 rfl 1 rfl, Mem.cellv (by repeat (first | exact HM.out | apply Mem.drewN | apply Mem.drew | apply Mem.alloc)) 0 rfl 7 rfl, Mem.cellv (by repeat (first | exact HM.out | apply Mem.drewN | apply Mem.drew | apply Mem.alloc)) 4 rfl 19 rfl⟩ (fun hHeld => ?_)
                clear hK K
                refine norm_ (a' := ?_) ?_ ?_
                rotate_left
                · show Act.put _ (some 104) _ = _
                  simp only [Act.put, List.setIfInBounds_toArray, List.set_cons_zero, List.set_cons_succ, i64_w, i32_w]
                  rfl
                refine pure_ (i := 16) (N := some 107) (v := ?_) (a' := ?_) #[true, true, true, true, true, true, true, true, true, true, true, true, true, true, true, true, true, false, false, false, false] rfl rfl (any_of HT_.out (by kernel_rfl)) (fun _ _ _ h => h) (Or.inl ⟨by rfl, ?_⟩) ?_ ?_
                rotate_left
                · intro w'
                  go_simp
                  with_reducible rfl
                rotate_left
                · simp only [Act.put, List.setIfInBounds_toArray, List.set_cons_zero, List.set_cons_succ, i64_w, i32_w]
                  rfl
                refine one_ (i := 17) (N := some 108) #[true, true, true, true, true, true, true, true, true, true, true, true, true, true, true, true, true, true, false, false, false] rfl rfl (one_of HT_.out (by kernel_rfl)) (by decide) (fun K hK => ?_)
                refine value_ (w1 := ?_) (v := ?_) (by rfl) rfl ?_ ?_
                rotate_left 2
                · go_simp
                  constructor
                  · rfl
                  · rfl
                refine hK.out _ _ ⟨Mem.cellv (by repeat (first | exact HM.out | apply Mem.drewN | apply Mem.drew | apply Mem.alloc)) 1 rfl 6 rfl, Mem.cellv (by repeat (first | exact HM.out | apply Mem.drewN | apply Mem.drew | apply Mem.alloc)) 0 rfl 0 rfl, Mem.cellv (by repeat (first | exact HM.out | apply Mem.drewN | apply Mem.drew | apply Mem.alloc)) 0 rfl 1 rfl, Mem.cellv (by repeat (first | exact HM.out | apply Mem.drewN | apply Mem.drew | apply Mem.alloc)) 0 rfl 7 rfl, Mem.cellv (by repeat (first | exact HM.out | apply Mem.drewN | apply Mem.drew | apply Mem.alloc)) 4 rfl 19 rfl⟩ (fun hHeld => ?_)
                clear hK K
                refine norm_ (a' := ?_) ?_ ?_
                rotate_left
                · show Act.put _ (some 108) _ = _
                  simp only [Act.put, List.setIfInBounds_toArray, List.set_cons_zero, List.set_cons_succ, i64_w, i32_w]
                  rfl
                refine one_ (i := 18) (N := some 109) #[true, true, true, true, true, true, true, true, true, true, true, true, true, true, true, true, true, true, true, false, false] rfl rfl (one_of HT_.out (by kernel_rfl)) (by decide) (fun K hK => ?_)
                refine Kd.R_append_step k66 (w0 := w) w.heap.size (by rfl) (.tmp 92) (.tmp 108) 38 66 (.agg #[(.int .i64 0), (.int .i64 0), (.int .i64 0), (.string ⟨#[]⟩)]) 40 rfl Tryd.underlying38 info66 rfl (by decide) (by omega) (.slice Ao ls.length co) ls (⟨((rd_T54 l0_19 x15).f0), ((rd_T54 l0_19 x15).f1), t268, ((rd_T54 l0_19 x15).f7)⟩ : S66) [.int .i64 ((rd_T54 l0_19 x15).f0), .int .i64 ((rd_T54 l0_19 x15).f1), .int .i64 t268, .string ((rd_T54 l0_19 x15).f7)] (fun _ => True) (fun _ => False) rfl rfl ?aP (fun _ hk => hk.elim) ?aF ?aO ?aB ?aS ?aL ?_
                (case aP => exact k66_mkM _ _ _ (⟨((rd_T54 l0_19 x15).f0), ((rd_T54 l0_19 x15).f1), t268, ((rd_T54 l0_19 x15).f7)⟩ : S66))
                (case aB => exact Mem.below (by repeat (first | exact HM.out | apply Mem.drewN | apply Mem.drew | apply Mem.alloc)))
                (case aF => exact (fun _ _ => trivial))
                (case aO => exact (by (with_reducible repeat (first | apply Kd.R_alloc | apply Kd.R_drewN | apply Kd.R_drew)); exact HO.out))
                (case aS => exact Mem.size (by repeat (first | exact HM.out | apply Mem.drewN | apply Mem.drew | apply Mem.alloc)))
                (case aL => have := hlen.out; omega)
                intro v153 W_a ho hb hg hat
                rw [← HY.out] at ho
                obtain ⟨Ap, cp, ep⟩ := Kd.R_slice ho
                subst ep
                have n0_ := Mem.grownR (by repeat (first | exact HM.out | apply Mem.drewN | apply Mem.drew | apply Mem.alloc)) (by (with_reducible repeat (first | apply Kd.R_alloc | apply Kd.R_drewN | apply Kd.R_drew)); exact HO.out) hb hg rfl
                clear HM
                have HM := Aside0.mk n0_
                clear n0_ hb hg hat HO
                have HO := Aside0.mk ho
                clear ho
                refine hK.out _ _ ⟨Mem.cellv (by repeat (first | exact HM.out | apply Mem.drewN | apply Mem.drew | apply Mem.alloc)) 1 rfl 6 rfl, Mem.cellv (by repeat (first | exact HM.out | apply Mem.drewN | apply Mem.drew | apply Mem.alloc)) 0 rfl 0 rfl, Mem.cellv (by repeat (first | exact HM.out | apply Mem.drewN | apply Mem.drew | apply Mem.alloc)) 0 rfl 1 rfl, Mem.cellv (by repeat (first | exact HM.out | apply Mem.drewN | apply Mem.drew | apply Mem.alloc)) 0 rfl 7 rfl, Mem.cellv (by repeat (first | exact HM.out | apply Mem.drewN | apply Mem.drew | apply Mem.alloc)) 4 rfl 19 rfl⟩ (fun hHeld => ?_)
                clear hK K
                refine norm_ (a' := ?_) ?_ ?_
                rotate_left
                · show Act.put _ (some 109) _ = _
                  simp only [Act.put, List.setIfInBounds_toArray, List.set_cons_zero, List.set_cons_succ, i64_w, i32_w]
                  rfl
                refine pure_ (i := 19) (N := some 110) (v := ?_) (a' := ?_) #[true, true, true, true, true, true, true, true, true, true, true, true, true, true, true, true, true, true, true, true, false] rfl rfl (any_of HT_.out (by kernel_rfl)) (fun _ _ _ h => h) (Or.inl ⟨by rfl, ?_⟩) ?_ ?_
                rotate_left
                · intro w'
                  go_simp
                  with_reducible rfl
                rotate_left
                · simp only [Act.put, List.setIfInBounds_toArray, List.set_cons_zero, List.set_cons_succ, i64_w, i32_w]
                  rfl
                refine last_ (i := 20) (N := none) #[true, true, true, true, true, true, true, true, true, true, true, true, true, true, true, true, true, true, true, true, true] rfl rfl (one_of HT_.out (by kernel_rfl)) (by decide) (fun K hK => ?_)
                have hs77 := Mem.cellv HM.out 1 rfl 6 (u := .slice Ao ls.length co) rfl
                have hfs77 := Mem.froz HM.out 1 rfl 6
                refine skip_ (w1 := ?_) (by rfl) rfl ?_ ?_
                rotate_left
                · go_simp
                  rfl
                refine hK.out _ _ ?_
                clear hK K
                refine done_ (done_of HT_.out (by kernel_rfl)) ?_
                go_wp2
                go_roundg k2
                case measure => omega
                case rel => exact ⟨x15 + 1, y, .slice Ap y.length cp, rfl, H, ⟨by (with_reducible repeat (first | apply Kd.R_alloc | apply Kd.R_drewN | apply Kd.R_drew)); exact (Kd.R_mono (Kd.R_far (p := ⟨S, 6, none⟩) (Kd.R_types HO.out (Mem.get HM.out 1 rfl) (by decide)) (fun _ hk => hk.2) (.slice Ap y.length cp)) (fun _ _ => trivial))⟩, ⟨Mem.tail (Mem.cast (Mem.setCell (by repeat (first | exact HM.out | apply Mem.drewN | apply Mem.drew | apply Mem.alloc)) 1 rfl 6 (.slice Ap y.length cp)) rfl)⟩⟩
              · rw [if_neg c5] at H; exact absurd H (by simp)
            | false =>
              rw [if_neg (by decide)] at H
              have H := Aside0.mk H
              have c3b : decide (a3 ≤ ((rd_T54 l0_19 x15).f1)) = true := decide_eq_true c3
              have c4b : decide (((rd_T54 l0_19 x15).f1) ≤ a4) = true := decide_eq_true c4
              have H2 := Aside0.mk hw1
              clear c1 c2 c3 c4 hw1 hmx
              go_wp2_with (first | ((with_reducible refine gate_dst (N := 16) rfl ?_); refine box_event ?hg (N := 16) ?hd (cs := #[.int .i64 0, .int .i64 0, .int .i64 0, .int .i64 0, .int .i64 0, .int .i64 0, .string (⟨#[]⟩ : ByteArray), .string (⟨#[]⟩ : ByteArray), .slice none 0 0, .int .u64 0]) (t := 54) ?hr ?_; (case hd => rfl); (case hg => rfl); (case hr => first | (go_simp; done) | (go_simp; rfl)); intro E hg_ W_E hk_ hB_; have n0_ := Mem.box (by repeat (first | exact HM.out | apply Mem.drewN | apply Mem.drew | apply Mem.alloc)) hg_ hB_ hk_; clear HM; have HM := Aside0.mk n0_; clear n0_; clear hk_ hg_; have n1_ := Aside0.mk (Kd.R_below (by (with_reducible repeat (first | apply Kd.R_alloc | apply Kd.R_drewN | apply Kd.R_drew)); exact HO.out) hB_); clear HO hB_; have HO := n1_; clear n1_) | ((with_reducible refine gate_store_ (t := 54) (x := .tmp 16) (y := .tmp 75) rfl ?_); refine store_event ?hgd 54 (.tmp 16) (.tmp 75) rfl ?hdst _ #[.int .i64 ((rd_T54 l0_19 x15).f0), .int .i64 ((rd_T54 l0_19 x15).f1), .int .i64 ((rd_T54 l0_19 x15).f2), .int .i64 ((rd_T54 l0_19 x15).f3), .int .i64 ((rd_T54 l0_19 x15).f4), .int .i64 ((rd_T54 l0_19 x15).f5), .string ((rd_T54 l0_19 x15).f6), .string ((rd_T54 l0_19 x15).f7), .slice A8 ((rd_T54 l0_19 x15).f8).length c8, .int .u64 ((rd_T54 l0_19 x15).f9)] ?hx ?hy 54 _ (Mem.get (by repeat (first | exact HM.out | apply Mem.drewN | apply Mem.drew | apply Mem.alloc)) 0 rfl) ?hi ?hold ?h1 ?_; (case hgd => rfl); (case hdst => rfl); (case hx => rfl); (case hy => first | rfl | (go_simp; done) | (go_simp; rfl)); (case hi => kernel_rfl); (case hold => rfl); (case h1 => rfl); intro W_ hs_ hk_; have HM0_ := (by repeat (first | exact HM.out | apply Mem.drewN | apply Mem.drew | apply Mem.alloc)); have n0_ := Mem.set (by repeat (first | exact HM.out | apply Mem.drewN | apply Mem.drew | apply Mem.alloc)) 0 rfl hs_ hk_; simp only [List.set_cons_zero, List.set_cons_succ] at n0_; clear HM hs_; have HM := Aside0.mk n0_; clear n0_; have n1_ := Aside0.mk (Kd.R_mono (R_kept (Kd.R_types HO.out (Mem.get HM0_ 0 rfl) (by decide)) hk_ (fun _ hk => hk.2)) (fun _ _ => trivial)); clear HO HM0_; have HO := n1_; clear n1_; clear b19; obtain ⟨e0, e1, e2, e3, e4, e5, e6, e7, e8, e9⟩ := cells10_ (Mem.get HM.out 0 rfl); clear hk_) | (go_at_call 29; refine (corebankref45_moves.calls k2 ((rd_T54 l0_19 x15).f0) ((rd_T54 l0_19 x15).f1) ((rd_T54 l0_19 x15).f2) ((rd_T54 l0_19 x15).f3) ((rd_T54 l0_19 x15).f4) ((rd_T54 l0_19 x15).f5) ((rd_T54 l0_19 x15).f6) ((rd_T54 l0_19 x15).f7) A8 c8 ((rd_T54 l0_19 x15).f8) ((rd_T54 l0_19 x15).f9) a1 false _ (Kd.C_below HI.out (Mem.below (by repeat (first | exact HM.out | apply Mem.drewN | apply Mem.drew | apply Mem.alloc)))) HJ.out A1.out).mono ?_; rintro e W_m ⟨rfl, hb_⟩; have n1_ := Aside0.mk (Kd.R_below (by (with_reducible repeat (first | apply Kd.R_alloc | apply Kd.R_drewN | apply Kd.R_drew)); exact HO.out) hb_); clear HO; have HO := n1_; clear n1_; have n0_ := Mem.later (by repeat (first | exact HM.out | apply Mem.drewN | apply Mem.drew | apply Mem.alloc)) hb_; clear HM; have HM := Aside0.mk n0_; clear n0_; clear hb_ e0 e1 e2 e3 e4 e5 e6 e7 e8 e9))
              go_roundg k2
              case measure => omega
              case rel => exact ⟨x15 + 1, ls, .slice Ao ls.length co, by rw [H2.out], H, ⟨(by (with_reducible repeat (first | apply Kd.R_alloc | apply Kd.R_drewN | apply Kd.R_drew)); exact HO.out)⟩, ⟨Mem.tail (by repeat (first | exact HM.out | apply Mem.drewN | apply Mem.drew | apply Mem.alloc))⟩⟩
          · rw [if_neg c4] at H
            have H := Aside0.mk H
            have c3b : decide (a3 ≤ ((rd_T54 l0_19 x15).f1)) = true := decide_eq_true c3
            have c4b : decide (((rd_T54 l0_19 x15).f1) ≤ a4) = false := decide_eq_false c4
            have H2 := Aside0.mk hw1
            clear c1 c2 c3 c4 hw1 hmx
            go_wp2_with (first | ((with_reducible refine gate_dst (N := 16) rfl ?_); refine box_event ?hg (N := 16) ?hd (cs := #[.int .i64 0, .int .i64 0, .int .i64 0, .int .i64 0, .int .i64 0, .int .i64 0, .string (⟨#[]⟩ : ByteArray), .string (⟨#[]⟩ : ByteArray), .slice none 0 0, .int .u64 0]) (t := 54) ?hr ?_; (case hd => rfl); (case hg => rfl); (case hr => first | (go_simp; done) | (go_simp; rfl)); intro E hg_ W_E hk_ hB_; have n0_ := Mem.box (by repeat (first | exact HM.out | apply Mem.drewN | apply Mem.drew | apply Mem.alloc)) hg_ hB_ hk_; clear HM; have HM := Aside0.mk n0_; clear n0_; clear hk_ hg_; have n1_ := Aside0.mk (Kd.R_below (by (with_reducible repeat (first | apply Kd.R_alloc | apply Kd.R_drewN | apply Kd.R_drew)); exact HO.out) hB_); clear HO hB_; have HO := n1_; clear n1_) | ((with_reducible refine gate_store_ (t := 54) (x := .tmp 16) (y := .tmp 75) rfl ?_); refine store_event ?hgd 54 (.tmp 16) (.tmp 75) rfl ?hdst _ #[.int .i64 ((rd_T54 l0_19 x15).f0), .int .i64 ((rd_T54 l0_19 x15).f1), .int .i64 ((rd_T54 l0_19 x15).f2), .int .i64 ((rd_T54 l0_19 x15).f3), .int .i64 ((rd_T54 l0_19 x15).f4), .int .i64 ((rd_T54 l0_19 x15).f5), .string ((rd_T54 l0_19 x15).f6), .string ((rd_T54 l0_19 x15).f7), .slice A8 ((rd_T54 l0_19 x15).f8).length c8, .int .u64 ((rd_T54 l0_19 x15).f9)] ?hx ?hy 54 _ (Mem.get (by repeat (first | exact HM.out | apply Mem.drewN | apply Mem.drew | apply Mem.alloc)) 0 rfl) ?hi ?hold ?h1 ?_; (case hgd => rfl); (case hdst => rfl); (case hx => rfl); (case hy => first | rfl | (go_simp; done) | (go_simp; rfl)); (case hi => kernel_rfl); (case hold => rfl); (case h1 => rfl); intro W_ hs_ hk_; have HM0_ := (by repeat (first | exact HM.out | apply Mem.drewN | apply Mem.drew | apply Mem.alloc)); have n0_ := Mem.set (by repeat (first | exact HM.out | apply Mem.drewN | apply Mem.drew | apply Mem.alloc)) 0 rfl hs_ hk_; simp only [List.set_cons_zero, List.set_cons_succ] at n0_; clear HM hs_; have HM := Aside0.mk n0_; clear n0_; have n1_ := Aside0.mk (Kd.R_mono (R_kept (Kd.R_types HO.out (Mem.get HM0_ 0 rfl) (by decide)) hk_ (fun _ hk => hk.2)) (fun _ _ => trivial)); clear HO HM0_; have HO := n1_; clear n1_; clear b19; obtain ⟨e0, e1, e2, e3, e4, e5, e6, e7, e8, e9⟩ := cells10_ (Mem.get HM.out 0 rfl); clear hk_))
            go_roundg k2
            case measure => omega
            case rel => exact ⟨x15 + 1, ls, .slice Ao ls.length co, by rw [H2.out], H, ⟨(by (with_reducible repeat (first | apply Kd.R_alloc | apply Kd.R_drewN | apply Kd.R_drew)); exact HO.out)⟩, ⟨Mem.tail (by repeat (first | exact HM.out | apply Mem.drewN | apply Mem.drew | apply Mem.alloc))⟩⟩
        · rw [if_neg c3] at H
          have H := Aside0.mk H
          have c3b : decide (a3 ≤ ((rd_T54 l0_19 x15).f1)) = false := decide_eq_false c3
          have H2 := Aside0.mk hw1
          clear c1 c2 c3 hw1 hmx
          go_wp2_with (first | ((with_reducible refine gate_dst (N := 16) rfl ?_); refine box_event ?hg (N := 16) ?hd (cs := #[.int .i64 0, .int .i64 0, .int .i64 0, .int .i64 0, .int .i64 0, .int .i64 0, .string (⟨#[]⟩ : ByteArray), .string (⟨#[]⟩ : ByteArray), .slice none 0 0, .int .u64 0]) (t := 54) ?hr ?_; (case hd => rfl); (case hg => rfl); (case hr => first | (go_simp; done) | (go_simp; rfl)); intro E hg_ W_E hk_ hB_; have n0_ := Mem.box (by repeat (first | exact HM.out | apply Mem.drewN | apply Mem.drew | apply Mem.alloc)) hg_ hB_ hk_; clear HM; have HM := Aside0.mk n0_; clear n0_; clear hk_ hg_; have n1_ := Aside0.mk (Kd.R_below (by (with_reducible repeat (first | apply Kd.R_alloc | apply Kd.R_drewN | apply Kd.R_drew)); exact HO.out) hB_); clear HO hB_; have HO := n1_; clear n1_) | ((with_reducible refine gate_store_ (t := 54) (x := .tmp 16) (y := .tmp 75) rfl ?_); refine store_event ?hgd 54 (.tmp 16) (.tmp 75) rfl ?hdst _ #[.int .i64 ((rd_T54 l0_19 x15).f0), .int .i64 ((rd_T54 l0_19 x15).f1), .int .i64 ((rd_T54 l0_19 x15).f2), .int .i64 ((rd_T54 l0_19 x15).f3), .int .i64 ((rd_T54 l0_19 x15).f4), .int .i64 ((rd_T54 l0_19 x15).f5), .string ((rd_T54 l0_19 x15).f6), .string ((rd_T54 l0_19 x15).f7), .slice A8 ((rd_T54 l0_19 x15).f8).length c8, .int .u64 ((rd_T54 l0_19 x15).f9)] ?hx ?hy 54 _ (Mem.get (by repeat (first | exact HM.out | apply Mem.drewN | apply Mem.drew | apply Mem.alloc)) 0 rfl) ?hi ?hold ?h1 ?_; (case hgd => rfl); (case hdst => rfl); (case hx => rfl); (case hy => first | rfl | (go_simp; done) | (go_simp; rfl)); (case hi => kernel_rfl); (case hold => rfl); (case h1 => rfl); intro W_ hs_ hk_; have HM0_ := (by repeat (first | exact HM.out | apply Mem.drewN | apply Mem.drew | apply Mem.alloc)); have n0_ := Mem.set (by repeat (first | exact HM.out | apply Mem.drewN | apply Mem.drew | apply Mem.alloc)) 0 rfl hs_ hk_; simp only [List.set_cons_zero, List.set_cons_succ] at n0_; clear HM hs_; have HM := Aside0.mk n0_; clear n0_; have n1_ := Aside0.mk (Kd.R_mono (R_kept (Kd.R_types HO.out (Mem.get HM0_ 0 rfl) (by decide)) hk_ (fun _ hk => hk.2)) (fun _ _ => trivial)); clear HO HM0_; have HO := n1_; clear n1_; clear b19; obtain ⟨e0, e1, e2, e3, e4, e5, e6, e7, e8, e9⟩ := cells10_ (Mem.get HM.out 0 rfl); clear hk_))
          go_roundg k2
          case measure => omega
          case rel => exact ⟨x15 + 1, ls, .slice Ao ls.length co, by rw [H2.out], H, ⟨(by (with_reducible repeat (first | apply Kd.R_alloc | apply Kd.R_drewN | apply Kd.R_drew)); exact HO.out)⟩, ⟨Mem.tail (by repeat (first | exact HM.out | apply Mem.drewN | apply Mem.drew | apply Mem.alloc))⟩⟩
      · rw [if_neg c2] at H; exact absurd H (by simp)
    · rw [if_neg c1] at H
      have c1b : decide (x15 < (l0_19.length : Int)) = false := decide_eq_false c1
      clear c1 hmx
      simp only [Option.some.injEq, Prod.mk.injEq] at H
      obtain ⟨rfl, rfl, rfl, rfl, rfl, rfl, rfl, rfl⟩ := H
      go_wp2_with (first | ((with_reducible refine gate_load_ (t := 40) (p := 14) rfl ?_); refine load_event ?hgd 40 (.tmp 14) rfl _ ?hx 40 _ (Mem.get (by repeat (first | exact HM.out | apply Mem.drewN | apply Mem.drew | apply Mem.alloc)) 0 rfl) Tryd.underlying40 rfl ?hi ?_; (case hgd => rfl); (case hx => rfl); (case hi => kernel_rfl)) | ((with_reducible refine gate_store_ (t := 40) (x := .tmp 10) (y := .tmp 111) rfl ?_); refine store_event ?hgd 40 (.tmp 10) (.tmp 111) rfl ?hdst _ #[.int .i64 a1, .int .i64 a2, .int .i64 a3, .int .i64 a4, .int .i64 t256, .int .i64 t260, .slice Ao ls.length co] ?hx ?hy 40 _ (Mem.get (by repeat (first | exact HM.out | apply Mem.drewN | apply Mem.drew | apply Mem.alloc)) 2 rfl) ?hi ?hold ?h1 ?_; (case hgd => rfl); (case hdst => rfl); (case hx => rfl); (case hy => first | rfl | (go_simp; done) | (go_simp; rfl)); (case hi => kernel_rfl); (case hold => rfl); (case h1 => rfl); intro W_ hs_ hk_; have HM0_ := (by repeat (first | exact HM.out | apply Mem.drewN | apply Mem.drew | apply Mem.alloc)); have n0_ := Mem.set (by repeat (first | exact HM.out | apply Mem.drewN | apply Mem.drew | apply Mem.alloc)) 2 rfl hs_ hk_; simp only [List.set_cons_zero, List.set_cons_succ] at n0_; clear HM hs_; have HM := Aside0.mk n0_; clear n0_; have n1_ := Aside0.mk (Kd.R_mono (R_kept (Kd.R_types HO.out (Mem.get HM0_ 2 rfl) (by decide)) hk_ (fun _ hk => hk.2)) (fun _ _ => trivial)); clear HO HM0_; have HO := n1_; clear n1_; clear hk_))
      refine bodyPost_ret (results_ct rfl _ _ RS 40 #[.int .i64 a1, .int .i64 a2, .int .i64 a3, .int .i64 a4, .int .i64 t256, .int .i64 t260, .slice Ao ls.length co] (0, 0) _ rfl (Mem.get (by repeat (first | exact HM.out | apply Mem.drewN | apply Mem.drew | apply Mem.alloc)) 2 rfl) Tryd.underlying40 rfl (by kernel_rfl)) rfl ?_
      exact ⟨_, rfl, HO.out, Mem.below (by repeat (first | exact HM.out | apply Mem.drewN | apply Mem.drew | apply Mem.alloc))⟩

theorem corebankref45_Make.calls (k : Nat) (a0_0 : OV) (a0_1 : OV) (a0_2 : OV) (a0_3 : Int) (a0_4 : Int) (a0_5 : Int) (a0_6 : Int) (a0_7 : Int) (a0_8 : Int) (a0_9 : Int) (a0_10 : Int) (a0_11 : Int) (a0_12 : Int) (a0_13 : Int) (a0_14 : Int) (a0_15 : Int) (a0_16 : Int) (a0_17 : OV) (A0_18 : Option Addr) (c0_18 : Nat) (l0_18 : List (S57)) (A0_19 : Option Addr) (c0_19 : Nat) (l0_19 : List (S54)) (a0_20 : OV) (a0_21 : OV) (a1 a2 a3 a4 : Int) (r1 : Int) (r2 : Int) (r3 : Int) (r4 : Int) (r5 : Int) (r6 : Int) (r7 : List (S66)) (r8 : Int) (w : World) (hr0_18 : Kd.C k57 w A0_18 l0_18.length l0_18) (hc0_18 : l0_18.length ≤ c0_18) (hr0_19 : Kd.C k54 w A0_19 l0_19.length l0_19) (hc0_19 : l0_19.length ≤ c0_19) (h : corebankref45_Make.f k a0_0 a0_1 a0_2 a0_3 a0_4 a0_5 a0_6 a0_7 a0_8 a0_9 a0_10 a0_11 a0_12 a0_13 a0_14 a0_15 a0_16 a0_17 l0_18 l0_19 a0_20 a0_21 a1 a2 a3 a4 = some (r1, r2, r3, r4, r5, r6, r7, r8)) :
    Calls Tryd.prog 11 #[.agg #[a0_0.1, a0_1.1, a0_2.1, .int .i64 a0_3, .int .i64 a0_4, .int .i64 a0_5, .int .i64 a0_6, .int .i64 a0_7, .int .i64 a0_8, .int .i64 a0_9, .int .i64 a0_10, .int .i64 a0_11, .int .i64 a0_12, .int .i64 a0_13, .int .i64 a0_14, .int .i64 a0_15, .int .i64 a0_16, a0_17.1, .slice A0_18 l0_18.length c0_18, .slice A0_19 l0_19.length c0_19, a0_20.1, a0_21.1], .int .i64 a1, .int .i64 a2, .int .i64 a3, .int .i64 a4] w fun e w' => ∃ v6_ : Value, e = .returned (.tuple #[.agg #[.int .i64 r1, .int .i64 r2, .int .i64 r3, .int .i64 r4, .int .i64 r5, .int .i64 r6, v6_], .int .i64 r8]) ∧ Kd.R k66 66 w' w.heap.size (fun _ => True) v6_ r7 ∧ Below w.heap.size w w' := by
  unfold corebankref45_Make.f at h
  obtain ⟨⟨q1, q2, q3, q4, q5, q6, q7, q8⟩, hF, h⟩ := Option.bind_eq_some_iff.1 h
  dsimp only at h
  have j0 : ∀ n b r, corebankref45_Make.j0 n a1 a2 a3 a4 b a0_0 a0_1 a0_2 a0_3 a0_4 a0_5 a0_6 a0_7 a0_8 a0_9 a0_10 a0_11 a0_12 a0_13 a0_14 a0_15 a0_16 a0_17 l0_18 l0_19 a0_20 a0_21 = some r → ∃ m, (if b = true then (some (0, 0, 0, 0, 0, 0, ([] : List (S66)), 1)) else ((corebankref45_before.f m l0_19 (wrap64 (a3 - 1))).bind fun t253 => ((corebankref21_Of.f m t253 a1).bind fun t256 => ((corebankref45_before.f m l0_19 a4).bind fun t257 => ((corebankref21_Of.f m t257 a1).bind fun t260 => (corebankref45_Make.l0 m a1 a3 a4 0 a0_0 a0_1 a0_2 a0_3 a0_4 a0_5 a0_6 a0_7 a0_8 a0_9 a0_10 a0_11 a0_12 a0_13 a0_14 a0_15 a0_16 a0_17 l0_18 l0_19 a0_20 a0_21 a1 a2 a3 a4 t256 t260 ([] : List (S66)))))))) = some r := by
    intro n b r hr
    cases n with
    | zero => simp [corebankref45_Make.j0] at hr
    | succ m => exact ⟨m, by simp only [corebankref45_Make.j0] at hr; exact hr⟩

  cases q8 with
  | false =>
    rw [if_neg (by decide)] at h
    simp only [Option.some.injEq, Prod.mk.injEq] at h
    obtain ⟨rfl, rfl, rfl, rfl, rfl, rfl, rfl, rfl⟩ := h
    exact rmake_none k a0_0 a0_1 a0_2 a0_3 a0_4 a0_5 a0_6 a0_7 a0_8 a0_9 a0_10 a0_11 a0_12 a0_13 a0_14 a0_15 a0_16 a0_17 A0_18 c0_18 l0_18 A0_19 c0_19 l0_19 a0_20 a0_21 a1 a2 a3 a4 q1 q2 q3 q4 q5 q6 q7 ⟨hF⟩ w ⟨hr0_18⟩ ⟨hc0_18⟩ ⟨hr0_19⟩ ⟨hc0_19⟩
  | true =>
    rw [if_pos rfl] at h
    by_cases d1 : a2 < 1
    · rw [if_pos d1] at h
      obtain ⟨m, h⟩ := j0 _ _ _ h
      rw [if_pos rfl] at h
      simp only [Option.some.injEq, Prod.mk.injEq] at h
      obtain ⟨rfl, rfl, rfl, rfl, rfl, rfl, rfl, rfl⟩ := h
      exact rmake_no k a0_0 a0_1 a0_2 a0_3 a0_4 a0_5 a0_6 a0_7 a0_8 a0_9 a0_10 a0_11 a0_12 a0_13 a0_14 a0_15 a0_16 a0_17 A0_18 c0_18 l0_18 A0_19 c0_19 l0_19 a0_20 a0_21 a1 a2 a3 a4 q1 q2 q3 q4 q5 q6 q7 ⟨hF⟩ w ⟨hr0_18⟩ ⟨hc0_18⟩ ⟨hr0_19⟩ ⟨hc0_19⟩ d1
    · rw [if_neg d1] at h
      obtain ⟨v1, hv1, h⟩ := Option.bind_eq_some_iff.1 h
      cases v1 with
      | false =>
        rw [if_neg (by decide)] at h
        obtain ⟨m, h⟩ := j0 _ _ _ h
        rw [if_pos rfl] at h
        simp only [Option.some.injEq, Prod.mk.injEq] at h
        obtain ⟨rfl, rfl, rfl, rfl, rfl, rfl, rfl, rfl⟩ := h
        exact rmake_from k a0_0 a0_1 a0_2 a0_3 a0_4 a0_5 a0_6 a0_7 a0_8 a0_9 a0_10 a0_11 a0_12 a0_13 a0_14 a0_15 a0_16 a0_17 A0_18 c0_18 l0_18 A0_19 c0_19 l0_19 a0_20 a0_21 a1 a2 a3 a4 q1 q2 q3 q4 q5 q6 q7 ⟨hF⟩ w ⟨hr0_18⟩ ⟨hc0_18⟩ ⟨hr0_19⟩ ⟨hc0_19⟩ d1 ⟨hv1⟩
      | true =>
        rw [if_pos rfl] at h
        obtain ⟨v2, hv2, h⟩ := Option.bind_eq_some_iff.1 h
        cases v2 with
        | false =>
          rw [if_neg (by decide)] at h
          obtain ⟨m, h⟩ := j0 _ _ _ h
          rw [if_pos rfl] at h
          simp only [Option.some.injEq, Prod.mk.injEq] at h
          obtain ⟨rfl, rfl, rfl, rfl, rfl, rfl, rfl, rfl⟩ := h
          exact rmake_to k a0_0 a0_1 a0_2 a0_3 a0_4 a0_5 a0_6 a0_7 a0_8 a0_9 a0_10 a0_11 a0_12 a0_13 a0_14 a0_15 a0_16 a0_17 A0_18 c0_18 l0_18 A0_19 c0_19 l0_19 a0_20 a0_21 a1 a2 a3 a4 q1 q2 q3 q4 q5 q6 q7 ⟨hF⟩ w ⟨hr0_18⟩ ⟨hc0_18⟩ ⟨hr0_19⟩ ⟨hc0_19⟩ d1 ⟨hv1⟩ ⟨hv2⟩
        | true =>
          rw [if_pos rfl] at h
          obtain ⟨m, h⟩ := j0 _ _ _ h
          by_cases d2 : a3 > a4
          · rw [if_pos (decide_eq_true d2)] at h
            simp only [Option.some.injEq, Prod.mk.injEq] at h
            obtain ⟨rfl, rfl, rfl, rfl, rfl, rfl, rfl, rfl⟩ := h
            exact rmake_turned k a0_0 a0_1 a0_2 a0_3 a0_4 a0_5 a0_6 a0_7 a0_8 a0_9 a0_10 a0_11 a0_12 a0_13 a0_14 a0_15 a0_16 a0_17 A0_18 c0_18 l0_18 A0_19 c0_19 l0_19 a0_20 a0_21 a1 a2 a3 a4 q1 q2 q3 q4 q5 q6 q7 ⟨hF⟩ w ⟨hr0_18⟩ ⟨hc0_18⟩ ⟨hr0_19⟩ ⟨hc0_19⟩ d1 ⟨hv1⟩ ⟨hv2⟩ d2
          · rw [if_neg (by simpa using d2)] at h
            obtain ⟨t1, hb1, h⟩ := Option.bind_eq_some_iff.1 h
            obtain ⟨t256, ho1, h⟩ := Option.bind_eq_some_iff.1 h
            obtain ⟨t2, hb2, h⟩ := Option.bind_eq_some_iff.1 h
            obtain ⟨t260, ho2, h⟩ := Option.bind_eq_some_iff.1 h
            exact rmake_main k a0_0 a0_1 a0_2 a0_3 a0_4 a0_5 a0_6 a0_7 a0_8 a0_9 a0_10 a0_11 a0_12 a0_13 a0_14 a0_15 a0_16 a0_17 A0_18 c0_18 l0_18 A0_19 c0_19 l0_19 a0_20 a0_21 a1 a2 a3 a4 m q1 q2 q3 q4 q5 q6 q7 ⟨hF⟩ w ⟨hr0_18⟩ ⟨hc0_18⟩ ⟨hr0_19⟩ ⟨hc0_19⟩ d1 ⟨hv1⟩ ⟨hv2⟩ d2 t1 t2 t256 t260 ⟨hb1⟩ ⟨ho1⟩ ⟨hb2⟩ ⟨ho2⟩ m r1 r2 r3 r4 r5 r6 r7 r8 ⟨h⟩

end Go.Proofs.YtimjodgnlahclaaDoor.G
