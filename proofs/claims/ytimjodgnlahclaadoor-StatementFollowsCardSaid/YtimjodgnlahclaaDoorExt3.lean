/-
  statement.Text: its contract: it returns the text of the statement, or the error; all memory that stood before stays. Written by mktext.py, a program of this session.
-/
import Derived.Test.YtimjodgnlahclaaDoorText
import Derived.Deep.RegionHeld3
import Derived.WalkKit
import Derived.WalkSpells
namespace Go.Proofs.YtimjodgnlahclaaDoor.G
open Go.RowKit Go.Proofs.YtimjodgnlahclaaDoorW.PrintWords Go.Proofs.YtimjodgnlahclaaDoorW.PrintLast Go.Proofs.YtimjodgnlahclaaDoorW.PrintMore
set_option linter.unusedVariables false
set_option linter.unusedSimpArgs false

set_option maxHeartbeats 4000000 in
set_option maxRecDepth 100000 in
theorem text_bad (k : Nat) (a0_0 a0_1 a0_2 a0_3 a0_4 a0_5 : Int) (A0_6 : Option Addr) (c0_6 : Nat) (l0_6 : List (S66)) (a1 : Int) (er : Int) (w : World) (HR : Aside0 (Kd.C k66 w A0_6 l0_6.length l0_6)) (HC : Aside0 (l0_6.length ≤ c0_6)) (HE : Aside0 (statement_Check.f k a0_0 a0_1 a0_2 a0_3 a0_4 a0_5 l0_6 = some er)) (he : er ≠ 0) :
    Calls Tryd.prog 18 #[.agg #[.int .i64 a0_0, .int .i64 a0_1, .int .i64 a0_2, .int .i64 a0_3, .int .i64 a0_4, .int .i64 a0_5, .slice A0_6 l0_6.length c0_6], .int .i64 a1] w fun e w' => e = .returned (.tuple #[.string ⟨#[]⟩, .int .i64 er]) ∧ Below w.heap.size w w' := by
  have hu40 := Tryd.underlying40
  have e1 : (er != 0) = true := by simp [he]
  clear he
  go_enter Tryd.func18, Tryd.ntmps18
  go_wp2_with (first | ((with_reducible refine gate_dst (N := 2) rfl ?_); refine box_event ?hg (N := 2) ?hd (cs := #[.int .i64 a0_0, .int .i64 a0_1, .int .i64 a0_2, .int .i64 a0_3, .int .i64 a0_4, .int .i64 a0_5, .slice A0_6 l0_6.length c0_6]) (t := 40) ?hr ?_; (case hd => rfl); (case hg => rfl); (case hr => first | (go_simp; done) | (go_simp; rfl)); intro G hgG W1 hk1 hB1; have KG1 := Aside0.mk hk1; have HB1 := Aside0.mk hB1; clear hk1 hB1 hgG) | ((with_reducible refine gate_dst (N := 3) rfl ?_); refine box_event ?hg (N := 3) ?hd (cs := #[.int .i64 a1]) (t := 3) ?hr ?_; (case hd => rfl); (case hg => rfl); (case hr => first | (go_simp; done) | (go_simp; rfl)); intro D hgD W2 hk2 hB2; have KG2 := Aside0.mk (blk_below KG1.out hB2); have KD2 := Aside0.mk hk2; have HB2 := Aside0.mk (HB1.out.trans (hB2.mono HB1.out.size)); clear hk2 hB2 hgD; obtain ⟨q0, q1, q2, q3, q4, q5, q6⟩ := cells7_ KG2.out) | (go_at_call 14; refine (statement_Check.calls k _ _ _ _ _ _ A0_6 c0_6 l0_6 er _ (Kd.C_below HR.out HB2.out) HC.out HE.out).mono ?_; rintro _ W3 ⟨rfl, hb3⟩; clear q0 q1 q2 q3 q4 q5 q6; have KG3 := Aside0.mk (blk_below KG2.out hb3); have KD3 := Aside0.mk (blk_below KD2.out hb3); have HB3 := Aside0.mk (HB2.out.trans (hb3.mono HB2.out.size)); clear hb3; have hD3 := (blk_cell KD3.out 0).trans rfl))
  all_goals (go_ret2; exact ⟨rfl, HB3.out⟩)

set_option maxHeartbeats 4000000 in
set_option maxRecDepth 100000 in
theorem text_neg (k : Nat) (a0_0 a0_1 a0_2 a0_3 a0_4 a0_5 : Int) (A0_6 : Option Addr) (c0_6 : Nat) (l0_6 : List (S66)) (a1 : Int) (w : World) (HR : Aside0 (Kd.C k66 w A0_6 l0_6.length l0_6)) (HC : Aside0 (l0_6.length ≤ c0_6)) (HE : Aside0 (statement_Check.f k a0_0 a0_1 a0_2 a0_3 a0_4 a0_5 l0_6 = some 0)) (d0 : a1 < 0) :
    Calls Tryd.prog 18 #[.agg #[.int .i64 a0_0, .int .i64 a0_1, .int .i64 a0_2, .int .i64 a0_3, .int .i64 a0_4, .int .i64 a0_5, .slice A0_6 l0_6.length c0_6], .int .i64 a1] w fun e w' => e = .returned (.tuple #[.string ⟨#[]⟩, .int .i64 1]) ∧ Below w.heap.size w w' := by
  have hu40 := Tryd.underlying40
  go_enter Tryd.func18, Tryd.ntmps18
  go_wp2_with (first | ((with_reducible refine gate_dst (N := 2) rfl ?_); refine box_event ?hg (N := 2) ?hd (cs := #[.int .i64 a0_0, .int .i64 a0_1, .int .i64 a0_2, .int .i64 a0_3, .int .i64 a0_4, .int .i64 a0_5, .slice A0_6 l0_6.length c0_6]) (t := 40) ?hr ?_; (case hd => rfl); (case hg => rfl); (case hr => first | (go_simp; done) | (go_simp; rfl)); intro G hgG W1 hk1 hB1; have KG1 := Aside0.mk hk1; have HB1 := Aside0.mk hB1; clear hk1 hB1 hgG) | ((with_reducible refine gate_dst (N := 3) rfl ?_); refine box_event ?hg (N := 3) ?hd (cs := #[.int .i64 a1]) (t := 3) ?hr ?_; (case hd => rfl); (case hg => rfl); (case hr => first | (go_simp; done) | (go_simp; rfl)); intro D hgD W2 hk2 hB2; have KG2 := Aside0.mk (blk_below KG1.out hB2); have KD2 := Aside0.mk hk2; have HB2 := Aside0.mk (HB1.out.trans (hB2.mono HB1.out.size)); clear hk2 hB2 hgD; obtain ⟨q0, q1, q2, q3, q4, q5, q6⟩ := cells7_ KG2.out) | (go_at_call 14; refine (statement_Check.calls k _ _ _ _ _ _ A0_6 c0_6 l0_6 0 _ (Kd.C_below HR.out HB2.out) HC.out HE.out).mono ?_; rintro _ W3 ⟨rfl, hb3⟩; clear q0 q1 q2 q3 q4 q5 q6; have KG3 := Aside0.mk (blk_below KG2.out hb3); have KD3 := Aside0.mk (blk_below KD2.out hb3); have HB3 := Aside0.mk (HB2.out.trans (hb3.mono HB2.out.size)); clear hb3; have hD3 := (blk_cell KD3.out 0).trans rfl))
  all_goals (go_ret2; exact ⟨rfl, HB3.out⟩)

set_option maxHeartbeats 4000000 in
set_option maxRecDepth 100000 in
theorem text_big (k : Nat) (a0_0 a0_1 a0_2 a0_3 a0_4 a0_5 : Int) (A0_6 : Option Addr) (c0_6 : Nat) (l0_6 : List (S66)) (a1 : Int) (w : World) (HR : Aside0 (Kd.C k66 w A0_6 l0_6.length l0_6)) (HC : Aside0 (l0_6.length ≤ c0_6)) (HE : Aside0 (statement_Check.f k a0_0 a0_1 a0_2 a0_3 a0_4 a0_5 l0_6 = some 0)) (d0 : ¬ a1 < 0) (d4 : 4 < a1) :
    Calls Tryd.prog 18 #[.agg #[.int .i64 a0_0, .int .i64 a0_1, .int .i64 a0_2, .int .i64 a0_3, .int .i64 a0_4, .int .i64 a0_5, .slice A0_6 l0_6.length c0_6], .int .i64 a1] w fun e w' => e = .returned (.tuple #[.string ⟨#[]⟩, .int .i64 1]) ∧ Below w.heap.size w w' := by
  have hu40 := Tryd.underlying40
  go_enter Tryd.func18, Tryd.ntmps18
  go_wp2_with (first | ((with_reducible refine gate_dst (N := 2) rfl ?_); refine box_event ?hg (N := 2) ?hd (cs := #[.int .i64 a0_0, .int .i64 a0_1, .int .i64 a0_2, .int .i64 a0_3, .int .i64 a0_4, .int .i64 a0_5, .slice A0_6 l0_6.length c0_6]) (t := 40) ?hr ?_; (case hd => rfl); (case hg => rfl); (case hr => first | (go_simp; done) | (go_simp; rfl)); intro G hgG W1 hk1 hB1; have KG1 := Aside0.mk hk1; have HB1 := Aside0.mk hB1; clear hk1 hB1 hgG) | ((with_reducible refine gate_dst (N := 3) rfl ?_); refine box_event ?hg (N := 3) ?hd (cs := #[.int .i64 a1]) (t := 3) ?hr ?_; (case hd => rfl); (case hg => rfl); (case hr => first | (go_simp; done) | (go_simp; rfl)); intro D hgD W2 hk2 hB2; have KG2 := Aside0.mk (blk_below KG1.out hB2); have KD2 := Aside0.mk hk2; have HB2 := Aside0.mk (HB1.out.trans (hB2.mono HB1.out.size)); clear hk2 hB2 hgD; obtain ⟨q0, q1, q2, q3, q4, q5, q6⟩ := cells7_ KG2.out) | (go_at_call 14; refine (statement_Check.calls k _ _ _ _ _ _ A0_6 c0_6 l0_6 0 _ (Kd.C_below HR.out HB2.out) HC.out HE.out).mono ?_; rintro _ W3 ⟨rfl, hb3⟩; clear q0 q1 q2 q3 q4 q5 q6; have KG3 := Aside0.mk (blk_below KG2.out hb3); have KD3 := Aside0.mk (blk_below KD2.out hb3); have HB3 := Aside0.mk (HB2.out.trans (hb3.mono HB2.out.size)); clear hb3; have hD3 := (blk_cell KD3.out 0).trans rfl))
  all_goals (go_ret2; exact ⟨rfl, HB3.out⟩)

set_option maxHeartbeats 4000000 in
set_option maxRecDepth 100000 in
theorem text_main (k : Nat) (a0_0 a0_1 a0_2 a0_3 a0_4 a0_5 : Int) (A0_6 : Option Addr) (c0_6 : Nat) (l0_6 : List (S66)) (a1 : Int) (w : World) (HR : Aside0 (Kd.C k66 w A0_6 l0_6.length l0_6)) (HC : Aside0 (l0_6.length ≤ c0_6)) (HE : Aside0 (statement_Check.f k a0_0 a0_1 a0_2 a0_3 a0_4 a0_5 l0_6 = some 0)) (HG : Aside0 (Glob w)) (d0 : ¬ a1 < 0) (d4 : ¬ 4 < a1) (no ac : ByteArray) (HI1 : Aside0 (strconv_Itoa.f a0_1 = some no)) (HI2 : Aside0 (strconv_Itoa.f a0_0 = some ac)) (l1 : List UInt8) (HP1 : Aside0 (putO [] [⟨#[115, 116, 97, 116, 101, 109, 101, 110, 116]⟩, no, ⟨#[97, 99, 99, 111, 117, 110, 116]⟩, ac] = some l1)) (fr tt : ByteArray) (HF1 : Aside0 (date_Format.f k a0_2 = some fr)) (HF2 : Aside0 (date_Format.f k a0_3 = some tt)) (l2 : List UInt8) (HP2 : Aside0 (putO l1 [fr, ⟨#[116, 111]⟩, tt] = some l2)) (o : ByteArray) (oe : Int) (HO : Aside0 (money_Format.f k a0_4 a1 = some (o, oe))) (l3 : List UInt8) (HP3 : Aside0 (putO l2 [⟨#[111, 112, 101, 110, 105, 110, 103]⟩, o] = some l3)) (lE : List UInt8) (vE : Bool) (HL : Aside0 (linesF k a1 l0_6 l3 (oe != 0) = some (lE, vE))) (c : ByteArray) (ce : Int) (HO2 : Aside0 (money_Format.f k a0_5 a1 = some (c, ce))) (l4 : List UInt8) (HP4 : Aside0 (putO lE [⟨#[99, 108, 111, 115, 105, 110, 103]⟩, c] = some l4)) (r1 : ByteArray) (r2 : Int) (hres : (if (vE || (ce != 0)) = true then some ((⟨#[]⟩ : ByteArray), (1 : Int)) else some (⟨l4.toArray⟩, 0)) = some (r1, r2)) :
    Calls Tryd.prog 18 #[.agg #[.int .i64 a0_0, .int .i64 a0_1, .int .i64 a0_2, .int .i64 a0_3, .int .i64 a0_4, .int .i64 a0_5, .slice A0_6 l0_6.length c0_6], .int .i64 a1] w fun e w' => e = .returned (.tuple #[.string r1, .int .i64 r2]) ∧ Below w.heap.size w w' := by
  have hu40 := Tryd.underlying40
  have hu66 := Tryd.underlying66
  go_enter Tryd.func18, Tryd.ntmps18
  go_upto_region 10 with (first | ((with_reducible refine gate_dst (N := 2) rfl ?_); refine box_event ?hg (N := 2) ?hd (cs := #[.int .i64 a0_0, .int .i64 a0_1, .int .i64 a0_2, .int .i64 a0_3, .int .i64 a0_4, .int .i64 a0_5, .slice A0_6 l0_6.length c0_6]) (t := 40) ?hr ?_; (case hd => rfl); (case hg => rfl); (case hr => first | (go_simp; done) | (go_simp; rfl)); intro G hgG W1 hk1 hB1; have KG1 := Aside0.mk hk1; have HB1 := Aside0.mk hB1; clear hk1 hB1 hgG) | ((with_reducible refine gate_dst (N := 3) rfl ?_); refine box_event ?hg (N := 3) ?hd (cs := #[.int .i64 a1]) (t := 3) ?hr ?_; (case hd => rfl); (case hg => rfl); (case hr => first | (go_simp; done) | (go_simp; rfl)); intro D hgD W2 hk2 hB2; have KG2 := Aside0.mk (blk_below KG1.out hB2); have KD2 := Aside0.mk hk2; have HB2 := Aside0.mk (HB1.out.trans (hB2.mono HB1.out.size)); clear hk2 hB2 hgD; obtain ⟨q0, q1, q2, q3, q4, q5, q6⟩ := cells7_ KG2.out) | (go_at_call 14; refine (statement_Check.calls k _ _ _ _ _ _ A0_6 c0_6 l0_6 0 _ (Kd.C_below HR.out HB2.out) HC.out HE.out).mono ?_; rintro _ W3 ⟨rfl, hb3⟩; clear q0 q1 q2 q3 q4 q5 q6; have KG3 := Aside0.mk (blk_below KG2.out hb3); have KD3 := Aside0.mk (blk_below KD2.out hb3); have HB3 := Aside0.mk (HB2.out.trans (hb3.mono HB2.out.size)); clear hb3; have hD3 := (blk_cell KD3.out 0).trans rfl) | ((with_reducible refine gate_dst (N := 7) rfl ?_); refine box_event ?hg (N := 7) ?hd (cs := #[.pointer none, .slice none 0 0]) (t := 76) ?hr ?_; (case hd => rfl); (case hg => rfl); (case hr => first | (go_simp; done) | (go_simp; rfl)); intro b hgb W4 hk4 hB4; subst hgb; have KB4 := Aside0.mk hk4; have HB4 := Aside0.mk hB4; clear hk4 hB4 hD3) | ((with_reducible refine gate_dst (N := 9) rfl ?_); refine box_event ?hg (N := 9) ?hd (cs := #[.bool false]) (t := 4) ?hr ?_; (case hd => rfl); (case hg => rfl); (case hr => first | (go_simp; done) | (go_simp; rfl)); intro B2 hgB W5 hk5 hB5; subst hgB; have HS := Aside0.mk (St.start HB3.out KG3.out KD3.out KB4.out HB4.out hk5 hB5); clear hk5 hB5; have hc5 := (blk_cell HS.out.bd 0).trans rfl; have hf5 := blk_frozen HS.out.bd 0))
  have n0_ := Aside0.mk (HS.out.mark false)
  clear HS hc5 hf5 KB4 HB4 HB3 HB2 HB1 KG3 KD3 KG2 KD2 KG1 HE
  have HS := n0_
  clear n0_
  generalize W5.setCell ⟨W4.heap.size, 0, none⟩ (.bool false) = W6 at *
  generalize W4.heap.size = B2 at *
  generalize W3.heap.size = b at *
  clear W1 W2 W3 W4 W5
  have z0 := (blk_cell HS.out.st 0).trans rfl; have z1 := (blk_cell HS.out.st 1).trans rfl
  go_region_held3 (fun w' => w'.cell? ⟨G, 0, none⟩ = some (.int .i64 a0_0) ∧ w'.cell? ⟨G, 1, none⟩ = some (.int .i64 a0_1)) (first | exact ⟨(blk_cell (St.st (by repeat (first | exact HS.out | apply St.drewN | apply St.drew | apply St.alloc))) 0).trans rfl, (blk_cell (St.st (by repeat (first | exact HS.out | apply St.drewN | apply St.drew | apply St.alloc))) 1).trans rfl⟩ | go_keep) (first | (go_at_call_of 35 (Value.int .i64 a0_1); refine (strconv_Itoa.calls a0_1 no _ HI1.out (Glob.at HG (by repeat (first | exact HS.out.below | apply pw_below_drewN | apply below_drew1 | apply below_alloc)))).mono ?_; rintro e w7 ⟨rfl, hb⟩; have n0_ := Aside0.mk (St.later (by repeat (first | exact HS.out | apply St.drewN | apply St.drew | apply St.alloc)) hb); clear HS; have HS := n0_; clear n0_; clear hb z0 z1; have z0 := (blk_cell HS.out.st 0).trans rfl; have z1 := (blk_cell HS.out.st 1).trans rfl) | (go_at_call_of 35 (Value.int .i64 a0_0); refine (strconv_Itoa.calls a0_0 ac _ HI2.out (Glob.at HG (by repeat (first | exact HS.out.below | apply pw_below_drewN | apply below_drew1 | apply below_alloc)))).mono ?_; rintro e w7 ⟨rfl, hb⟩; have n0_ := Aside0.mk (St.later (by repeat (first | exact HS.out | apply St.drewN | apply St.drew | apply St.alloc)) hb); clear HS; have HS := n0_; clear n0_; clear hb z0 z1; have z0 := (blk_cell HS.out.st 0).trans rfl; have z1 := (blk_cell HS.out.st 1).trans rfl) | (go_at_call 30; refine (St.puts (by repeat (first | exact HS.out | apply St.drewN | apply St.drew | apply St.alloc)) _ _ rfl 9 _ rfl _ HP1.out).mono ?_; rintro e w8 ⟨rfl, hs, _⟩; have n0_ := Aside0.mk (hs); clear HS; have HS := n0_; clear n0_; clear hs z0 z1; have z0 := (blk_cell HS.out.st 0).trans rfl; have z1 := (blk_cell HS.out.st 1).trans rfl))
  clear z0 z1
  go_upto_region 11 with (fail)
  have z2 := (blk_cell HS.out.st 2).trans rfl; have z3 := (blk_cell HS.out.st 3).trans rfl
  go_region_held3 (fun w' => w'.cell? ⟨G, 2, none⟩ = some (.int .i64 a0_2) ∧ w'.cell? ⟨G, 3, none⟩ = some (.int .i64 a0_3)) (first | exact ⟨(blk_cell (St.st (by repeat (first | exact HS.out | apply St.drewN | apply St.drew | apply St.alloc))) 2).trans rfl, (blk_cell (St.st (by repeat (first | exact HS.out | apply St.drewN | apply St.drew | apply St.alloc))) 3).trans rfl⟩ | go_keep) (first | (go_at_call_of 36 (Value.int .i64 a0_2); refine (date_Format.calls k a0_2 fr _ HF1.out (Glob.at HG (by repeat (first | exact HS.out.below | apply pw_below_drewN | apply below_drew1 | apply below_alloc)))).mono ?_; rintro e w7 ⟨rfl, hb⟩; have n0_ := Aside0.mk (St.later (by repeat (first | exact HS.out | apply St.drewN | apply St.drew | apply St.alloc)) hb); clear HS; have HS := n0_; clear n0_; clear hb z2 z3; have z2 := (blk_cell HS.out.st 2).trans rfl; have z3 := (blk_cell HS.out.st 3).trans rfl) | (go_at_call_of 36 (Value.int .i64 a0_3); refine (date_Format.calls k a0_3 tt _ HF2.out (Glob.at HG (by repeat (first | exact HS.out.below | apply pw_below_drewN | apply below_drew1 | apply below_alloc)))).mono ?_; rintro e w7 ⟨rfl, hb⟩; have n0_ := Aside0.mk (St.later (by repeat (first | exact HS.out | apply St.drewN | apply St.drew | apply St.alloc)) hb); clear HS; have HS := n0_; clear n0_; clear hb z2 z3; have z2 := (blk_cell HS.out.st 2).trans rfl; have z3 := (blk_cell HS.out.st 3).trans rfl) | (go_at_call 30; refine (St.puts (by repeat (first | exact HS.out | apply St.drewN | apply St.drew | apply St.alloc)) _ _ rfl 9 _ rfl _ HP2.out).mono ?_; rintro e w8 ⟨rfl, hs, _⟩; have n0_ := Aside0.mk (hs); clear HS; have HS := n0_; clear n0_; clear hs z2 z3; have z2 := (blk_cell HS.out.st 2).trans rfl; have z3 := (blk_cell HS.out.st 3).trans rfl))
  clear z2 z3
  go_upto_region 12 with (fail)
  have z4 := (blk_cell HS.out.st 4).trans rfl
  go_upto_region 14 with (first | (go_at_call 33; refine (St.amount (by repeat (first | exact HS.out | apply St.drewN | apply St.drew | apply St.alloc)) k a0_4 o oe (Glob.at HG (by repeat (first | exact HS.out.below | apply pw_below_drewN | apply below_drew1 | apply below_alloc))) HO.out (oe != 0) rfl).mono ?_; rintro e w9 ⟨rfl, hs, _⟩; have n0_ := Aside0.mk (hs); clear HS; have HS := n0_; clear n0_; clear hs z4; have z4 := (blk_cell HS.out.st 4).trans rfl) | (go_at_call 30; refine (St.puts (by repeat (first | exact HS.out | apply St.drewN | apply St.drew | apply St.alloc)) _ _ rfl 9 _ rfl _ HP3.out).mono ?_; rintro e w8 ⟨rfl, hs, _⟩; have n0_ := Aside0.mk (hs); clear HS; have HS := n0_; clear n0_; clear hs z4; have z6 := (blk_cell HS.out.st 6).trans rfl))
  go_loopg [54] l0_6.length (fun gg v54 wr => ∃ (kk : Nat) (l : List UInt8) (v : Bool), kk ≤ l0_6.length ∧ l0_6.length - kk ≤ gg ∧ v54 = .int .i64 kk ∧ Aside0 (St w G D b B2 #[.int .i64 a0_0, .int .i64 a0_1, .int .i64 a0_2, .int .i64 a0_3, .int .i64 a0_4, .int .i64 a0_5, .slice A0_6 l0_6.length c0_6] a1 l v wr) ∧ Aside0 (linesF k a1 (l0_6.drop kk) l v = some (lE, vE)))
  case atStart => exact ⟨0, l3, _, Nat.zero_le _, by omega, rfl, HS, ⟨HL.out⟩⟩
  case round =>
    clear HS HL z6
    obtain ⟨kk, l, v, hkk, hgg, rfl, HS, HL⟩ := hrel
    by_cases hlt : kk < l0_6.length
    · have hltz : (kk : Int) < (l0_6.length : Int) := by omega
      have p1 : 0 ≤ (kk : Int) := by omega
      obtain ⟨ad, e1, hx0, hx1, hx2, hx3⟩ := at_T66 HR.out (kk : Int) p1 hltz
      cases e1
      replace hx0 := (HS.out.below.cell (World.block_lt_of_cell? w _ hx0)).trans hx0
      replace hx1 := (HS.out.below.cell (World.block_lt_of_cell? w _ hx1)).trans hx1
      replace hx2 := (HS.out.below.cell (World.block_lt_of_cell? w _ hx2)).trans hx2
      replace hx3 := (HS.out.below.cell (World.block_lt_of_cell? w _ hx3)).trans hx3
      rw [Int.toNat_natCast] at hx0 hx1 hx2 hx3
      have HL2 := HL.out
      rw [drop_at66 l0_6 kk hlt] at HL2
      simp only [linesF] at HL2
      obtain ⟨t, ht, HL2⟩ := Option.bind_eq_some_iff.1 HL2
      obtain ⟨⟨p, pe⟩, hp, HL2⟩ := Option.bind_eq_some_iff.1 HL2
      obtain ⟨l', hl', HL2⟩ := Option.bind_eq_some_iff.1 HL2
      have HT := Aside0.mk ht
      have HP := Aside0.mk hp
      have HQ := Aside0.mk hl'
      have HN := Aside0.mk HL2
      clear ht hp hl' HL2 HL
      go_upto_region 16 with ((with_reducible refine gate_dst (N := 12) rfl ?_); refine box_event ?hg (N := 12) ?hd (cs := #[.int .i64 0, .int .i64 0, .int .i64 0, .string (⟨#[]⟩ : ByteArray)]) (t := 66) ?hr ?_; (case hd => rfl); (case hg => rfl); (case hr => first | (go_simp; done) | (go_simp; rfl)); intro X hgX W1 hkX hBX; have GX := Aside0.mk (Nat.le_trans HS.out.size (Nat.le_of_eq hgX.symm)); clear hgX; have KX := Aside0.mk hkX; have HBX := Aside0.mk hBX; have n0_ := Aside0.mk (St.later (by repeat (first | exact HS.out | apply St.drewN | apply St.drew | apply St.alloc)) hBX); clear HS hkX hBX; have HS := n0_; clear n0_; obtain ⟨f0_, f1_, f2_, f3_⟩ := froz4_ KX.out; obtain ⟨y0_, y1_, y2_, y3_⟩ := cells4_ KX.out)
      clear y0_ y1_ y2_ y3_ f0_ f1_ f2_ f3_ hx0 hx1 hx2 hx3
      obtain ⟨hs2, hk2⟩ := St.fill4 HS.out KX.out GX.out (.int .i64 (rd_T66 l0_6 (kk : Int)).f0) (.int .i64 (rd_T66 l0_6 (kk : Int)).f1) (.int .i64 (rd_T66 l0_6 (kk : Int)).f2) (.string (rd_T66 l0_6 (kk : Int)).f3)
      clear HS KX HBX GX
      have HS := Aside0.mk hs2
      have KX := Aside0.mk hk2
      clear hs2 hk2
      generalize (((W1.setCell ⟨X, 0, none⟩ (.int .i64 (rd_T66 l0_6 (kk : Int)).f0)).setCell ⟨X, 1, none⟩ (.int .i64 (rd_T66 l0_6 (kk : Int)).f1)).setCell ⟨X, 2, none⟩ (.int .i64 (rd_T66 l0_6 (kk : Int)).f2)).setCell ⟨X, 3, none⟩ (.string (rd_T66 l0_6 (kk : Int)).f3) = W2 at *
      clear W1
      generalize rd_T66 l0_6 (kk : Int) = xx at *
      have y1 := (blk_cell KX.out 1).trans rfl
      have y2 := (blk_cell KX.out 2).trans rfl
      have y3 := (blk_cell KX.out 3).trans rfl
      go_region_held3 (fun w' => w'.cell? ⟨X, 1, none⟩ = some (.int .i64 xx.f1) ∧ w'.cell? ⟨X, 2, none⟩ = some (.int .i64 xx.f2) ∧ w'.cell? ⟨X, 3, none⟩ = some (.string xx.f3)) (first | exact ⟨(blk_cell (by repeat (first | exact KX.out | apply blk_drewN | apply blk_drew | apply blk_alloc)) 1).trans rfl, (blk_cell (by repeat (first | exact KX.out | apply blk_drewN | apply blk_drew | apply blk_alloc)) 2).trans rfl, (blk_cell (by repeat (first | exact KX.out | apply blk_drewN | apply blk_drew | apply blk_alloc)) 3).trans rfl⟩ | go_keep) (first | (go_at_call 36; refine (date_Format.calls k xx.f1 t _ HT.out (Glob.at HG (by repeat (first | exact HS.out.below | apply pw_below_drewN | apply below_drew1 | apply below_alloc)))).mono ?_; rintro e w7 ⟨rfl, hb⟩; have n0_ := Aside0.mk (St.later (by repeat (first | exact HS.out | apply St.drewN | apply St.drew | apply St.alloc)) hb); clear HS; have HS := n0_; clear n0_; have m0_ := Aside0.mk (blk_below (by repeat (first | exact KX.out | apply blk_drewN | apply blk_drew | apply blk_alloc)) hb); clear hb KX y1 y2 y3; have KX := m0_; clear m0_) | (go_at_call 33; refine (St.amount (by repeat (first | exact HS.out | apply St.drewN | apply St.drew | apply St.alloc)) k xx.f2 p pe (Glob.at HG (by repeat (first | exact HS.out.below | apply pw_below_drewN | apply below_drew1 | apply below_alloc))) HP.out (v || (pe != 0)) rfl).mono ?_; rintro e w9 ⟨rfl, hs, hx⟩; have n0_ := Aside0.mk (hs); clear HS; have HS := n0_; clear n0_; have m0_ := Aside0.mk (hx X _ (by repeat (first | exact KX.out | apply blk_drewN | apply blk_drew | apply blk_alloc))); clear hs hx KX; (try clear y1 y2 y3); have KX := m0_; clear m0_) | (go_at_call 30; refine (St.puts (by repeat (first | exact HS.out | apply St.drewN | apply St.drew | apply St.alloc)) _ _ rfl 9 _ rfl _ HQ.out).mono ?_; rintro e w8 ⟨rfl, hs, hx⟩; have n0_ := Aside0.mk (hs); clear HS; have HS := n0_; clear n0_; have m0_ := Aside0.mk (hx X _ (by repeat (first | exact KX.out | apply blk_drewN | apply blk_drew | apply blk_alloc))); clear hs hx KX; have KX := m0_; clear m0_))
      go_wp2
      go_roundg (l0_6.length - (kk + 1))
      case measure => omega
      case rel => have hlen := HR.out.1; have hbig := HR.out.2.1; exact ⟨kk + 1, l', _, by omega, by omega, (by rw [show wrap64 ((kk : Int) + 1) = (kk : Int) + 1 by unfold wrap64; omega]; rfl), HS, HN⟩
    · have hk : kk = l0_6.length := by omega
      subst hk
      have HL2 := HL.out
      rw [List.drop_eq_nil_of_le (Nat.le_refl _)] at HL2
      simp only [linesF, Option.some.injEq, Prod.mk.injEq] at HL2
      obtain ⟨rfl, rfl⟩ := HL2
      clear HL
      have z5 := (blk_cell HS.out.st 5).trans rfl
      cases hq : (v || (ce != 0)) with
      | true =>
        have HQ := Aside0.mk hq
        rw [hq, if_pos rfl] at hres
        simp only [Option.some.injEq, Prod.mk.injEq] at hres
        obtain ⟨rfl, rfl⟩ := hres
        clear hq
        go_wp2_with (first | (go_at_call 33; refine (St.amount (by repeat (first | exact HS.out | apply St.drewN | apply St.drew | apply St.alloc)) k a0_5 c ce (Glob.at HG (by repeat (first | exact HS.out.below | apply pw_below_drewN | apply below_drew1 | apply below_alloc))) HO2.out true HQ.out).mono ?_; rintro e w9 ⟨rfl, hs, _⟩; have n0_ := Aside0.mk (hs); clear HS; have HS := n0_; clear n0_; clear hs z5; have z5 := (blk_cell HS.out.st 5).trans rfl) | (go_at_call 30; refine (St.puts (by repeat (first | exact HS.out | apply St.drewN | apply St.drew | apply St.alloc)) _ _ rfl 9 _ rfl _ HP4.out).mono ?_; rintro e w8 ⟨rfl, hs, _⟩; have n0_ := Aside0.mk (hs); clear HS; have HS := n0_; clear n0_; clear hs z5; have z9 := (blk_cell HS.out.bd 0).trans rfl))
        go_ret2
        exact ⟨rfl, HS.out.below⟩
      | false =>
        have HQ := Aside0.mk hq
        rw [hq, if_neg (by decide)] at hres
        simp only [Option.some.injEq, Prod.mk.injEq] at hres
        obtain ⟨rfl, rfl⟩ := hres
        clear hq
        go_wp2_with (first | (go_at_call 33; refine (St.amount (by repeat (first | exact HS.out | apply St.drewN | apply St.drew | apply St.alloc)) k a0_5 c ce (Glob.at HG (by repeat (first | exact HS.out.below | apply pw_below_drewN | apply below_drew1 | apply below_alloc))) HO2.out false HQ.out).mono ?_; rintro e w9 ⟨rfl, hs, _⟩; have n0_ := Aside0.mk (hs); clear HS; have HS := n0_; clear n0_; clear hs z5; have z5 := (blk_cell HS.out.st 5).trans rfl) | (go_at_call 30; refine (St.puts (by repeat (first | exact HS.out | apply St.drewN | apply St.drew | apply St.alloc)) _ _ rfl 9 _ rfl _ HP4.out).mono ?_; rintro e w8 ⟨rfl, hs, _⟩; have n0_ := Aside0.mk (hs); clear HS; have HS := n0_; clear n0_; clear hs z5; have z9 := (blk_cell HS.out.bd 0).trans rfl) | (go_at_call 37; refine (Tryd.String_k w.heap.size b l4 _ (St.bl (by repeat (first | exact HS.out | apply St.drewN | apply St.drew | apply St.alloc))) (St.size (by repeat (first | exact HS.out | apply St.drewN | apply St.drew | apply St.alloc)))).mono ?_; rintro e w5 ⟨rfl, hb⟩; have HZ := Aside0.mk ((St.below (by repeat (first | exact HS.out | apply St.drewN | apply St.drew | apply St.alloc))).trans hb); clear hb))
        go_ret2
        exact ⟨rfl, HZ.out⟩

theorem statement_Text.calls (k : Nat) (a0_0 a0_1 a0_2 a0_3 a0_4 a0_5 : Int) (A0_6 : Option Addr) (c0_6 : Nat) (l0_6 : List (S66)) (a1 : Int) (r1 : ByteArray) (r2 : Int) (w : World) (hr0_6 : Kd.C k66 w A0_6 l0_6.length l0_6) (hc0_6 : l0_6.length ≤ c0_6) (h : statement_Text.f k a0_0 a0_1 a0_2 a0_3 a0_4 a0_5 l0_6 a1 = some (r1, r2)) (hG : Glob w) :
    Calls Tryd.prog 18 #[.agg #[.int .i64 a0_0, .int .i64 a0_1, .int .i64 a0_2, .int .i64 a0_3, .int .i64 a0_4, .int .i64 a0_5, .slice A0_6 l0_6.length c0_6], .int .i64 a1] w fun e w' => e = .returned (.tuple #[.string r1, .int .i64 r2]) ∧ Below w.heap.size w w' := by
  unfold statement_Text.f at h
  obtain ⟨e, he, h⟩ := Option.bind_eq_some_iff.1 h
  by_cases e0 : e = 0
  · subst e0
    rw [if_neg (by simp)] at h
    by_cases d0 : a1 < 0
    · rw [if_pos d0] at h
      simp only [Option.some.injEq, Prod.mk.injEq] at h
      obtain ⟨rfl, rfl⟩ := h
      exact text_neg k a0_0 a0_1 a0_2 a0_3 a0_4 a0_5 A0_6 c0_6 l0_6 a1 w ⟨hr0_6⟩ ⟨hc0_6⟩ ⟨he⟩ d0
    · rw [if_neg d0] at h
      by_cases d4 : 4 < a1
      · rw [if_pos d4] at h
        simp only [Option.some.injEq, Prod.mk.injEq] at h
        obtain ⟨rfl, rfl⟩ := h
        exact text_big k a0_0 a0_1 a0_2 a0_3 a0_4 a0_5 A0_6 c0_6 l0_6 a1 w ⟨hr0_6⟩ ⟨hc0_6⟩ ⟨he⟩ d0 d4
      · rw [if_neg d4] at h
        obtain ⟨no, hno, h⟩ := Option.bind_eq_some_iff.1 h
        obtain ⟨ac, hac, h⟩ := Option.bind_eq_some_iff.1 h
        obtain ⟨l1, hl1, h⟩ := Option.bind_eq_some_iff.1 h
        obtain ⟨fr, hfr, h⟩ := Option.bind_eq_some_iff.1 h
        obtain ⟨tt, htt, h⟩ := Option.bind_eq_some_iff.1 h
        obtain ⟨l2, hl2, h⟩ := Option.bind_eq_some_iff.1 h
        obtain ⟨⟨o, oe⟩, ho, h⟩ := Option.bind_eq_some_iff.1 h
        obtain ⟨l3, hl3, h⟩ := Option.bind_eq_some_iff.1 h
        obtain ⟨⟨lE, vE⟩, hL, h⟩ := Option.bind_eq_some_iff.1 h
        obtain ⟨⟨c, ce⟩, hc, h⟩ := Option.bind_eq_some_iff.1 h
        obtain ⟨l4, hl4, h⟩ := Option.bind_eq_some_iff.1 h
        exact text_main k a0_0 a0_1 a0_2 a0_3 a0_4 a0_5 A0_6 c0_6 l0_6 a1 w ⟨hr0_6⟩ ⟨hc0_6⟩ ⟨he⟩ ⟨hG⟩ d0 d4 no ac ⟨hno⟩ ⟨hac⟩ l1 ⟨hl1⟩ fr tt ⟨hfr⟩ ⟨htt⟩ l2 ⟨hl2⟩ o oe ⟨ho⟩ l3 ⟨hl3⟩ lE vE ⟨hL⟩ c ce ⟨hc⟩ l4 ⟨hl4⟩ r1 r2 h
  · rw [if_pos e0] at h
    simp only [Option.some.injEq, Prod.mk.injEq] at h
    obtain ⟨rfl, rfl⟩ := h
    exact text_bad k a0_0 a0_1 a0_2 a0_3 a0_4 a0_5 A0_6 c0_6 l0_6 a1 e w ⟨hr0_6⟩ ⟨hc0_6⟩ ⟨he⟩ e0

end Go.Proofs.YtimjodgnlahclaaDoor.G
