/-
  THE ROW OF 'StatementFollows' OUT OF ITS PURE LAW AND THE WALK; ITS TIED CARD: for every input the law returns true, and each argument reads behind the call as before.
-/
import Derived.Test.YtimjodgnlahclaaDoorRows
import Derived.Test.YtimjodgnlahclaaDoorCards
import Derived.Test.YtimjodgnlahclaaDoorTie
import Derived.Test.YtimjodgnlahclaaDoorLaid
import Derived.Test.YtimjodgnlahclaaDoorTypes
import Derived.Test.YtimjodgnlahclaaDoorWFollows
import Derived.Test.YtimjodgnlahclaaDoorPureStatementFollows
import Derived.WalkKit
import Derived.ProofKit
import Derived.OpenShut
import Derived.ShutString
import Derived.ChangeOld
import Derived.Below
import Derived.SizedLaws
import Derived.LaidMore
import Derived.SevenTiedAt
import Derived.Stop.Joined
namespace Go.Proofs.YtimjodgnlahclaaDoor.statementFollows
open Go Go.ChangeShapes Go.WideShapes Go.ChangeAt Go.RowKit Go.Proofs.YtimjodgnlahclaaDoor.G Go.Proofs.YtimjodgnlahclaaDoorW.PrintWords
open Go.ChangeMaps (open_string shut_string)
set_option linter.unusedVariables false
set_option maxRecDepth 100000 in
theorem lifted (os : Os) (started : os.Started) (H : Type) (enc : TypeId × Value → H) :
    ReturnsInHanded {} Tryd.checked os 6 .any (fun w args => (Rows.statementFollowsSpec.pre enc Tryd.prog Tryd.f6 [] false w args ∧ laidMetH Tryd.prog laids w) ∧ sizedMet enc Tryd.prog Tryd.f6 (OpenSpec.ofChange Rows.statementFollowsSpec) false w args) (Rows.statementFollowsSpec.post enc Tryd.prog Tryd.f6 false true false false) := by
  refine returnsInHanded_of_change_and (C := Tryd.checked) (X := fun w _ => laidMetH Tryd.prog laids w) (fun _ _ _ hh h => h.of_heap hh) own started (by kernel_rfl) Tryd.func6
    (ChangeSpec.witness_shaped (enc := enc) (C := Tryd.checked) (os := os) (X := fun w _ => laidMetH Tryd.prog laids w) false (World.doorLaid Tryd.prog 4000 os) #[.agg #[.slice none 0 0, .slice none 0 0, .slice none 0 0, .int .i64 0, .int .i64 0, .int .i64 0, .int .i64 0, .int .i64 0, .int .i64 0, .int .i64 0, .int .i64 0, .int .i64 0, .int .i64 0, .int .i64 0, .int .i64 0, .int .i64 0, .int .i64 0, .slice none 0 0, .slice none 0 0, .slice none 0 0, .slice none 0 0, .slice none 0 0], .agg #[.int .i64 0, .int .i64 0, .int .i64 0, .int .i64 0], .int .i64 0] 8 rfl (World.shaped_of_RefB (by kernel_rfl) (by kernel_rfl)) (by kernel_rfl) (by kernel_rfl) (by kernel_rfl) (door_met os _)) ?_
  intro W base args ds gs before hval0 hW _ hsz0 hL _
  have hsz : (DataW.weightsEach Tryd.prog (Tryd.f6.params.toList ++ Rows.statementFollowsSpec.plain.varTypes Tryd.prog) (ds ++ gs)).all (· ≤ reachBytes) = true := hsz0
  have hval : ∀ (j : Nat) t v, Tryd.f6.params[j]? = some t → args[j]? = some v → Value.okWide Tryd.prog W .any base t v := hval0
  have hG : Glob W := glob_of_laid hL
  have hW' := hW
  obtain ⟨p, q, hA0, hV, rfl, hfz, hnd⟩ := hW
  have hA : DataW.TrodAll enc Tryd.prog W 0 (fun _ => true) true Tryd.f6.params.toList args.toList ds p := hA0
  rw [Tryd.params6] at hA hval hsz
  obtain ⟨v0, vs0, d0, ds0, p0, q0, hargs, rfl, rfl, h0, r0⟩ := trodAll_cons hA
  obtain ⟨v1, vs1, d1, ds1, p1, q1, rfl, rfl, rfl, h1, r1⟩ := trodAll_cons r0
  obtain ⟨v2, vs2, d2, ds2, p2, q2, rfl, rfl, rfl, h2, r2⟩ := trodAll_cons r1
  obtain ⟨rfl, rfl, rfl⟩ := trodAll_nil r2
  obtain rfl : args = #[v0, v1, v2] := by cases args; simp_all
  obtain ⟨rfl, rfl⟩ := trodVars_none hV
  have k0 := h0
  have lt0 : ∀ x ∈ p0, x.block < W.heap.size := by obtain ⟨m, hm⟩ := k0; exact DataW.trod_lt m _ _ _ hm
  obtain ⟨fu0, tr0⟩ := h0
  obtain ⟨x0, hk0, ok0_⟩ := opens33 fu0 H enc W fu0 _ _ (Nat.le_refl _) tr0 (weights_at (j := 0) hsz rfl rfl)
  obtain ⟨cs0, rfl, _⟩ := okWide_struct Tryd.underlying33 (hval 0 33 v0 rfl rfl)
  obtain ⟨A0_5, c0_5, A0_6, c0_6, hcs0, hl0_5, hr0_5, hl0_6, hr0_6⟩ := k33_open hk0
  obtain rfl : cs0 = #[x0.f0.1, x0.f1.1, x0.f2.1, .int .i64 x0.f3.f0, .int .i64 x0.f3.f1, .int .i64 x0.f3.f2, .int .i64 x0.f3.f3, .int .i64 x0.f3.f4, .int .i64 x0.f3.f5, .int .i64 x0.f3.f6, .int .i64 x0.f3.f7, .int .i64 x0.f3.f8, .int .i64 x0.f3.f9, .int .i64 x0.f3.f10, .int .i64 x0.f3.f11, .int .i64 x0.f3.f12, .int .i64 x0.f3.f13, x0.f4.1, .slice A0_5 x0.f5.length c0_5, .slice A0_6 x0.f6.length c0_6, x0.f7.1, x0.f8.1] := by
    apply Array.toList_inj.1
    exact hcs0
  have k1 := h1
  have lt1 : ∀ x ∈ p1, x.block < W.heap.size := by obtain ⟨m, hm⟩ := k1; exact DataW.trod_lt m _ _ _ hm
  obtain ⟨fu1, tr1⟩ := h1
  obtain ⟨x1, hk1, ok1_⟩ := opens35 fu1 H enc W fu1 _ _ (Nat.le_refl _) tr1 (weights_at (j := 1) hsz rfl rfl)
  obtain ⟨cs1, rfl, _⟩ := okWide_struct Tryd.underlying35 (hval 1 35 v1 rfl rfl)
  have hcs1 := k35_open hk1
  obtain rfl : cs1 = #[.int .i64 x1.f0, .int .i64 x1.f1, .int .i64 x1.f2, .int .i64 x1.f3] := by
    apply Array.toList_inj.1
    exact hcs1
  have k2 := h2
  have lt2 : ∀ x ∈ p2, x.block < W.heap.size := by obtain ⟨m, hm⟩ := k2; exact DataW.trod_lt m _ _ _ hm
  obtain ⟨fu2, tr2⟩ := h2
  obtain ⟨x2, hk2, ok2_⟩ := (opens_int Tryd.underlying3) fu2 H enc W fu2 _ _ (Nat.le_refl _) tr2 (weights_at (j := 2) hsz rfl rfl)
  obtain ⟨y2, rfl, _, _, _⟩ := open_int Tryd.underlying3 (hval 2 3 v2 rfl rfl) k2
  obtain rfl : y2 = x2 := by have e_ : [Value.int .i64 y2] = [.int .i64 x2] := hk2; simpa using e_
  obtain ⟨k, hP⟩ := Pure.StatementFollows x0 x1 _ ok0_ ok1_ ok2_
  refine (corebanklaw45_StatementFollows.calls k x0.f0 x0.f1 x0.f2 x0.f3.f0 x0.f3.f1 x0.f3.f2 x0.f3.f3 x0.f3.f4 x0.f3.f5 x0.f3.f6 x0.f3.f7 x0.f3.f8 x0.f3.f9 x0.f3.f10 x0.f3.f11 x0.f3.f12 x0.f3.f13 x0.f4 A0_5 c0_5 x0.f5 A0_6 c0_6 x0.f6 x0.f7 x0.f8 x1.f0 x1.f1 x1.f2 x1.f3 _ true W hr0_5 hl0_5 hr0_6 hl0_6 hP hG rfl).mono fun e W' ⟨he, bel⟩ => ?_
  subst he
  exact ⟨_, rfl, _, _, _, [], _, [], hW', trodAll_mk1 (shut_bool Tryd.underlying4 _), (trodAll_cons_mk (Below.trod laidOut (by kernel_rfl) (of_decide_eq_true (by kernel_rfl)) k0 bel lt0) (trodAll_cons_mk (Below.trod laidOut (by kernel_rfl) (of_decide_eq_true (by kernel_rfl)) k1 bel lt1) (trodAll_cons_mk (Below.trod laidOut (by kernel_rfl) (of_decide_eq_true (by kernel_rfl)) k2 bel lt2) trodAll_mk0))), rfl, bel.frame _, fun h => by cases h⟩
theorem over : Rows.statementFollowsRow.holds Tryd.pinned (OpenSpec.ofChange Rows.statementFollowsSpec) :=
  OpenClaim.holds_of_wide 6 Tryd.f6 rfl rfl rfl rfl rfl rfl rfl ⟨rfl, rfl, rfl, rfl, rfl⟩ rfl rfl rfl rfl rfl (by kernel_rfl) Tryd.func6 (by kernel_rfl)
    (of_decide_eq_true (by kernel_rfl)) (by unfold Func.isWrapper; first | (rw [if_pos (by decide +kernel)]; kernel_rfl) | (rw [if_neg (by decide +kernel)]; exact ⟨rfl, rfl⟩))
    (fun os started H enc _ => lifted os started H enc)
theorem statementFollows_card : Rows.StatementFollowsCardSaid :=
  Claim7.holds_tied_plain_at .later [] [.data, .data, .data] true (true, Rows.statementFollowsCard.stood.harness.2) false
    over (fun _ h => by cases h) (by kernel_rfl) (fun _ h => by cases h) statementFollows_row_tie rfl ⟨rfl, rfl⟩ (by kernel_rfl) rfl
    (fun f fn hf hfn => by
      obtain rfl : f = 6 := Option.some.inj ((show Tryd.prog.funcNamed Rows.statementFollowsRow.func = some 6 by kernel_rfl).symm.trans hf) |>.symm
      obtain rfl : fn = Tryd.f6 := (Option.some.inj (Tryd.func6.symm.trans hfn)).symm
      exact ⟨by kernel_rfl, fun j t ht => by
        rw [Tryd.params6] at ht
        have hm : t ∈ [33, 35, 3] := by simpa using Array.mem_of_getElem? ht
        have hall : ([33, 35, 3].all fun u => !Tryd.prog.wantsStandIn u) = true := by kernel_rfl
        exact (show Tryd.prog.wantsStandIn t = false by simpa using List.all_eq_true.1 hall t hm)⟩)
    (by kernel_rfl)
#print axioms statementFollows_card
end Go.Proofs.YtimjodgnlahclaaDoor.statementFollows
