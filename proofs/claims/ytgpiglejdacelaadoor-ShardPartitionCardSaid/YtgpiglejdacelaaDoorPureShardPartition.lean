/-
  Every account is in the list of its shard alone, as often as in the list of all; for any numbers of shards and at most 100 accounts.
-/
import Derived.Test.YtgpiglejdacelaaDoorSc
import Derived.Test.YtgpiglejdacelaaDoorGx7
import Derived.Test.YtgpiglejdacelaaDoorTypes
namespace Go.Proofs.YtgpiglejdacelaaDoor.Pure
set_option linter.unusedVariables false
set_option linter.unusedSectionVars false
open Go.RowKit Go.Proofs.YtgpiglejdacelaaDoor.G Go.Proofs.YtgpiglejdacelaaDoorW.PrintWords Go.Proofs.YtgpiglejdacelaaDoorW.PrintLast Go.Proofs.YtgpiglejdacelaaDoorW.PrintMore

def corebanklaw50_ShardPartition.Good : Prop := ∀ (x0 : List (Int)) (x1 : Int) (x2 : Int), (x0.length * 8 ≤ 140737488351232 ∧ ∀ y ∈ x0, (Lit.int .i64 y).wf = true) → (Lit.int .i64 x1).wf = true → (Lit.int .i64 x2).wf = true → ∃ k, corebanklaw50_ShardPartition.f k x0 x1 x2 = some true

/-- How many of the first m lists' members meet p. -/
def sumP (p : Int → Bool) (ids : List Int) (n : Int) : Nat → Nat
  | 0 => 0
  | m + 1 => sumP p ids n m + (ptn ids n m).countP p
theorem sumP_cons (p : Int → Bool) (x : Int) (ids : List Int) (n : Int) : ∀ m, sumP p (x :: ids) n m = sumP p ids n m + if p x = true ∧ 0 ≤ ofV x n ∧ ofV x n < (m : Int) then 1 else 0
  | 0 => by simp only [sumP]; rw [if_neg (by omega)]
  | m + 1 => by
    simp only [sumP]
    rw [sumP_cons p x ids n m]
    by_cases e : ofV x n = (m : Int)
    · have hp : ptn (x :: ids) n m = x :: ptn ids n m := by unfold ptn; rw [List.filter_cons]; simp [e]
      rw [hp, List.countP_cons, if_neg (by omega)]
      by_cases px : p x = true
      · rw [if_pos px, if_pos ⟨px, by omega, by omega⟩]; omega
      · rw [if_neg px, if_neg (fun h => px h.1)]; omega
    · have hp : ptn (x :: ids) n m = ptn ids n m := by unfold ptn; rw [List.filter_cons]; simp [e]
      rw [hp]
      by_cases h : p x = true ∧ 0 ≤ ofV x n ∧ ofV x n < (m : Int)
      · rw [if_pos h, if_pos ⟨h.1, h.2.1, by omega⟩]; omega
      · rw [if_neg h, if_neg (fun g => h ⟨g.1, g.2.1, by have := g.2.2; omega⟩)]; omega
theorem sumP_nil (p : Int → Bool) (n : Int) : ∀ m, sumP p [] n m = 0
  | 0 => rfl
  | m + 1 => by simp only [sumP]; rw [sumP_nil p n m]; rfl
theorem sumP_all (p : Int → Bool) (n : Int) (h : 1 ≤ n ∧ n ≤ 8) : ∀ ids : List Int, sumP p ids n n.toNat = ids.countP p
  | [] => by rw [sumP_nil]; rfl
  | x :: ids => by
    rw [sumP_cons, sumP_all p n h ids, List.countP_cons]
    have := ofV_in x n h
    by_cases px : p x = true
    · rw [if_pos ⟨px, by omega, by omega⟩, if_pos px]
    · rw [if_neg (fun g => px g.1), if_neg px]
theorem sumP_mono (p : Int → Bool) (ids : List Int) (n : Int) : ∀ m d, sumP p ids n m ≤ sumP p ids n (m + d)
  | m, 0 => Nat.le_refl _
  | m, d + 1 => Nat.le_trans (sumP_mono p ids n m d) (by rw [← Nat.add_assoc]; simp only [sumP]; omega)

section
variable (ids : List Int) (n id : Int) (h : 1 ≤ n ∧ n ≤ 8) (hl : ids.length ≤ 100)
def eqs (id : Int) : Int → Bool := fun x => decide (x = id)
def anyP : Int → Bool := fun _ => true
include h hl in
theorem count_ev {R : Bool} (hR : Ev (fun k => corebanklaw50_ShardPartition.l1 k ids n id (spl ids n n.toNat) (ofV id n) (((ids.countP (eqs id)) : Nat) : Int) 0 0) R) : ∀ (d i : Nat), i + d = ids.length →
    Ev (fun k => corebanklaw50_ShardPartition.l0 k ids n id (spl ids n n.toNat) (ofV id n) ((((ids.take i).countP (eqs id)) : Nat) : Int) (i : Int)) R
  | 0, i, hd => Ev.step (f := fun k => corebanklaw50_ShardPartition.l1 k ids n id (spl ids n n.toNat) (ofV id n) (((ids.countP (eqs id)) : Nat) : Int) 0 0) (fun k => by
      simp only [corebanklaw50_ShardPartition.l0]; rw [if_neg (by omega), List.take_of_length_le (by omega)]) hR
  | d + 1, i, hd => by
    have hi : i < ids.length := by omega
    have ih := count_ev hR d (i + 1) (by omega)
    rw [take_next ids i hi, List.countP_append] at ih
    have hb : (ids.take i).countP (eqs id) ≤ 100 := Nat.le_trans List.countP_le_length (by rw [List.length_take]; omega)
    refine Ev.step (f := fun k => corebanklaw50_ShardPartition.l0 k ids n id (spl ids n n.toNat) (ofV id n) ((((ids.take i).countP (eqs id) + [ids[i]].countP (eqs id)) : Nat) : Int) ((i + 1 : Nat) : Int)) (fun k => ?_) ih
    simp only [corebanklaw50_ShardPartition.l0]
    rw [if_pos (by omega), if_pos (by omega), rd_get ids i hi, wrapn (i := (i : Int) + 1) (by omega) (by omega)]
    by_cases e : ids[i] = id
    · rw [if_pos e, wrapn (by omega) (by omega), show [ids[i]].countP (eqs id) = 1 by simp [eqs, e]]; rfl
    · rw [if_neg e, show [ids[i]].countP (eqs id) = 0 by simp [eqs, e]]; rfl
include h hl in
theorem in_ev (s : Nat) (hs : s < n.toNat) (c S : Int) (hc : -1000 ≤ c ∧ c ≤ 1000) {R : Bool}
    (hR : Ev (fun k => corebanklaw50_ShardPartition.l1 k ids n id (spl ids n n.toNat) (ofV id n) (c - (((ptn ids n s).countP (eqs id) : Nat) : Int)) S ((s + 1 : Nat) : Int)) R) : ∀ (d j : Nat), j + d = (ptn ids n s).length →
    Ev (fun k => corebanklaw50_ShardPartition.l2 k ids n id (spl ids n n.toNat) (ofV id n) (c - ((((ptn ids n s).take j).countP (eqs id) : Nat) : Int)) S (s : Int) (j : Int)) R
  | 0, j, hd => Ev.step (f := fun k => corebanklaw50_ShardPartition.l1 k ids n id (spl ids n n.toNat) (ofV id n) (c - (((ptn ids n s).countP (eqs id) : Nat) : Int)) S ((s + 1 : Nat) : Int)) (fun k => by
      simp only [corebanklaw50_ShardPartition.l2]
      rw [if_pos (by omega), spl_len, if_pos (by omega), spl_at ids n _ s hs, if_neg (by omega), List.take_of_length_le (by omega), wrapn (by omega) (by omega)]; rfl) hR
  | d + 1, j, hd => by
    have hj : j < (ptn ids n s).length := by omega
    have ih := in_ev s hs c S hc hR d (j + 1) (by omega)
    rw [take_next _ j hj, List.countP_append] at ih
    have hpl := ptn_len ids n s
    have hb : ((ptn ids n s).take j).countP (eqs id) ≤ 100 := Nat.le_trans List.countP_le_length (by rw [List.length_take]; omega)
    have hm : ofV (ptn ids n s)[j] n = (s : Int) := by
      have := List.getElem_mem hj
      unfold ptn at this
      rw [List.mem_filter] at this
      exact of_decide_eq_true this.2
    refine Ev.step (f := fun k => corebanklaw50_ShardPartition.j4 k ids n id (spl ids n n.toNat) (ofV id n) (c - ((((ptn ids n s).take j).countP (eqs id) : Nat) : Int)) S (s : Int) (j : Int) false) (fun k => ?_) ?_
    · simp only [corebanklaw50_ShardPartition.l2]
      rw [if_pos (by omega), spl_len, if_pos (by omega), spl_at ids n _ s hs, if_pos (by omega), if_pos (by omega), rd_get _ j hj]
      by_cases e : (ptn ids n s)[j] = id
      · rw [if_pos e]
        have : ((s : Int) != ofV id n) = false := by rw [← e, hm]; simp
        rw [this]
      · rw [if_neg e]
    · refine Ev.step (f := fun k => corebanklaw50_ShardPartition.l2 k ids n id (spl ids n n.toNat) (ofV id n) (c - ((((ptn ids n s).take j).countP (eqs id) + [(ptn ids n s)[j]].countP (eqs id) : Nat) : Int)) S (s : Int) ((j + 1 : Nat) : Int)) (fun k => ?_) ih
      simp only [corebanklaw50_ShardPartition.j4]
      rw [if_neg (by decide), if_pos (by omega), spl_len, if_pos (by omega), if_pos (by omega), spl_at ids n _ s hs, if_pos (by omega), rd_get _ j hj, wrapn (i := (j : Int) + 1) (by omega) (by omega)]
      by_cases e : (ptn ids n s)[j] = id
      · rw [if_pos e, wrapn (by omega) (by omega), show [(ptn ids n s)[j]].countP (eqs id) = 1 by simp [eqs, e]]
        rw [show c - ((((ptn ids n s).take j).countP (eqs id) + 1 : Nat) : Int) = c - ((((ptn ids n s).take j).countP (eqs id) : Nat) : Int) - 1 by omega]; rfl
      · rw [if_neg e, show [(ptn ids n s)[j]].countP (eqs id) = 0 by simp [eqs, e]]; rfl
include h hl in
theorem out_ev : ∀ (d s : Nat), s + d = n.toNat →
    Ev (fun k => corebanklaw50_ShardPartition.l1 k ids n id (spl ids n n.toNat) (ofV id n) (((ids.countP (eqs id) : Nat) : Int) - ((sumP (eqs id) ids n s : Nat) : Int)) ((sumP anyP ids n s : Nat) : Int) (s : Int)) true
  | 0, s, hd => by
    refine Ev.step (f := fun k => (corebanklaw50_live.f k).bind fun t => some t) (fun k => ?_) live_end
    obtain rfl : s = n.toNat := by omega
    have e1 := sumP_all (eqs id) n h ids
    have e2 := sumP_all anyP n h ids
    have e3 : ids.countP anyP = ids.length := by unfold anyP; simp
    simp only [corebanklaw50_ShardPartition.l1]
    rw [if_neg (by omega), if_pos (by omega), if_pos (by omega)]
  | d + 1, s, hd => by
    have hs : s < n.toNat := by omega
    have ih := out_ev d (s + 1) (by omega)
    have hpl := ptn_len ids n s
    have hcl : ids.countP (eqs id) ≤ ids.length := List.countP_le_length
    have e1 : sumP (eqs id) ids n s ≤ ids.countP (eqs id) := by
      rw [← sumP_all (eqs id) n h ids]
      have := sumP_mono (eqs id) ids n s (n.toNat - s)
      rwa [show s + (n.toNat - s) = n.toNat by omega] at this
    have e2 : sumP anyP ids n s ≤ ids.length := by
      have h1 := sumP_all anyP n h ids
      have h2 := sumP_mono anyP ids n s (n.toNat - s)
      rw [show s + (n.toNat - s) = n.toNat by omega, h1] at h2
      exact Nat.le_trans h2 List.countP_le_length
    have e3 : (ptn ids n s).countP anyP = (ptn ids n s).length := by unfold anyP; simp
    refine Ev.step (f := fun k => corebanklaw50_ShardPartition.l2 k ids n id (spl ids n n.toNat) (ofV id n) ((((ids.countP (eqs id) : Nat) : Int) - ((sumP (eqs id) ids n s : Nat) : Int)) - ((((ptn ids n s).take 0).countP (eqs id) : Nat) : Int)) ((sumP anyP ids n (s + 1) : Nat) : Int) (s : Int) ((0 : Nat) : Int)) (fun k => ?_) ?_
    · simp only [corebanklaw50_ShardPartition.l1]
      rw [if_pos (by omega), if_pos (by omega), spl_len, if_pos (by omega), spl_at ids n _ s hs, wrapn (by omega) (by omega)]
      simp only [sumP, e3, List.take_zero, List.countP_nil]
      rw [show (((ids.countP (eqs id) : Nat) : Int) - ((sumP (eqs id) ids n s : Nat) : Int)) - ((0 : Nat) : Int) = ((ids.countP (eqs id) : Nat) : Int) - ((sumP (eqs id) ids n s : Nat) : Int) by omega]
      rfl
    · refine in_ev ids n id h hl s hs _ _ (by omega) ?_ _ 0 (Nat.zero_add _)
      simp only [sumP] at ih
      have e4 : (((ids.countP (eqs id) : Nat) : Int) - ((sumP (eqs id) ids n s : Nat) : Int)) - (((ptn ids n s).countP (eqs id) : Nat) : Int) = ((ids.countP (eqs id) : Nat) : Int) - ((sumP (eqs id) ids n s + (ptn ids n s).countP (eqs id) : Nat) : Int) := by omega
      rw [e4]
      exact ih
end
theorem ShardPartition : corebanklaw50_ShardPartition.Good := by
  intro ids n id h0 _ hid
  have hi := wf64 hid
  refine Ev.rounds (g := fun k => corebanklaw50_ShardPartition.f k ids n id) ?_
  unfold corebanklaw50_ShardPartition.f
  by_cases hl : (ids.length : Int) > 100
  · exact Ev.pos hl live_end
  · have hin : In64 ids := fun x hx => wf64 (h0.2 x hx)
    refine Ev.neg hl ?_
    refine Ev.bind (split_ev ids n (by omega) hin) ?_
    simp only [good_ev, Option.bind_some]
    by_cases h : 1 ≤ n ∧ n ≤ 8
    · have hv := ofV_in id n h
      refine Ev.pos (by simpa using h) ?_
      refine Ev.bind (of_ev id n hi.1 hi.2) ?_
      simp only [if_pos h]
      refine Ev.pos (by rw [spl_len]; omega) ?_
      refine Ev.neg (by omega) ?_
      rw [show decide (ofV id n ≥ n) = false by apply decide_eq_false; omega]
      refine Ev.step (f := fun k => corebanklaw50_ShardPartition.l0 k ids n id (spl ids n n.toNat) (ofV id n) ((((ids.take 0).countP (eqs id)) : Nat) : Int) ((0 : Nat) : Int)) (fun k => by
        simp only [corebanklaw50_ShardPartition.j0]; rw [if_neg (by decide)]; rfl) ?_
      refine count_ev ids n id h (by omega) ?_ ids.length 0 (Nat.zero_add _)
      have e := out_ev ids n id h (by omega) n.toNat 0 (Nat.zero_add _)
      simp only [sumP] at e
      rw [show ((ids.countP (eqs id) : Nat) : Int) - ((0 : Nat) : Int) = ((ids.countP (eqs id) : Nat) : Int) by omega] at e
      exact e
    · refine Ev.neg (by simpa using h) ?_
      simp only [if_neg h]
      refine Ev.pos (by rfl) ?_
      refine Ev.bind (of_ev id n hi.1 hi.2) ?_
      refine Ev.pos (by unfold ofV; rw [if_neg h]) ?_
      exact live_end

end Go.Proofs.YtgpiglejdacelaaDoor.Pure
