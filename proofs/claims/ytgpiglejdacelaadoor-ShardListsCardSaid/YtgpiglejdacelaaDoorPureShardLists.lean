/-
  The accounts of each shard: the program's lists are the reference's, for any numbers of shards and at most 100 accounts.
-/
import Derived.Test.YtgpiglejdacelaaDoorSc
import Derived.Test.YtgpiglejdacelaaDoorTypes
namespace Go.Proofs.YtgpiglejdacelaaDoor.Pure
open Go.RowKit Go.Proofs.YtgpiglejdacelaaDoor.G Go.Proofs.YtgpiglejdacelaaDoorW.PrintWords Go.Proofs.YtgpiglejdacelaaDoorW.PrintLast Go.Proofs.YtgpiglejdacelaaDoorW.PrintMore

def corebanklaw50_ShardLists.Good : Prop := ∀ (x0 : List (Int)) (x1 : Int), (x0.length * 8 ≤ 140737488351232 ∧ ∀ y ∈ x0, (Lit.int .i64 y).wf = true) → (Lit.int .i64 x1).wf = true → ∃ k, corebanklaw50_ShardLists.f k x0 x1 = some true

theorem in_loop (L : List (List Int)) (s : Nat) (hs : s < L.length) (hl : L.length ≤ 1000) (hb : (rd_L2 L (s : Int)).length ≤ 1000) {R : Bool} (hR : Ev (fun k => corebanklaw50_ShardLists.l0 k L L ((s + 1 : Nat) : Int)) R) :
    ∀ (d j : Nat), j + d = (rd_L2 L (s : Int)).length → Ev (fun k => corebanklaw50_ShardLists.l1 k L L (s : Int) (j : Int)) R
  | 0, j, hd => Ev.step (f := fun k => corebanklaw50_ShardLists.l0 k L L ((s + 1 : Nat) : Int)) (fun k => by
      simp only [corebanklaw50_ShardLists.l1]; rw [if_pos (by omega), if_pos (by omega), if_neg (by omega), wrapn (by omega) (by omega)]; rfl) hR
  | d + 1, j, hd => Ev.step (f := fun k => corebanklaw50_ShardLists.l1 k L L (s : Int) ((j + 1 : Nat) : Int)) (fun k => by
      simp only [corebanklaw50_ShardLists.l1]; rw [if_pos (by omega), if_pos (by omega), if_pos (by omega), if_pos (by omega), if_pos (by omega), if_pos (by omega), if_pos trivial, wrapn (by omega) (by omega)]; rfl) (in_loop L s hs hl hb hR d (j + 1) (by omega))
theorem out_loop (L : List (List Int)) (hl : L.length ≤ 1000) (hb : ∀ s : Nat, s < L.length → (rd_L2 L (s : Int)).length ≤ 1000) : ∀ (d s : Nat), s + d = L.length → Ev (fun k => corebanklaw50_ShardLists.l0 k L L (s : Int)) true
  | 0, s, hd => Ev.step (f := fun k => (corebanklaw50_live.f k).bind fun t => some t) (fun k => by simp only [corebanklaw50_ShardLists.l0]; rw [if_neg (by omega)]) live_end
  | d + 1, s, hd => Ev.step (f := fun k => corebanklaw50_ShardLists.l1 k L L (s : Int) ((0 : Nat) : Int)) (fun k => by
      simp only [corebanklaw50_ShardLists.l0]; rw [if_pos (by omega), if_pos (by omega), if_pos (by omega), if_pos trivial]; rfl)
      (in_loop L s (by omega) hl (hb s (by omega)) (out_loop L hl hb d (s + 1) (by omega)) _ 0 (Nat.zero_add _))
theorem ShardLists : corebanklaw50_ShardLists.Good := by
  intro ids n h0 _
  refine Ev.rounds (g := fun k => corebanklaw50_ShardLists.f k ids n) ?_
  unfold corebanklaw50_ShardLists.f
  by_cases hl : (ids.length : Int) > 100
  · exact Ev.pos hl live_end
  · have hin : In64 ids := fun x hx => wf64 (h0.2 x hx)
    refine Ev.neg hl ?_
    refine Ev.bind (split_ev ids n (by omega) hin) ?_
    refine Ev.bind (rsplit_ev ids n (by omega) hin) ?_
    refine Ev.pos rfl ?_
    refine out_loop _ ?_ ?_ _ 0 (Nat.zero_add _)
    · split
      · rw [spl_len]; omega
      · simp
    · intro s hs
      split at hs
      · rename_i h
        rw [if_pos h, spl_at _ _ _ _ (by rw [spl_len] at hs; exact hs)]
        have := ptn_len ids n s
        omega
      · simp at hs

end Go.Proofs.YtgpiglejdacelaaDoor.Pure
