/-
  SHARDS, PLAIN: both texts of the lists of the shards come to the same lists; the tasks.
-/
import Derived.Test.YtgpiglejdacelaaDoorSa
import Derived.Test.YtgpiglejdacelaaDoorGx5
import Derived.Test.YtgpiglejdacelaaDoorGx6
import Derived.Test.YtgpiglejdacelaaDoorGx8
namespace Go.Proofs.YtgpiglejdacelaaDoor.G
open Go.RowKit Go.Proofs.YtgpiglejdacelaaDoorW.PrintWords Go.Proofs.YtgpiglejdacelaaDoorW.PrintLast Go.Proofs.YtgpiglejdacelaaDoorW.PrintMore

def ptn (ids : List Int) (n : Int) (s : Nat) : List Int := ids.filter fun x => decide (ofV x n = (s : Int))
def spl (ids : List Int) (n : Int) (m : Nat) : List (List Int) := (List.range m).map (ptn ids n)
def In64 (ids : List Int) : Prop := ∀ x ∈ ids, -9223372036854775808 ≤ x ∧ x ≤ 9223372036854775807
theorem ptn_len (ids : List Int) (n : Int) (s : Nat) : (ptn ids n s).length ≤ ids.length := List.length_filter_le _ _
theorem ptn_snoc (ids : List Int) (x n : Int) (s : Nat) : ptn (ids ++ [x]) n s = ptn ids n s ++ if ofV x n = (s : Int) then [x] else [] := by
  unfold ptn
  rw [List.filter_append]
  by_cases h : ofV x n = (s : Int) <;> simp [h]
theorem spl_len (ids : List Int) (n : Int) (m : Nat) : (spl ids n m).length = m := by simp [spl]
theorem spl_at (ids : List Int) (n : Int) (m s : Nat) (h : s < m) : rd_L2 (spl ids n m) (s : Int) = ptn ids n s := by
  unfold rd_L2 spl
  simp [h]
theorem spl_set (ids : List Int) (x n : Int) (m : Nat) (t : Int) (ht : ofV x n = t) (h0 : 0 ≤ t) (hm : t < (m : Int)) :
    (spl ids n m).set t.toNat (rd_L2 (spl ids n m) t ++ [x]) = spl (ids ++ [x]) n m := by
  obtain ⟨s, rfl⟩ : ∃ s : Nat, t = (s : Int) := ⟨t.toNat, by omega⟩
  have hs : s < m := by omega
  rw [spl_at ids n m s hs, Int.toNat_natCast]
  apply List.ext_getElem
  · simp [spl]
  · intro j h1 h2
    have hj : j < m := by simpa [spl] using h2
    rw [List.getElem_set]
    simp only [spl, List.getElem_map, List.getElem_range]
    rw [ptn_snoc]
    by_cases e : s = j
    · subst e; rw [if_pos rfl, if_pos ht]
    · rw [if_neg e, if_neg (by rw [ht]; omega), List.append_nil]
theorem rd_get (ids : List Int) (i : Nat) (h : i < ids.length) : rd ids (i : Int) = ids[i] := by
  unfold rd; rw [Int.toNat_natCast, List.getD_eq_getElem?_getD, List.getElem?_eq_getElem h]; rfl
theorem take_next (ids : List Int) (i : Nat) (h : i < ids.length) : ids.take (i + 1) = ids.take i ++ [ids[i]] := (List.take_append_getElem h).symm

theorem split_loop (ids : List Int) (n : Int) (h : 1 ≤ n ∧ n ≤ 8) (hl : ids.length ≤ 1000) (hin : In64 ids) : ∀ (d i : Nat), i + d = ids.length →
    Ev (fun k => shard_Split.l0 k n (spl (ids.take i) n n.toNat) ids (ids.length : Int) (i : Int)) (spl ids n n.toNat)
  | 0, i, hd => by
    refine Ev.step (f := fun _ => some _) (fun k => by simp only [shard_Split.l0]; rw [if_neg (by omega)]) ?_
    rw [List.take_of_length_le (by omega)]
    exact Ev.now _
  | d + 1, i, hd => by
    have hi : i < ids.length := by omega
    have hx := hin ids[i] (List.getElem_mem hi)
    have hv := ofV_in ids[i] n h
    refine Ev.step (f := fun k => (shard_Of.f k ids[i] n).bind fun t => (if 0 ≤ t then (if t < ((spl (ids.take i) n n.toNat).length : Int) then (if (rd_L2 (spl (ids.take i) n n.toNat) t).length < 17592186044416 then (shard_Split.l0 k n ((spl (ids.take i) n n.toNat).set (t : Int).toNat ((rd_L2 (spl (ids.take i) n n.toNat) t) ++ [ids[i]])) ids (ids.length : Int) (((i + 1 : Nat) : Int))) else (none)) else (none)) else (none)))
      (fun k => by
        simp only [shard_Split.l0]
        rw [if_pos (by omega), if_pos (by omega), if_pos (by omega), rd_get ids i hi, wrapn (i := (i : Int) + 1) (by omega) (by omega)]
        rfl) ?_
    refine Ev.bind (f := fun k t => (if 0 ≤ t then (if t < ((spl (ids.take i) n n.toNat).length : Int) then (if (rd_L2 (spl (ids.take i) n n.toNat) t).length < 17592186044416 then (shard_Split.l0 k n ((spl (ids.take i) n n.toNat).set (t : Int).toNat ((rd_L2 (spl (ids.take i) n n.toNat) t) ++ [ids[i]])) ids (ids.length : Int) (((i + 1 : Nat) : Int))) else (none)) else (none)) else (none))) (of_ev ids[i] n hx.1 hx.2) ?_
    have hlen : (rd_L2 (spl (ids.take i) n n.toNat) (ofV ids[i] n)).length < 17592186044416 := by
      obtain ⟨s, hs⟩ : ∃ s : Nat, ofV ids[i] n = (s : Int) := ⟨(ofV ids[i] n).toNat, by omega⟩
      rw [hs, spl_at _ _ _ _ (by omega)]
      have := ptn_len (ids.take i) n s
      have := List.length_take_le i ids
      have : (ids.take i).length ≤ ids.length := by rw [List.length_take]; omega
      omega
    refine Ev.congr (f := fun k => shard_Split.l0 k n (spl (ids.take (i + 1)) n n.toNat) ids (ids.length : Int) ((i + 1 : Nat) : Int)) (fun k => ?_) (split_loop ids n h hl hin d (i + 1) (by omega))
    rw [if_pos hv.1, spl_len, if_pos (by omega), if_pos hlen, spl_set _ _ _ _ _ rfl hv.1 (by omega), ← take_next ids i hi]
theorem spl_nil (n : Int) (m : Nat) : spl [] n m = List.replicate m [] := by
  unfold spl ptn
  simp [List.map_const']
theorem split_ev (ids : List Int) (n : Int) (hl : ids.length ≤ 1000) (hin : In64 ids) : Ev (fun k => shard_Split.f k ids n) (if 1 ≤ n ∧ n ≤ 8 then spl ids n n.toNat else []) := by
  by_cases h : 1 ≤ n ∧ n ≤ 8
  · rw [if_pos h]
    refine Ev.congr (f := fun k => shard_Split.l0 k n (spl (ids.take 0) n n.toNat) ids (ids.length : Int) ((0 : Nat) : Int)) (fun k => ?_) (split_loop ids n h hl hin ids.length 0 (by omega))
    simp only [shard_Split.f, number_ev, decide_eq_true h, Option.bind_some, if_true]
    rw [if_pos (by omega), if_pos (by omega), List.take_zero, spl_nil]
    rfl
  · rw [if_neg h]
    refine Ev.congr (f := fun _ => some []) (fun k => ?_) (Ev.now _)
    simp only [shard_Split.f, number_ev, decide_eq_false h, Option.bind_some]; rfl

theorem rsplit_in (ids : List Int) (n : Int) (hl : ids.length ≤ 1000) (hin : In64 ids) (acc : List (List Int)) (s : Nat) (R : List (List Int))
    (hR : Ev (fun k => if acc.length < 5864062014805 then (corebankref50_Split.l0 k ids n (acc ++ [ptn ids n s]) (wrap64 ((s : Int) + 1))) else none) R) : ∀ (d i : Nat), i + d = ids.length →
    Ev (fun k => corebankref50_Split.l1 k ids n acc (s : Int) (ptn (ids.take i) n s) (i : Int)) R
  | 0, i, hd => by
    refine Ev.step (f := fun k => if acc.length < 5864062014805 then (corebankref50_Split.l0 k ids n (acc ++ [ptn ids n s]) (wrap64 ((s : Int) + 1))) else none) (fun k => ?_) hR
    simp only [corebankref50_Split.l1]; rw [if_neg (by omega), List.take_of_length_le (by omega)]
  | d + 1, i, hd => by
    have hi : i < ids.length := by omega
    have hx := hin ids[i] (List.getElem_mem hi)
    have hlen : (ptn (ids.take i) n s).length < 17592186044416 := by
      have := ptn_len (ids.take i) n s
      have : (ids.take i).length ≤ ids.length := by rw [List.length_take]; omega
      omega
    refine Ev.step (f := fun k => (corebankref50_Of.f k ids[i] n).bind fun t => (if t = (s : Int) then (if (ptn (ids.take i) n s).length < 17592186044416 then (corebankref50_Split.l1 k ids n acc (s : Int) (ptn (ids.take i) n s ++ [ids[i]]) ((i + 1 : Nat) : Int)) else none) else (corebankref50_Split.l1 k ids n acc (s : Int) (ptn (ids.take i) n s) ((i + 1 : Nat) : Int))))
      (fun k => by
        simp only [corebankref50_Split.l1]
        rw [if_pos (by omega), if_pos (by omega), rd_get ids i hi, wrapn (i := (i : Int) + 1) (by omega) (by omega)]
        rfl) ?_
    refine Ev.bind (f := fun k t => (if t = (s : Int) then (if (ptn (ids.take i) n s).length < 17592186044416 then (corebankref50_Split.l1 k ids n acc (s : Int) (ptn (ids.take i) n s ++ [ids[i]]) ((i + 1 : Nat) : Int)) else none) else (corebankref50_Split.l1 k ids n acc (s : Int) (ptn (ids.take i) n s) ((i + 1 : Nat) : Int)))) (rof_ev ids[i] n hx.1 hx.2) ?_
    have ih := rsplit_in ids n hl hin acc s R hR d (i + 1) (by omega)
    rw [take_next ids i hi, ptn_snoc] at ih
    by_cases e : ofV ids[i] n = (s : Int)
    · rw [if_pos e] at ih
      simp only [if_pos e, if_pos hlen]; exact ih
    · rw [if_neg e, List.append_nil] at ih
      simp only [if_neg e]; exact ih
theorem rsplit_out (ids : List Int) (n : Int) (h : 1 ≤ n ∧ n ≤ 8) (hl : ids.length ≤ 1000) (hin : In64 ids) : ∀ (d s : Nat), s + d = n.toNat →
    Ev (fun k => corebankref50_Split.l0 k ids n (spl ids n s) (s : Int)) (spl ids n n.toNat)
  | 0, s, hd => by
    refine Ev.step (f := fun _ => some _) (fun k => by simp only [corebankref50_Split.l0]; rw [if_neg (by omega)]) ?_
    rw [show s = n.toNat by omega]
    exact Ev.now _
  | d + 1, s, hd => by
    refine Ev.step (f := fun k => corebankref50_Split.l1 k ids n (spl ids n s) (s : Int) (ptn (ids.take 0) n s) ((0 : Nat) : Int)) (fun k => by simp only [corebankref50_Split.l0]; rw [if_pos (by omega)]; rfl) ?_
    refine rsplit_in ids n hl hin _ s _ ?_ ids.length 0 (by omega)
    have e : spl ids n s ++ [ptn ids n s] = spl ids n (s + 1) := by unfold spl; rw [List.range_succ, List.map_append]; rfl
    simp only [spl_len, if_pos (show s < 5864062014805 by omega), e, wrapn (i := (s : Int) + 1) (by omega) (by omega)]
    exact rsplit_out ids n h hl hin d (s + 1) (by omega)
theorem rsplit_ev (ids : List Int) (n : Int) (hl : ids.length ≤ 1000) (hin : In64 ids) : Ev (fun k => corebankref50_Split.f k ids n) (if 1 ≤ n ∧ n ≤ 8 then spl ids n n.toNat else []) := by
  by_cases h : 1 ≤ n ∧ n ≤ 8
  · rw [if_pos h]
    refine Ev.congr (f := fun k => corebankref50_Split.l0 k ids n (spl ids n 0) ((0 : Nat) : Int)) (fun k => ?_) (rsplit_out ids n h hl hin n.toNat 0 (by omega))
    simp only [corebankref50_Split.f, good_ev, decide_eq_true h, Option.bind_some, if_true]
    rfl
  · rw [if_neg h]
    refine Ev.congr (f := fun _ => some []) (fun k => ?_) (Ev.now _)
    simp only [corebankref50_Split.f, good_ev, decide_eq_false h, Option.bind_some]; rfl

/-! ### tasks: eight numbers of shards, by the kernel -/
def tasksV (n : Int) : List S36 := (shard_Tasks.f 200 n).getD []
theorem eight {P : Int → Prop} (h1 : P 1) (h2 : P 2) (h3 : P 3) (h4 : P 4) (h5 : P 5) (h6 : P 6) (h7 : P 7) (h8 : P 8) (n : Int) (h : 1 ≤ n ∧ n ≤ 8) : P n := by
  have : n = 1 ∨ n = 2 ∨ n = 3 ∨ n = 4 ∨ n = 5 ∨ n = 6 ∨ n = 7 ∨ n = 8 := by omega
  rcases this with rfl | rfl | rfl | rfl | rfl | rfl | rfl | rfl <;> assumption
theorem tasks_some (n : Int) (h : 1 ≤ n ∧ n ≤ 8) : (shard_Tasks.f 200 n).isSome = true :=
  eight (P := fun n => (shard_Tasks.f 200 n).isSome = true) (by kernel_rfl) (by kernel_rfl) (by kernel_rfl) (by kernel_rfl) (by kernel_rfl) (by kernel_rfl) (by kernel_rfl) (by kernel_rfl) n h
theorem rtasks_same (n : Int) (h : 1 ≤ n ∧ n ≤ 8) : corebankref50_Tasks.f 200 n = shard_Tasks.f 200 n :=
  eight (P := fun n => corebankref50_Tasks.f 200 n = shard_Tasks.f 200 n) (by kernel_rfl) (by kernel_rfl) (by kernel_rfl) (by kernel_rfl) (by kernel_rfl) (by kernel_rfl) (by kernel_rfl) (by kernel_rfl) n h
theorem tasks_len (n : Int) (h : 1 ≤ n ∧ n ≤ 8) : ((tasksV n).length : Int) = 8 * n + 1 :=
  eight (P := fun n => ((tasksV n).length : Int) = 8 * n + 1) (by kernel_rfl) (by kernel_rfl) (by kernel_rfl) (by kernel_rfl) (by kernel_rfl) (by kernel_rfl) (by kernel_rfl) (by kernel_rfl) n h
theorem tasks_is (n : Int) (h : 1 ≤ n ∧ n ≤ 8) : shard_Tasks.f 200 n = some (tasksV n) := by
  have := tasks_some n h
  unfold tasksV
  obtain ⟨l, hl⟩ := Option.isSome_iff_exists.1 this
  rw [hl]; rfl
theorem tasks_none (n : Int) (h : ¬ (1 ≤ n ∧ n ≤ 8)) (k : Nat) : shard_Tasks.f k n = some [] := by
  simp only [shard_Tasks.f, number_ev, decide_eq_false h, Option.bind_some]; rfl
theorem rtasks_none (n : Int) (h : ¬ (1 ≤ n ∧ n ≤ 8)) (k : Nat) : corebankref50_Tasks.f k n = some [] := by
  simp only [corebankref50_Tasks.f, good_ev, decide_eq_false h, Option.bind_some]; rfl
theorem tasks_ev (n : Int) : Ev (fun k => shard_Tasks.f k n) (tasksV n) := by
  by_cases h : 1 ≤ n ∧ n ≤ 8
  · exact Ev.of (fun k => shard_Tasks.mono n k) (tasks_is n h)
  · have e : tasksV n = [] := by unfold tasksV; rw [tasks_none n h]; rfl
    rw [e]; exact Ev.congr (fun k => tasks_none n h k) (Ev.now _)
theorem rtasks_ev (n : Int) : Ev (fun k => corebankref50_Tasks.f k n) (tasksV n) := by
  by_cases h : 1 ≤ n ∧ n ≤ 8
  · exact Ev.of (fun k => corebankref50_Tasks.mono n k) ((rtasks_same n h).trans (tasks_is n h))
  · have e : tasksV n = [] := by unfold tasksV; rw [tasks_none n h]; rfl
    rw [e]; exact Ev.congr (fun k => rtasks_none n h k) (Ev.now _)

/-! ### the next task, the check -/
def nextV (a : Bool) (i n : Int) : Int × Int × Bool :=
  if a = true then (if i < 0 then (0, 0, false) else if i ≥ ((tasksV n).length : Int) then (0, 0, false) else ((rd_T36 (tasksV n) i).f0, (rd_T36 (tasksV n) i).f1, true)) else (0, 0, false)
theorem next_ev (a : Bool) (i n r : Int) : Ev (fun k => shard_Next.f k a i n r) (nextV a i n) := by
  refine Ev.bind (f := fun _ t => (if a = true then (if i < 0 then (some (0, 0, false)) else (if i ≥ (t.length : Int) then (some (0, 0, false)) else (if 0 ≤ i then (if i < (t.length : Int) then (some ((rd_T36 t i).f0, (rd_T36 t i).f1, true)) else (none)) else (none)))) else (some (0, 0, false)))) (tasks_ev n) ?_
  refine Ev.congr (f := fun _ => some (nextV a i n)) (fun k => ?_) (Ev.now _)
  unfold nextV
  cases a
  · rfl
  · simp only [if_true]
    by_cases h1 : i < 0
    · rw [if_pos h1, if_pos h1]
    · rw [if_neg h1, if_neg h1]
      by_cases h2 : i ≥ ((tasksV n).length : Int)
      · rw [if_pos h2, if_pos h2]
      · rw [if_neg h2, if_neg h2, if_pos (by omega), if_pos (by omega)]
theorem rnext_ev (a : Bool) (i n r : Int) : Ev (fun k => corebankref50_Next.f k a i n r) (nextV a i n) := by
  refine Ev.bind (f := fun _ t => (if a = true then (if i < 0 then (some (0, 0, false)) else (if i ≥ (t.length : Int) then (some (0, 0, false)) else (if 0 ≤ i then (if i < (t.length : Int) then (some ((rd_T36 t i).f0, (rd_T36 t i).f1, true)) else (none)) else (none)))) else (some (0, 0, false)))) (rtasks_ev n) ?_
  refine Ev.congr (f := fun _ => some (nextV a i n)) (fun k => ?_) (Ev.now _)
  unfold nextV
  cases a
  · rfl
  · simp only [if_true]
    by_cases h1 : i < 0
    · rw [if_pos h1, if_pos h1]
    · rw [if_neg h1, if_neg h1]
      by_cases h2 : i ≥ ((tasksV n).length : Int)
      · rw [if_pos h2, if_pos h2]
      · rw [if_neg h2, if_neg h2, if_pos (by omega), if_pos (by omega)]
def checkV (a : Bool) (i n r : Int) : Int :=
  if a = true then (if (nextV a i n).2.2 = true then (if r < 0 then 1 else 0) else 1) else (if i = 0 ∧ n = 0 ∧ r = 0 then 0 else 1)
theorem check_ev (a : Bool) (i n r : Int) : Ev (fun k => shard_Check.f k a i n r) (checkV a i n r) := by
  unfold checkV
  cases a
  · refine Ev.congr (f := fun _ => some _) (fun k => ?_) (Ev.now _)
    by_cases h : i = 0 ∧ n = 0 ∧ r = 0
    · obtain ⟨rfl, rfl, rfl⟩ := h; rfl
    · simp only [shard_Check.f, if_neg (show ¬ (false = true) by decide), if_neg h]
      rw [if_pos]
      simp only [Bool.false_or, Bool.or_eq_true, Bool.not_eq_true', beq_eq_false_iff_ne, ne_eq]
      omega
  · simp only [if_true]
    refine Ev.congr (f := fun k => (shard_Next.f k true i n r).bind fun b => (if b.2.2 = true then (if r < 0 then (some 1) else (some 0)) else (some 1))) (fun k => by simp only [shard_Check.f, if_true]) ?_
    refine Ev.bind (f := fun _ b => (if b.2.2 = true then (if r < 0 then (some (1 : Int)) else (some 0)) else (some 1))) (next_ev true i n r) ?_
    refine Ev.congr (f := fun _ => some _) (fun k => ?_) (Ev.now _)
    by_cases h : (nextV true i n).2.2 = true
    · rw [if_pos h, if_pos h]; split <;> rfl
    · rw [if_neg h, if_neg h]
theorem rcheck_ev (a : Bool) (i n r : Int) : Ev (fun k => corebankref50_Check.f k a i n r) (checkV a i n r) := by
  unfold checkV
  cases a
  · by_cases h : i = 0 ∧ n = 0 ∧ r = 0
    · obtain ⟨rfl, rfl, rfl⟩ := h
      exact Ev.congr (f := fun _ => some _) (fun k => by rfl) (Ev.now _)
    · simp only [if_neg (show ¬ (false = true) by decide), if_neg h]
      refine Ev.congr (f := fun k => (corebankref50_Next.f k false i n r).bind fun b => (if b.2.2 = true then (if r < 0 then (some 1) else (some 0)) else (some 1))) (fun k => by
        simp only [corebankref50_Check.f]
        rw [if_neg]
        simp only [Bool.not_false, Bool.true_and, Bool.and_eq_true, beq_iff_eq]
        omega) ?_
      exact Ev.bind (f := fun _ b => (if b.2.2 = true then (if r < 0 then (some (1 : Int)) else (some 0)) else (some 1))) (rnext_ev false i n r) (Ev.congr (f := fun _ => some (1 : Int)) (fun k => by rfl) (Ev.now _))
  · simp only [if_true]
    refine Ev.congr (f := fun k => (corebankref50_Next.f k true i n r).bind fun b => (if b.2.2 = true then (if r < 0 then (some 1) else (some 0)) else (some 1))) (fun k => by
      simp only [corebankref50_Check.f]; rw [if_neg (by simp)]) ?_
    refine Ev.bind (f := fun _ b => (if b.2.2 = true then (if r < 0 then (some (1 : Int)) else (some 0)) else (some 1))) (rnext_ev true i n r) ?_
    refine Ev.congr (f := fun _ => some _) (fun k => ?_) (Ev.now _)
    by_cases h : (nextV true i n).2.2 = true
    · rw [if_pos h, if_pos h]; split <;> rfl
    · rw [if_neg h, if_neg h]
end Go.Proofs.YtgpiglejdacelaaDoor.G
