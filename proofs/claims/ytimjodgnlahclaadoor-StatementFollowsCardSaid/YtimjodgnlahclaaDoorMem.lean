/-
  MEMORY OF A CALL, BLOCK BY BLOCK: a list of the call's own blocks with what they hold; what was there before the call is as it was. Boxes, loads and stores of whole blocks as single steps, behind each of which the world is a variable.
-/
import Derived.Test.YtimjodgnlahclaaDoorWWords
import Derived.Laws.Tables
import Derived.Laws.Rows
import Derived.WalkKit
namespace Go.Proofs.YtimjodgnlahclaaDoor.G
open Go.RowKit Go.Proofs.YtimjodgnlahclaaDoorW.PrintWords
set_option linter.unusedVariables false

/-- A block of the call's own: its number, its type, its cells. -/
abbrev Blk := Nat × TypeId × Array Value
/-- w: the world when the call began; W: now; L: the call's own blocks. -/
structure Mem (w W : World) (L : List Blk) : Prop where
  below : Below w.heap.size w W
  blk : ∀ (i : Nat) (b : Blk), L[i]? = some b → W.heap[b.1]? = some (.cells b.2.2 b.2.1 (0, 0)) ∧ w.heap.size ≤ b.1
  nd : ∀ (i j : Nat) (b c : Blk), L[i]? = some b → L[j]? = some c → b.1 = c.1 → i = j
/-- All blocks but one are as they were. -/
structure KeptB (g : Nat) (W W1 : World) : Prop where
  os : W1.os = W.os
  tape : W1.tape = W.tape
  output : W1.output = W.output
  size : W1.heap.size = W.heap.size
  block : ∀ k, k ≠ g → W1.heap[k]? = W.heap[k]?
section
variable {w W W1 : World} {L : List Blk}
theorem Mem.nil (w : World) : Mem w w [] := ⟨Below.refl _ _, fun i b h => by simp at h, fun i j b c h => by simp at h⟩
theorem Mem.size (h : Mem w W L) : w.heap.size ≤ W.heap.size := h.below.size
theorem Mem.get (h : Mem w W L) (i : Nat) {g : Nat} {t : TypeId} {cs : Array Value} (hi : L[i]? = some (g, t, cs)) : W.heap[g]? = some (.cells cs t (0, 0)) := (h.blk i _ hi).1
theorem Mem.own (h : Mem w W L) (i : Nat) {g : Nat} {t : TypeId} {cs : Array Value} (hi : L[i]? = some (g, t, cs)) : w.heap.size ≤ g := (h.blk i _ hi).2
theorem Mem.cell (h : Mem w W L) (i : Nat) {g : Nat} {t : TypeId} {cs : Array Value} (hi : L[i]? = some (g, t, cs)) (j : Nat) : W.cell? ⟨g, j, none⟩ = cs[j]? := blk_cell (h.get i hi) j
theorem Mem.far (h : Mem w W L) (i : Nat) {g k : Nat} {t u : TypeId} {cs ds : Array Value} (hi : L[i]? = some (g, t, cs)) (hk : W.heap[k]? = some (.cells ds u (0, 0))) (ht : t ≠ u) : g ≠ k := blk_ne (h.get i hi) hk ht
theorem Mem.later (h : Mem w W L) (hb : Below W.heap.size W W1) : Mem w W1 L :=
  ⟨h.below.trans (hb.mono h.size), fun i b hi => ⟨blk_below (h.blk i b hi).1 hb, (h.blk i b hi).2⟩, h.nd⟩
theorem Mem.drew (h : Mem w W L) : Mem w W.drew L := h.later (below_drew (Below.refl _ _))
theorem Mem.drewN (h : Mem w W L) (n : Nat) : Mem w (W.drewN n) L := h.later (pw_below_drewN (Below.refl _ _) n)
theorem Mem.alloc (h : Mem w W L) (o : Obj) : Mem w (W.alloc o) L := h.later (below_alloc (Below.refl _ _) o)
theorem Mem.box (h : Mem w W L) {g : Nat} {t : TypeId} {cs : Array Value} (hg : g = W.heap.size) (hb : Below W.heap.size W W1) (hn : W1.heap[g]? = some (.cells cs t (0, 0))) : Mem w W1 ((g, t, cs) :: L) := by
  have h1 := h.later hb
  have lt : ∀ (i : Nat) (b : Blk), L[i]? = some b → b.1 < g := fun i b hi => by have := blk_lt (h.blk i b hi).1; omega
  refine ⟨h1.below, fun i b hi => ?_, fun i j b c hi hj e => ?_⟩
  · cases i with
    | zero => simp at hi; subst hi; exact ⟨hn, by have := h.size; simp only; omega⟩
    | succ i => simp at hi; exact h1.blk i b hi
  · cases i with
    | zero =>
      cases j with
      | zero => rfl
      | succ j => simp at hi hj; subst hi; have := lt j c hj; simp only at e; omega
    | succ i =>
      cases j with
      | zero => simp at hi hj; subst hj; have := lt i b hi; simp only at e; omega
      | succ j => simp at hi hj; rw [h.nd i j b c hi hj e]
theorem below_kept {B : Nat} {g : Nat} (h : Below B w W) (hk : KeptB g W W1) (hg : B ≤ g) : Below B w W1 :=
  ⟨hk.os.trans h.os, hk.tape.trans h.tape, hk.output.trans h.output, by rw [hk.size]; exact h.size, fun k hlt => (hk.block k (by omega)).trans (h.block k hlt)⟩
theorem blk_kept {g k : Nat} {o : Obj} (h : W.heap[k]? = some o) (hk : KeptB g W W1) (hne : k ≠ g) : W1.heap[k]? = some o := (hk.block k hne).trans h
theorem R_kept {α : Type} {d : Kd α} {e base : Nat} {ok : Nat → Prop} {v : Value} {xs : List α} {g : Nat} (h : d.R e W base ok v xs) (hk : KeptB g W W1) (hok : ∀ k, ok k → k ≠ g) : d.R e W1 base ok v xs :=
  Kd.R_step h (fun k ho _ => hk.block k (hok k ho))
theorem Mem.set (h : Mem w W L) (i : Nat) {g : Nat} {t : TypeId} {cs cs' : Array Value} (hi : L[i]? = some (g, t, cs)) (hn : W1.heap[g]? = some (.cells cs' t (0, 0))) (hk : KeptB g W W1) : Mem w W1 (L.set i (g, t, cs')) := by
  have hlt : i < L.length := by
    rcases Nat.lt_or_ge i L.length with h1 | h1
    · exact h1
    · rw [List.getElem?_eq_none h1] at hi; cases hi
  have key : ∀ (j : Nat) (b : Blk), (L.set i (g, t, cs'))[j]? = some b → ∃ b0, L[j]? = some b0 ∧ b0.1 = b.1 ∧ ((j = i ∧ b = (g, t, cs')) ∨ (j ≠ i ∧ b0 = b)) := by
    intro j b hb
    by_cases e : j = i
    · subst e
      rw [List.getElem?_set_self hlt] at hb
      cases hb
      exact ⟨_, hi, rfl, .inl ⟨rfl, rfl⟩⟩
    · rw [List.getElem?_set_ne (fun e' => e e'.symm)] at hb
      exact ⟨b, hb, rfl, .inr ⟨e, rfl⟩⟩
  refine ⟨below_kept h.below hk (h.own i hi), fun j b hb => ?_, fun j l b c hb hc e => ?_⟩
  · obtain ⟨b0, h0, e0, ⟨rfl, rfl⟩ | ⟨hne, rfl⟩⟩ := key j b hb
    · exact ⟨hn, h.own j hi⟩
    · refine ⟨blk_kept (h.blk j _ h0).1 hk ?_, (h.blk j _ h0).2⟩
      exact fun e => hne (h.nd j i _ _ h0 hi e)
  · obtain ⟨b0, h0, e0, _⟩ := key j b hb
    obtain ⟨c0, h1, e1, _⟩ := key l c hc
    exact h.nd j l b0 c0 h0 h1 (by rw [e0, e1, e])
theorem keptB_setCell (W : World) (g j : Nat) (u : Value) : KeptB g W (W.setCell ⟨g, j, none⟩ u) :=
  ⟨rfl, rfl, rfl, by simp, fun k hk => Below.heap_setCell _ _ _ _ hk⟩
theorem Mem.setCell (h : Mem w W L) (i : Nat) {g : Nat} {t : TypeId} {cs : Array Value} (hi : L[i]? = some (g, t, cs)) (j : Nat) (u : Value) : Mem w (W.setCell ⟨g, j, none⟩ u) (L.set i (g, t, cs.setIfInBounds j u)) :=
  h.set i hi (blk_set (h.get i hi) j u) (keptB_setCell W g j u)
theorem Mem.grown (h : Mem w W L) {row : Option Nat} (hb : Below w.heap.size w W1) (hg : W.grownBy W1 row) (hr : ∀ (i : Nat) (b : Blk), L[i]? = some b → some b.1 ≠ row) : Mem w W1 L :=
  ⟨hb, fun i b hi => ⟨blk_grown (h.blk i b hi).1 hg (hr i b hi), (h.blk i b hi).2⟩, h.nd⟩
theorem Mem.grownR (h : Mem w W L) {α : Type} {d : Kd α} {e base : Nat} {ok : Nat → Prop} {v : Value} {xs : List α} (hR : d.R e W base ok v xs) (hb : Below w.heap.size w W1) (hg : W.grownBy W1 v.ownBlock) (ht : (L.all fun b => b.2.1 != e) = true) : Mem w W1 L :=
  h.grown hb hg (fun i b hi => Kd.R_ne hR (h.blk i b hi).1 (by
    have := List.all_eq_true.1 ht b (List.mem_of_getElem? hi)
    exact fun he => by rw [he] at this; simp at this))
/-- A block that holds a row's elements, as a slice that is read. -/
theorem C_blk {α : Type} {d : Kd α} {g n : Nat} {t : TypeId} {cs : Array Value} {xs : List α} (hb : W.heap[g]? = some (.cells cs t (0, 0))) (hr : Reps (d.K W) d.sz xs cs.toList) (hn : xs.length = n) (hm : n ≤ 9223372036854775807) : d.C W (some ⟨g, 0, none⟩) n xs := by
  refine ⟨hn, hm, fun _ => ⟨_, rfl, fun j p hj => ⟨_, d.K_len (hr.2 j p hj), hr.2 j p hj, fun i u hu => ?_⟩⟩⟩
  rw [add_plain, blk_cell hb]
  have h1 : i < d.sz := by
    have := d.K_len (hr.2 j p hj)
    rcases Nat.lt_or_ge i d.sz with h | h
    · exact h
    · rw [List.getElem?_eq_none (by omega)] at hu; cases hu
  rw [List.getElem?_take, if_pos h1, List.getElem?_drop] at hu
  rw [← hu, Array.getElem?_toList]
theorem Mem.cast {L' : List Blk} (h : Mem w W L) (e : L = L') : Mem w W L' := e ▸ h
theorem Mem.drop (h : Mem w W L) (n : Nat) : Mem w W (L.drop n) :=
  ⟨h.below, fun i b hi => h.blk (n + i) b (by rwa [List.getElem?_drop] at hi), fun i j b c hi hj e => by
    rw [List.getElem?_drop] at hi hj
    have := h.nd _ _ _ _ hi hj e
    omega⟩
theorem Mem.tail {b : Blk} (h : Mem w W (b :: L)) : Mem w W L := h.drop 1
end
section
variable {P : Program} {ops : Array Oper} {rest : List Oper} {o : Oper} {a : Act} {Q : Exit → Act → World → Prop} {W : World}
theorem slice_event (hgd : o.guard = none) {N : Tmp} (_hd : o.dst = some N) {cs : Array Value} {t : TypeId} {n : Nat}
    (hrun : (execOp a.eval o).run P W = .ok (.value (.slice (some ⟨W.heap.size, 0, none⟩) n n)) (W.alloc (.cells cs t (0, 0))))
    (h : ∀ g, g = W.heap.size → ∀ w1, w1.heap[g]? = some (.cells cs t (0, 0)) → Below W.heap.size W w1 → wpList P ops Q rest (a.put o.dst (.slice (some ⟨g, 0, none⟩) n n)) w1) : wpList P ops Q (o :: rest) a W :=
  Kd.event_run hgd hrun (h _ rfl _ (blk_new W _) (below_alloc (Below.refl _ _) _))
theorem gate_load_ {t : TypeId} {p : Tmp} (_ho : o.op = .load t (.tmp p)) (h : wpList P ops Q (o :: rest) a W) : wpList P ops Q (o :: rest) a W := h
theorem gate_store_ {t : TypeId} {x y : Operand} (_ho : o.op = .store t x y) (h : wpList P ops Q (o :: rest) a W) : wpList P ops Q (o :: rest) a W := h
theorem load_event (hgd : o.guard = none) (ty : TypeId) (x : Operand) (ho : o.op = .load ty x) (g : Nat) (hx : a.eval x = .pointer (some ⟨g, 0, none⟩)) (t : TypeId) (cs : Array Value) (hg : W.heap[g]? = some (.cells cs t (0, 0))) {d : TypeDesc}
    (hu : P.underlying ty = some d) (hd : (match d with | .struct _ | .array _ _ => true | _ => false) = true) (hi : (P.info? ty).map (·.size) = some cs.size)
    (h : wpList P ops Q rest (a.put o.dst (.agg cs)) W) : wpList P ops Q (o :: rest) a W :=
  Go.wpList_load_row hgd ty x ho g hx t cs (0, 0) d hg hu hd hi h
theorem store_event (hgd : o.guard = none) (ty : TypeId) (x y : Operand) (ho : o.op = .store ty x y) (hd : o.dst = none) (g : Nat) (cells : Array Value) (hx : a.eval x = .pointer (some ⟨g, 0, none⟩)) (hy : a.eval y = .agg cells)
    (t : TypeId) (old : Array Value) (hg : W.heap[g]? = some (.cells old t (0, 0))) (hi : (P.info? ty).map (·.size) = some cells.size) (hold : old.size = cells.size) (h1 : cells.toList.all (·.oneCell') = true)
    (h : ∀ W1, W1.heap[g]? = some (.cells cells t (0, 0)) → KeptB g W W1 → wpList P ops Q rest a W1) : wpList P ops Q (o :: rest) a W :=
  Go.wpList_store_row hgd ty x y ho g cells hx hy t old hg hi hold (by rw [← Array.all_toList]; exact h1) (by
    rw [hd]
    exact h (W.setRow g cells) (Go.setRow_heap W g old cells t (0, 0) hg) ⟨rfl, rfl, rfl, by simp, fun k hk => Go.setRow_other W g k cells hk⟩)
end
end Go.Proofs.YtimjodgnlahclaaDoor.G
