/-
  WHAT THE MEMORY OF A CALL AND ITS ROWS KEEP behind draws and blocks that are laid: found by Lean's own search. And small lemmas on blocks and rows.
-/
import Derived.Test.YtimjodgnlahclaaDoorMem2
import Derived.Test.YtimjodgnlahclaaDoorGx0
namespace Go.Proofs.YtimjodgnlahclaaDoor.G
open Go.RowKit Go.Proofs.YtimjodgnlahclaaDoorW.PrintWords
set_option linter.unusedVariables false

class Way (W W' : World) : Prop where
  mem : ∀ w L, Mem w W L → Mem w W' L
  row : ∀ {α : Type} (d : Kd α) (e base : Nat) (ok : Nat → Prop) (v : Value) (xs : List α), d.R e W base ok v xs → d.R e W' base ok v xs
instance Way.same (W : World) : Way W W := ⟨fun _ _ h => h, fun _ _ _ _ _ _ h => h⟩
instance Way.drewN (W W' : World) (n : Nat) [h : Way W W'] : Way W (W'.drewN n) := ⟨fun w L k => Mem.drewN (h.mem w L k) n, fun d e base ok v xs k => Kd.R_drewN (h.row d e base ok v xs k) n⟩
instance Way.drew (W W' : World) [h : Way W W'] : Way W W'.drew := ⟨fun w L k => Mem.drew (h.mem w L k), fun d e base ok v xs k => Kd.R_drew (h.row d e base ok v xs k)⟩
instance Way.alloc (W W' : World) (o : Obj) [h : Way W W'] : Way W (W'.alloc o) := ⟨fun w L k => Mem.alloc (h.mem w L k) o, fun d e base ok v xs k => Kd.R_alloc (h.row d e base ok v xs k) o⟩
theorem Mem.to {w W W' : World} {L : List Blk} (h : Aside0 (Mem w W L)) [k : Way W W'] : Mem w W' L := k.mem w L h.out
theorem R.to {W W' : World} {α : Type} {d : Kd α} {e base : Nat} {ok : Nat → Prop} {v : Value} {xs : List α} (h : Aside0 (d.R e W base ok v xs)) [k : Way W W'] : d.R e W' base ok v xs := k.row d e base ok v xs h.out
theorem all_c {v : Value} {l : List Value} (h : v.oneCell' = true) (hl : l.all (·.oneCell') = true) : (v :: l).all (·.oneCell') = true := by
  rw [List.all_cons, h, hl]; rfl
theorem Mem.apart {w W : World} {L : List Blk} (h : Mem w W L) {v : Value} (hat : ∃ b, v.ownBlock = some b ∧ W.heap.size ≤ b) : ∀ (i : Nat) (b : Blk), L[i]? = some b → some b.1 ≠ v.ownBlock := by
  intro i b hi he
  obtain ⟨g, hg, hl⟩ := hat
  rw [hg] at he
  injection he with he
  have := blk_lt (h.blk i b hi).1
  omega
theorem Mem.slot {w W : World} {L : List Blk} (h : Mem w W L) (i : Nat) {g : Nat} {t : TypeId} {cs : Array Value} (hi : L[i]? = some (g, t, cs)) : g < W.heap.size := blk_lt (h.get i hi)
theorem books_one (a0_0 a0_1 a0_2 a0_17 a0_20 a0_21 : OV) (a0_3 a0_4 a0_5 a0_6 a0_7 a0_8 a0_9 a0_10 a0_11 a0_12 a0_13 a0_14 a0_15 a0_16 : Int) (A0_18 A0_19 : Option Addr) (n0_18 n0_19 c0_18 c0_19 : Nat) : (#[a0_0.1, a0_1.1, a0_2.1, .int .i64 a0_3, .int .i64 a0_4, .int .i64 a0_5, .int .i64 a0_6, .int .i64 a0_7, .int .i64 a0_8, .int .i64 a0_9, .int .i64 a0_10, .int .i64 a0_11, .int .i64 a0_12, .int .i64 a0_13, .int .i64 a0_14, .int .i64 a0_15, .int .i64 a0_16, a0_17.1, .slice A0_18 n0_18 c0_18, .slice A0_19 n0_19 c0_19, a0_20.1, a0_21.1] : Array Value).toList.all (·.oneCell') = true := by
  exact all_c a0_0.2 (all_c a0_1.2 (all_c a0_2.2 (all_c rfl (all_c rfl (all_c rfl (all_c rfl (all_c rfl (all_c rfl (all_c rfl (all_c rfl (all_c rfl (all_c rfl (all_c rfl (all_c rfl (all_c rfl (all_c rfl (all_c a0_17.2 (all_c rfl (all_c rfl (all_c a0_20.2 (all_c a0_21.2 (rfl))))))))))))))))))))))
end Go.Proofs.YtimjodgnlahclaaDoor.G
