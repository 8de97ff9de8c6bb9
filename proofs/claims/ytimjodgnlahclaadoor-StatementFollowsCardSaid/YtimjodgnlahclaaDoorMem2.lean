/-
  MEMORY OF A CALL, BLOCK BY BLOCK, continued: a store into one cell as a single step behind which the world is a variable; the kept rows of elder steps.
-/
import Derived.Test.YtimjodgnlahclaaDoorMem
namespace Go.Proofs.YtimjodgnlahclaaDoor.G
open Go.RowKit Go.Proofs.YtimjodgnlahclaaDoorW.PrintWords
set_option linter.unusedVariables false

theorem run_store_cell {P : Program} (W : World) (g j : Nat) (t ty : TypeId) (cs : Array Value) (v : Value) (hg : W.heap[g]? = some (.cells cs t (0, 0))) (hj : j < cs.size) (hi : (P.info? ty).map (·.size) = some 1) (h1 : v.oneCell' = true) :
    (storeVar ty ⟨g, j, none⟩ v).run P W = .ok () (W.setCell ⟨g, j, none⟩ v) := by
  have hc : v.cells = #[v] := by cases v <;> first | rfl | cases h1
  have hadd : (⟨g, j, none⟩ : Addr).add 0 = ⟨g, j, none⟩ := by simp [Addr.add]
  have hcell : W.cell? ⟨g, j, none⟩ = some cs[j] := by simp [World.cell?, hg, hj]
  have hfro : W.frozen? ⟨g, j, none⟩ = false := by simp [World.frozen?, hg]
  have hst : (store ⟨g, j, none⟩ v).run P W = .ok () (W.setCell ⟨g, j, none⟩ v) := by
    rw [run_store P W _ v _ h1, hcell]
    simp [hfro]
  cases hq : P.info? ty with
  | none => simp [hq] at hi
  | some i =>
    have hs : i.size = 1 := by simpa [hq] using hi
    simp [storeVar, sizeOf, typeInfo, hq, hc, hs, storeCells, hadd, hst]

theorem Mem.cellv {w W : World} {L : List Blk} (h : Mem w W L) (i : Nat) {g : Nat} {t : TypeId} {cs : Array Value} (hi : L[i]? = some (g, t, cs)) (j : Nat) {u : Value} (hj : cs[j]? = some u) : W.cell? ⟨g, j, none⟩ = some u := (h.cell i hi j).trans hj
section
variable {P : Program} {ops : Array Oper} {rest : List Oper} {o : Oper} {a : Act} {Q : Exit → Act → World → Prop} {W : World}
theorem cell_event (hgd : o.guard = none) (ty : TypeId) (x y : Operand) (ho : o.op = .store ty x y) (hd : o.dst = none) (g j : Nat) (u : Value) (hx : a.eval x = .pointer (some ⟨g, j, none⟩)) (hy : a.eval y = u)
    (t : TypeId) (cs : Array Value) (hg : W.heap[g]? = some (.cells cs t (0, 0))) (hj : j < cs.size) (hi : (P.info? ty).map (·.size) = some 1) (h1 : u.oneCell' = true)
    (h : ∀ W1, W1.heap[g]? = some (.cells (cs.setIfInBounds j u) t (0, 0)) → KeptB g W W1 → wpList P ops Q rest a W1) : wpList P ops Q (o :: rest) a W :=
  wpList_plain hgd fun _ hK => by
    unfold Oper.wp execOp
    simp only [ho, hx, hy, Instr.storeAt, Instr.sureAddr, Sem.run_bind, Sem.run_pure, Result.andThen_ok, run_store_cell W g j t ty cs u hg hj hi h1]
    exact hK (a.put o.dst undef) _ (by rw [hd]; exact h _ (blk_set hg j u) (keptB_setCell W g j u))
end
end Go.Proofs.YtimjodgnlahclaaDoor.G
