/-
  The two closures of statement.Text: 'put' writes its words, joined by blanks, and a line's end into the builder; 'amount' returns an amount's text and keeps in mind whether one failed.
-/
import Derived.Test.YtimjodgnlahclaaDoorJoin
import Derived.Test.YtimjodgnlahclaaDoorWWords
import Derived.Lib.BufferKept
import Derived.WalkKit
import Derived.WalkSpells
namespace Go.Proofs.YtimjodgnlahclaaDoor.G
open Go.RowKit Go.Proofs.YtimjodgnlahclaaDoorW.PrintWords
set_option linter.unusedVariables false

theorem IsB.below {B b : Nat} {bs : List Value} {W W' : World} (h : Lib.IsBuilderF 76 5 B b bs W) (hb : Below W.heap.size W W') : Lib.IsBuilderF 76 5 B b bs W' := by
  have one : ∀ p, Lib.BuilderAtF 76 5 B b p bs W → Lib.BuilderAtF 76 5 B b p bs W' := by
    intro p hp
    have hlt := hp.lt
    obtain ⟨h1, v, h2, h3, h4⟩ := hp
    exact ⟨h1, v, (hb.block b hlt).trans h2, h3.kept (row := none) ⟨hb.os, hb.tape, hb.output, hb.size, fun k hk _ => hb.block k hk⟩ (Classical.em _), h4⟩
  exact h.imp (one _) (one _)

/-- A line of words. -/
def lineOf (xs : List ByteArray) : List UInt8 := Lib.join (xs.map (·.data.toList)) [32] ++ [10]
set_option maxHeartbeats 2000000 in
theorem put_calls (B b bk n : Nat) (l : List UInt8) (xs : List ByteArray) (w : World) (h : Lib.IsBuilderF 76 5 B b (Lib.byteCells l) w)
    (hx : ∀ (j : Nat) x, xs[j]? = some x → w.cell? ⟨bk, j, none⟩ = some (.string x)) (hbk : bk < w.heap.size) (hn : n = xs.length) (hN : xs.length ≤ 140737488355328) (hB : B ≤ w.heap.size)
    (hl : l.length + (lineOf xs).length ≤ 140737488355328) :
    Calls Tryd.prog 30 #[.slice (some ⟨bk, 0, none⟩) n n, .pointer (some ⟨b, 0, none⟩)] w fun e w' => e = .returned (.tuple #[]) ∧ Lib.IsBuilderF 76 5 B b (Lib.byteCells (l ++ lineOf xs)) w' ∧ Below B w w' ∧ Lib.OthersKept 5 (some b) w w' := by
  subst hn
  have hl' : l.length + ((Lib.join (xs.map (·.data.toList)) [32]).length + 1) ≤ 140737488355328 := by
    simpa only [lineOf, List.length_append, List.length_cons, List.length_nil, Nat.zero_add] using hl
  have hJ : (Lib.join (xs.map (·.data.toList)) [32]).length ≤ 140737488355328 := by omega
  have hS : (9223372036854775807 < (Lib.join (List.map (fun x => x.data.toList) xs) [32]).length + 1) = False := eq_false (by omega)
  have hsz : ∀ s : ByteArray, s.data.toList = Lib.join (xs.map (·.data.toList)) [32] ++ [10] → (Lib.byteCells l).length + s.size ≤ 140737488355328 := by
    intro s hs
    rw [Lib.byteCells_length, Lib.size_eq, hs]
    simpa using hl'
  have H := Aside0.mk h
  have HX := Aside0.mk hx
  have HJ := Aside0.mk hJ
  have HZ := Aside0.mk hsz
  clear h hx hl hl' hJ hsz
  go_enter Tryd.func30, Tryd.ntmps30
  go_wp2_with (first
    | (go_at_call 32; refine (Tryd.strings_Join bk 0 xs.length xs ⟨#[32]⟩ _ (fun j x hj => by rw [Nat.zero_add]; exact HX.out j x hj) hbk hN (Nat.le_refl _) HJ.out).mono ?_; rintro e w1 ⟨rfl, hb⟩)
    | (go_at_call 31; refine (Tryd.WriteString_k B b (Lib.byteCells l) _ _ (IsB.below H.out hb) (HZ.out _ (by simp)) (Nat.le_trans hB hb.size)).mono ?_; rintro e w2 ⟨rfl, hat, hb2, ho⟩))
  refine bodyPost_end (results_none rfl _ _ _) rfl ?_
  refine ⟨rfl, Or.inr ?_, (hb.mono hB).trans hb2, (Lib.OthersKept.refl 5 _ w |>.below hb).trans ho⟩
  rw [Lib.byteCells_append]
  simpa [lineOf, Lib.strCells_eq] using hat
end Go.Proofs.YtimjodgnlahclaaDoor.G
