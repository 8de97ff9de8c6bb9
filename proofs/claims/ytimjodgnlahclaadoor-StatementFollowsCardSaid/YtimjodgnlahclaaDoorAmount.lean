/-
  The closure 'amount' of statement.Text: an amount's text; whether one failed is kept in mind in the variable 'bad'.
-/
import Derived.Test.YtimjodgnlahclaaDoorGx3
import Derived.WalkKit
import Derived.WalkSpells
namespace Go.Proofs.YtimjodgnlahclaaDoor.G
open Go.RowKit Go.Proofs.YtimjodgnlahclaaDoorW.PrintWords
set_option linter.unusedVariables false

set_option maxHeartbeats 2000000 in
theorem amount_calls (k : Nat) (n d : Int) (t : ByteArray) (e : Int) (D B2 : Nat) (v : Bool) (w : World) (hG : Glob w) (hD : w.cell? ⟨D, 0, none⟩ = some (.int .i64 d))
    (hB : w.heap[B2]? = some (.cells #[.bool v] 4 (0, 0))) (h : money_Format.f k n d = some (t, e)) :
    Calls Tryd.prog 33 #[.int .i64 n, .pointer (some ⟨D, 0, none⟩), .pointer (some ⟨B2, 0, none⟩)] w fun r w' => r = .returned (.string t) ∧ ∃ w1, Below w.heap.size w w1 ∧ w' = w1.setCell ⟨B2, 0, none⟩ (.bool (v || (e != 0))) := by
  have HB2 := Aside0.mk hB
  have HH := Aside0.mk h
  have HG := Aside0.mk hG
  clear hB h hG
  have step : ∀ w1, Below w.heap.size w w1 → w1.cell? ⟨B2, 0, none⟩ = some (.bool v) ∧ w1.frozen? ⟨B2, 0, none⟩ = false := fun w1 hb => by
    have h1 := blk_below HB2.out hb
    exact ⟨(blk_cell h1 0).trans rfl, blk_frozen h1 0⟩
  cases v with
  | true =>
    go_enter Tryd.func33, Tryd.ntmps33
    go_wp2_with (go_at_call 34; refine (money_Format.calls k n d t e _ HH.out HG.out).mono ?_; rintro e w1 ⟨rfl, hb⟩; obtain ⟨hc, hf⟩ := step _ hb)
    go_ret
    exact ⟨rfl, _, hb, rfl⟩
  | false =>
    go_enter Tryd.func33, Tryd.ntmps33
    go_wp2_with (go_at_call 34; refine (money_Format.calls k n d t e _ HH.out HG.out).mono ?_; rintro e w1 ⟨rfl, hb⟩; obtain ⟨hc, hf⟩ := step _ hb)
    go_ret
    exact ⟨rfl, _, hb, rfl⟩
end Go.Proofs.YtimjodgnlahclaaDoor.G
