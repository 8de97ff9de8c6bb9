/-
  What statement.Text computes, as a Lean function, and the state of its variables while it runs.
-/
import Derived.Test.YtimjodgnlahclaaDoorGx2
import Derived.Test.YtimjodgnlahclaaDoorPut
import Derived.Test.YtimjodgnlahclaaDoorAmount
namespace Go.Proofs.YtimjodgnlahclaaDoor.G
open Go.RowKit Go.Proofs.YtimjodgnlahclaaDoorW.PrintWords
set_option linter.unusedVariables false

/-- The text of a line is put behind what was written, if it all fits. -/
def putO (l : List UInt8) (xs : List ByteArray) : Option (List UInt8) :=
  if l.length + (lineOf xs).length ≤ 140737488355328 then some (l ++ lineOf xs) else none
def linesF (k : Nat) (d : Int) : List S66 → List UInt8 → Bool → Option (List UInt8 × Bool)
  | [], l, v => some (l, v)
  | x :: xs, l, v => (date_Format.f k x.f1).bind fun t => (money_Format.f k x.f2 d).bind fun p => (putO l [t, p.1, x.f3]).bind fun l' => linesF k d xs l' (v || (p.2 != 0))
def statement_Text.f (k : Nat) (a0 a1 a2 a3 a4 a5 : Int) (ls : List S66) (d : Int) : Option (ByteArray × Int) :=
  (statement_Check.f k a0 a1 a2 a3 a4 a5 ls).bind fun e =>
  if e ≠ 0 then some (⟨#[]⟩, e) else if d < 0 then some (⟨#[]⟩, 1) else if 4 < d then some (⟨#[]⟩, 1) else
  (strconv_Itoa.f a1).bind fun no => (strconv_Itoa.f a0).bind fun ac =>
  (putO [] [⟨#[115, 116, 97, 116, 101, 109, 101, 110, 116]⟩, no, ⟨#[97, 99, 99, 111, 117, 110, 116]⟩, ac]).bind fun l1 =>
  (date_Format.f k a2).bind fun fr => (date_Format.f k a3).bind fun tt => (putO l1 [fr, ⟨#[116, 111]⟩, tt]).bind fun l2 =>
  (money_Format.f k a4 d).bind fun o => (putO l2 [⟨#[111, 112, 101, 110, 105, 110, 103]⟩, o.1]).bind fun l3 =>
  (linesF k d ls l3 (o.2 != 0)).bind fun s =>
  (money_Format.f k a5 d).bind fun c => (putO s.1 [⟨#[99, 108, 111, 115, 105, 110, 103]⟩, c.1]).bind fun l4 =>
  if (s.2 || (c.2 != 0)) = true then some (⟨#[]⟩, 1) else some (⟨l4.toArray⟩, 0)
theorem linesF.mono (k : Nat) (d : Int) : ∀ xs l v, LeO (linesF k d xs l v) (linesF (k + 1) d xs l v)
  | [], _, _ => LeO.refl _
  | x :: xs, l, v => LeO.bind (date_Format.mono _ k) fun t => LeO.bind (money_Format.mono _ _ k) fun p => LeO.bind (LeO.refl _) fun l' => linesF.mono k d xs l' _
theorem statement_Text.mono : ∀ a0 a1 a2 a3 a4 a5 a6 a7 k, LeO (statement_Text.f k a0 a1 a2 a3 a4 a5 a6 a7) (statement_Text.f (k + 1) a0 a1 a2 a3 a4 a5 a6 a7) := by
  intro a0 a1 a2 a3 a4 a5 a6 a7 k
  unfold statement_Text.f
  refine LeO.bind (statement_Check.mono _ _ _ _ _ _ _ k) fun e => LeO.ite (LeO.refl _) (LeO.ite (LeO.refl _) (LeO.ite (LeO.refl _) ?_))
  refine LeO.bind (LeO.refl _) fun no => LeO.bind (LeO.refl _) fun ac => LeO.bind (LeO.refl _) fun l1 => LeO.bind (date_Format.mono _ k) fun fr => LeO.bind (date_Format.mono _ k) fun tt => LeO.bind (LeO.refl _) fun l2 => LeO.bind (money_Format.mono _ _ k) fun o => LeO.bind (LeO.refl _) fun l3 => LeO.bind (linesF.mono k _ _ _ _) fun s => LeO.bind (money_Format.mono _ _ k) fun c => LeO.refl _

/-- The variables of the call: the statement, the digits, the builder with what was written, 'bad'; what lay below when the call began is as it was. -/
structure St (w : World) (G D b B2 : Nat) (cs : Array Value) (d : Int) (l : List UInt8) (v : Bool) (W : World) : Prop where
  below : Below w.heap.size w W
  st : W.heap[G]? = some (.cells cs 40 (0, 0))
  dg : W.heap[D]? = some (.cells #[.int .i64 d] 3 (0, 0))
  bl : Lib.IsBuilderF 76 5 w.heap.size b (Lib.byteCells l) W
  bd : W.heap[B2]? = some (.cells #[.bool v] 4 (0, 0))
  own : w.heap.size ≤ B2
section
variable {w W W' : World} {G D b B2 : Nat} {cs : Array Value} {d : Int} {l : List UInt8} {v : Bool}
theorem St.size (h : St w G D b B2 cs d l v W) : w.heap.size ≤ W.heap.size := h.below.size
theorem St.later (h : St w G D b B2 cs d l v W) (hb : Below W.heap.size W W') : St w G D b B2 cs d l v W' :=
  ⟨h.below.trans (hb.mono h.size), blk_below h.st hb, blk_below h.dg hb, IsB.below h.bl hb, blk_below h.bd hb, h.own⟩
theorem St.blt (h : St w G D b B2 cs d l v W) : ∃ c, W.heap[b]? = some (.cells c 76 (0, 0)) := by
  rcases h.bl with h | h <;> · obtain ⟨_, q, hq, _⟩ := h; exact ⟨_, hq⟩
theorem St.neb (h : St w G D b B2 cs d l v W) {g : Nat} {c : Array Value} {t : TypeId} (hg : W.heap[g]? = some (.cells c t (0, 0))) (ht : t ≠ 76) : some g ≠ some b := by
  intro e
  obtain ⟨c', hc⟩ := h.blt
  cases e
  rw [hc] at hg
  simp only [Option.some.injEq, Obj.cells.injEq] at hg
  exact ht hg.2.1.symm
theorem St.put {l' : List UInt8} (h : St w G D b B2 cs d l v W) (hl : Lib.IsBuilderF 76 5 w.heap.size b (Lib.byteCells l') W') (hb : Below w.heap.size W W') (ho : Lib.OthersKept 5 (some b) W W') : St w G D b B2 cs d l' v W' :=
  ⟨h.below.trans hb, ho _ _ h.st (h.neb h.st (by decide)) (by intro c fz e; simp at e), ho _ _ h.dg (h.neb h.dg (by decide)) (by intro c fz e; simp at e), hl, ho _ _ h.bd (h.neb h.bd (by decide)) (by intro c fz e; simp at e), h.own⟩
theorem St.mark (h : St w G D b B2 cs d l v W) (u : Bool) : St w G D b B2 cs d l u (W.setCell ⟨B2, 0, none⟩ (.bool u)) := by
  have n1 : G ≠ B2 := by rintro rfl; have := h.st.symm.trans h.bd; simp at this
  have n2 : D ≠ B2 := by rintro rfl; have := h.dg.symm.trans h.bd; simp at this
  have n3 : b ≠ B2 := fun e => h.neb h.bd (by decide) (by rw [e])
  refine ⟨h.below.setCell (p := ⟨B2, 0, none⟩) h.own _, blk_far h.st n1 _, blk_far h.dg n2 _, ?_, blk_set h.bd 0 _, h.own⟩
  have one : ∀ p, Lib.BuilderAtF 76 5 w.heap.size b p (Lib.byteCells l) W → Lib.BuilderAtF 76 5 w.heap.size b p (Lib.byteCells l) (W.setCell ⟨B2, 0, none⟩ (.bool u)) := by
    intro p hp
    obtain ⟨h1, q, h2, h3, h4⟩ := hp
    refine ⟨h1, q, blk_far h2 n3 _, ⟨h3.1, ?_⟩, h4⟩
    rcases h3.2 with hn | ⟨g, cap, cur, fz, rfl, hb, hgg, rest⟩
    · exact .inl hn
    · refine .inr ⟨g, cap, cur, fz, rfl, hb, ?_, rest⟩
      have n4 : g ≠ B2 := by rintro rfl; have := hgg.symm.trans h.bd; simp at this
      exact (Below.heap_setCell _ _ _ _ n4).trans hgg
  exact h.bl.imp (one _) (one _)
theorem St.drew (h : St w G D b B2 cs d l v W) : St w G D b B2 cs d l v W.drew := ⟨below_drew1 h.below, h.st, h.dg, h.bl, h.bd, h.own⟩
theorem St.drewN (h : St w G D b B2 cs d l v W) (n : Nat) : St w G D b B2 cs d l v (W.drewN n) := ⟨pw_below_drewN h.below n, h.st, h.dg, h.bl, h.bd, h.own⟩
theorem St.alloc (h : St w G D b B2 cs d l v W) (o : Obj) : St w G D b B2 cs d l v (W.alloc o) := h.later (below_alloc (Below.refl _ _) o)
theorem St.start {W3 W4 W5 : World} (hB3 : Below w.heap.size w W3) (hG : W3.heap[G]? = some (.cells cs 40 (0, 0))) (hD : W3.heap[D]? = some (.cells #[.int .i64 d] 3 (0, 0)))
    (h4 : W4.heap[W3.heap.size]? = some (.cells #[.pointer none, .slice none 0 0] 76 (0, 0))) (hB4 : Below W3.heap.size W3 W4)
    (h5 : W5.heap[W4.heap.size]? = some (.cells #[.bool false] 4 (0, 0))) (hB5 : Below W4.heap.size W4 W5) : St w G D W3.heap.size W4.heap.size cs d [] false W5 := by
  have s3 := hB3.size
  have s4 := hB4.size
  have hb4 : Lib.IsBuilderF 76 5 w.heap.size W3.heap.size (Lib.byteCells []) W4 := .inl ⟨s3, .slice none 0 0, h4, World.ownsRowF_nil _ _ _ _, by simp [Value.ownBlock]⟩
  exact ⟨hB3.trans ((hB4.mono s3).trans (hB5.mono (by omega))), blk_below (blk_below hG hB4) hB5, blk_below (blk_below hD hB4) hB5, IsB.below hb4 hB5, h5, by omega⟩
theorem row_at (W : World) (xs : List ByteArray) (t : TypeId) (cs : Array Value) (hcs : cs = (xs.map Value.string).toArray) (j : Nat) (x : ByteArray) (hj : xs[j]? = some x) : (W.alloc (.cells cs t)).cell? ⟨W.heap.size, j, none⟩ = some (.string x) := by
  rw [blk_cell (blk_new W _) j, hcs]
  simp [hj]
/-- 'put' of words that were laid in a row just now. -/
theorem St.puts (h : St w G D b B2 cs d l v W) (xs : List ByteArray) (n : Nat) (hn : n = xs.length) (t : TypeId) (row : Array Value) (hrow : row = (xs.map Value.string).toArray) (l' : List UInt8) (hl : putO l xs = some l') :
    Calls Tryd.prog 30 #[.slice (some ⟨W.heap.size, 0, none⟩) n n, .pointer (some ⟨b, 0, none⟩)] (W.alloc (.cells row t)) fun e w' => e = .returned (.tuple #[]) ∧ St w G D b B2 cs d l' v w' ∧ ∀ (X : Nat) (c : Array Value), W.heap[X]? = some (.cells c 66 (0, 0)) → w'.heap[X]? = some (.cells c 66 (0, 0)) := by
  have hz : l.length + (lineOf xs).length ≤ 140737488355328 := by
    unfold putO at hl; split at hl
    · assumption
    · cases hl
  have hl' : l ++ lineOf xs = l' := by
    unfold putO at hl; rw [if_pos hz] at hl; exact Option.some.inj hl
  have hN : xs.length ≤ 140737488355328 := by
    have h1 : ∀ ys : List ByteArray, ys.length ≤ (lineOf ys).length := by
      intro ys
      cases ys with
      | nil => simp
      | cons y r =>
        unfold lineOf
        rw [List.length_append, List.map_cons, Lib.join_length]
        simp only [List.length_cons, List.length_nil, List.length_map]
        omega
    have := h1 xs
    omega
  have hA := h.alloc (.cells row t)
  subst hl'
  refine (put_calls w.heap.size b W.heap.size n l xs _ hA.bl (fun j x hj => row_at W xs t row hrow j x hj) (blk_lt (blk_new W _)) hn hN hA.size hz).mono ?_
  rintro e w' ⟨rfl, h1, h2, h3⟩
  refine ⟨rfl, hA.put h1 h2 h3, fun X c hX => ?_⟩
  have hX' := blk_alloc hX (.cells row t)
  exact h3 _ _ hX' (hA.neb hX' (by decide)) (by intro c fz e; simp at e)
/-- 'amount': its text; 'bad' keeps whether it failed. -/
theorem St.amount (h : St w G D b B2 cs d l v W) (k : Nat) (n : Int) (t : ByteArray) (e : Int) (hG : Glob W) (hm : money_Format.f k n d = some (t, e)) (u : Bool) (hu : (v || (e != 0)) = u) :
    Calls Tryd.prog 33 #[.int .i64 n, .pointer (some ⟨D, 0, none⟩), .pointer (some ⟨B2, 0, none⟩)] W fun r w' => r = .returned (.string t) ∧ St w G D b B2 cs d l u w' ∧ ∀ (X : Nat) (c : Array Value), W.heap[X]? = some (.cells c 66 (0, 0)) → w'.heap[X]? = some (.cells c 66 (0, 0)) := by
  subst hu
  refine (amount_calls k n d t e D B2 v W hG ((blk_cell h.dg 0).trans rfl) h.bd hm).mono ?_
  rintro r w' ⟨rfl, w1, hb, rfl⟩
  refine ⟨rfl, (h.later hb).mark _, fun X c hX => ?_⟩
  have n1 : X ≠ B2 := by rintro rfl; have := hX.symm.trans h.bd; simp at this
  exact blk_far (blk_below hX hb) n1 _
theorem St.other (h : St w G D b B2 cs d l v W) {X : Nat} {c : Array Value} (hX : W.heap[X]? = some (.cells c 66 (0, 0))) (hw : w.heap.size ≤ X) (i : Nat) (u : Value) : St w G D b B2 cs d l v (W.setCell ⟨X, i, none⟩ u) := by
  have n1 : G ≠ X := by rintro rfl; have := h.st.symm.trans hX; simp at this
  have n2 : D ≠ X := by rintro rfl; have := h.dg.symm.trans hX; simp at this
  have n3 : b ≠ X := fun e => h.neb hX (by decide) (by rw [e])
  have n5 : B2 ≠ X := by rintro rfl; have := h.bd.symm.trans hX; simp at this
  refine ⟨h.below.setCell (p := ⟨X, i, none⟩) hw _, blk_far h.st n1 _, blk_far h.dg n2 _, ?_, blk_far h.bd n5 _, h.own⟩
  have one : ∀ p, Lib.BuilderAtF 76 5 w.heap.size b p (Lib.byteCells l) W → Lib.BuilderAtF 76 5 w.heap.size b p (Lib.byteCells l) (W.setCell ⟨X, i, none⟩ u) := by
    intro p hp
    obtain ⟨h1, q, h2, h3, h4⟩ := hp
    refine ⟨h1, q, blk_far h2 n3 _, ⟨h3.1, ?_⟩, h4⟩
    rcases h3.2 with hn | ⟨g, cap, cur, fz, rfl, hb, hgg, rest⟩
    · exact .inl hn
    · refine .inr ⟨g, cap, cur, fz, rfl, hb, ?_, rest⟩
      have n4 : g ≠ X := by rintro rfl; have := hgg.symm.trans hX; simp at this
      exact (Below.heap_setCell _ _ _ _ n4).trans hgg
  exact h.bl.imp (one _) (one _)
theorem St.fill4 (h : St w G D b B2 cs d l v W) {X : Nat} {z0 z1 z2 z3 : Value} (hX : W.heap[X]? = some (.cells #[z0, z1, z2, z3] 66 (0, 0))) (hw : w.heap.size ≤ X) (u0 u1 u2 u3 : Value) :
    St w G D b B2 cs d l v ((((W.setCell ⟨X, 0, none⟩ u0).setCell ⟨X, 1, none⟩ u1).setCell ⟨X, 2, none⟩ u2).setCell ⟨X, 3, none⟩ u3) ∧ ((((W.setCell ⟨X, 0, none⟩ u0).setCell ⟨X, 1, none⟩ u1).setCell ⟨X, 2, none⟩ u2).setCell ⟨X, 3, none⟩ u3).heap[X]? = some (.cells #[u0, u1, u2, u3] 66 (0, 0)) := by
  have s0 := blk_set hX 0 u0
  have s1 := blk_set s0 1 u1
  have s2 := blk_set s1 2 u2
  have s3 := blk_set s2 3 u3
  exact ⟨(((h.other hX hw 0 u0).other s0 hw 1 u1).other s1 hw 2 u2).other s2 hw 3 u3, s3.trans (by simp)⟩
theorem drop_at66 (xs : List S66) (k : Nat) (h : k < xs.length) : xs.drop k = rd_T66 xs (k : Int) :: xs.drop (k + 1) := by
  rw [List.drop_eq_getElem_cons h]
  unfold rd_T66
  rw [Int.toNat_natCast, List.getD_eq_getElem?_getD, List.getElem?_eq_getElem h]; rfl
end
end Go.Proofs.YtimjodgnlahclaaDoor.G
