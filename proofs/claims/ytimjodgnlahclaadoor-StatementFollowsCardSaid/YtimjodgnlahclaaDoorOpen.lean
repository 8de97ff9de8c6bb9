/-
  ARGUMENTS, OPENED: a value that reads as data (its numbers within their kinds, its sizes within the row's reach) is a value of the printed texts' kinds, with the bounds on its numbers, texts and lengths.
-/
import Derived.Test.YtimjodgnlahclaaDoorWWords
import Derived.OpenShut
import Derived.SizedLaws
import Derived.ChangeArms
namespace Go.Proofs.YtimjodgnlahclaaDoor.G
open Go.RowKit Go.Proofs.YtimjodgnlahclaaDoorW.PrintWords
set_option linter.unusedVariables false

theorem reach_le : reachBytes ≤ 140737488351232 := by decide
def OpensN {α : Type} (P : Program) (n : Nat) (t : TypeId) (d : Kd α) (ok : α → Prop) : Prop :=
  ∀ (H : Type) (enc : TypeId × Value → H) (W : World) (fuel : Nat) (cs : List Value) (x : DataW H × List MemPlace), fuel ≤ n →
    DataW.trod enc P W 0 (fun _ => true) true fuel t cs = some x → (∀ m ∈ DataW.weights P t x.1, m ≤ reachBytes) → ∃ a, d.K W a cs ∧ ok a
def Opens {α : Type} (P : Program) (t : TypeId) (d : Kd α) (ok : α → Prop) : Prop := ∀ n, OpensN P n t d ok
section
variable {P : Program} {n : Nat} {t e : TypeId}
theorem OpensN.zero {α : Type} {d : Kd α} {ok : α → Prop} : OpensN P 0 t d ok := by
  intro H enc W fuel cs x hf h _
  obtain rfl : fuel = 0 := by omega
  simp [DataW.trod] at h
theorem OpensN.imp {α : Type} {d : Kd α} {ok ok' : α → Prop} (h : OpensN P n t d ok) (hi : ∀ a, ok a → ok' a) : OpensN P n t d ok' := by
  intro H enc W fuel cs x hf hx hw
  obtain ⟨a, hk, ha⟩ := h H enc W fuel cs x hf hx hw
  exact ⟨a, hk, hi a ha⟩
theorem Opens.imp {α : Type} {d : Kd α} {ok ok' : α → Prop} (h : Opens P t d ok) (hi : ∀ a, ok a → ok' a) : Opens P t d ok' := fun n => (h n).imp hi
theorem opens_int {k : IntKind} (hu : P.underlying t = some (.int k)) : Opens P t (Kd.int k) (fun x => (Lit.int k x).wf = true) := by
  intro n H enc W fuel cs x hf h _
  obtain ⟨z, rfl, _, hz⟩ := DataW.trod_int hu h
  exact ⟨z, rfl, hz⟩
theorem opens_bool (hu : P.underlying t = some .bool) : Opens P t Kd.bool (fun _ => True) := by
  intro n H enc W fuel cs x hf h _
  obtain ⟨b, rfl, _⟩ := DataW.trod_bool hu h
  exact ⟨b, rfl, trivial⟩
theorem opens_string (hu : P.underlying t = some .string) : Opens P t Kd.string (fun s => s.size ≤ 140737488351232) := by
  intro n H enc W fuel cs x hf h hw
  obtain ⟨s, rfl, rfl, _⟩ := DataW.trod_string hu h
  refine ⟨s, rfl, ?_⟩
  have := hw s.data.toList.length (by simp [DataW.weights])
  rw [Array.length_toList] at this
  exact Nat.le_trans this reach_le
theorem build_list {α : Type} {Q : Nat → α → Prop} : ∀ len : Nat, (∀ i, i < len → ∃ a, Q i a) → ∃ xs : List α, xs.length = len ∧ ∀ i a, xs[i]? = some a → Q i a
  | 0, _ => ⟨[], rfl, fun i a h => by simp at h⟩
  | len + 1, h => by
    obtain ⟨xs, hl, hx⟩ := build_list len (fun i hi => h i (by omega))
    obtain ⟨a, ha⟩ := h len (by omega)
    refine ⟨xs ++ [a], by simp [hl], fun i b hb => ?_⟩
    rcases Nat.lt_or_ge i xs.length with hi | hi
    · rw [List.getElem?_append_left hi] at hb; exact hx i b hb
    · rw [List.getElem?_append_right hi] at hb
      have h0 : i - xs.length = 0 := by
        rcases Nat.eq_zero_or_pos (i - xs.length) with h0 | h0
        · exact h0
        · rw [List.getElem?_eq_none (by simp; omega)] at hb; cases hb
      rw [h0] at hb
      have hi' : i = len := by omega
      subst hi'
      have : a = b := by simpa using hb
      subst this
      exact ha
theorem mem_weightsAll {H : Type} {d : DataW H} : ∀ {l : List (DataW H)}, d ∈ l → ∀ m ∈ d.weights P e, m ∈ DataW.weightsAll P e l
  | x :: l, hd, m, hm => by
    simp only [DataW.weightsAll, List.mem_append]
    rcases List.mem_cons.1 hd with rfl | hd
    · exact .inl hm
    · exact .inr (mem_weightsAll hd m hm)
theorem add_add_ (a : Addr) (i j : Nat) : (a.add i).add j = a.add (i + j) := by
  unfold Addr.add
  by_cases hi : i = 0
  · subst hi; simp
  · by_cases hj : j = 0
    · subst hj; simp [hi]
    · simp [hi, hj, Nat.add_assoc]
theorem cells_get {W : World} {a : Addr} {n : Nat} {cs : List Value} (h : W.cells? 0 a n = some cs) : cs.length = n ∧ ∀ i u, cs[i]? = some u → W.cell? (a.add i) = some u := by
  unfold World.cells? at h
  rw [if_pos (Nat.zero_le _)] at h
  have hl : cs.length = n := by simpa using mapM_some_length h
  refine ⟨hl, fun i u hu => ?_⟩
  have hi : i < n := by
    rcases Nat.lt_or_ge i cs.length with h' | h'
    · omega
    · rw [List.getElem?_eq_none h'] at hu; cases hu
  have := mapM_some_get h i i (by simp [hi])
  rw [hu] at this
  exact this
theorem OpensN.slice {α : Type} {d : Kd α} {ok : α → Prop} {B : Nat} (h : OpensN P n e d ok) (hu : P.underlying t = some (.slice e)) (hs : P.cellsOf e = d.sz) (hB : P.bytesOf e = B) :
    OpensN P (n + 1) t (Kd.slice e d) (fun xs => xs.length * B ≤ 140737488351232 ∧ ∀ x ∈ xs, ok x) := by
  intro H enc W fuel cs x hf htr hw
  rcases DataW.trod_slice hu htr with ⟨rfl, rfl⟩ | ⟨a, len, cap, elems, rest, m, rfl, rfl, rfl, hb, hl, hm, hel, hget, _, _⟩
  · exact ⟨[], ⟨none, 0, rfl, Nat.le_refl _, Kd.C_nil _ _⟩, by simp, by simp⟩
  · have hwx : (elems.length + rest.length) * B ≤ 140737488351232 := by
      have := hw (((elems.map (·.1)).length + (rest.map (·.1)).length) * P.bytesOf e) (by simp only [DataW.weights, hu]; exact List.mem_cons_self)
      rw [hB, List.length_map, List.length_map] at this
      exact Nat.le_trans this reach_le
    obtain ⟨xs, hxl, hx⟩ := build_list (Q := fun i y => ok y ∧ ∃ c, c.length = d.sz ∧ d.K W y c ∧ ∀ j u, c[j]? = some u → W.cell? (a.add (i * d.sz + j)) = some u) len (fun i hi => by
      have hg := hget i hi
      obtain ⟨el, hel'⟩ : ∃ el, elems[i]? = some el := ⟨elems[i]'(by omega), by simp⟩
      rw [hel'] at hg
      obtain ⟨c, hc, htd⟩ := Option.bind_eq_some_iff.1 hg
      obtain ⟨hcl, hcc⟩ := cells_get hc
      obtain ⟨y, hk, hy⟩ := h H enc W m c el (by omega) htd (fun q hq => hw q (by
        simp only [DataW.weights, hu, List.mem_cons, List.mem_append]
        exact .inr (.inl (mem_weightsAll (List.mem_map.2 ⟨el, List.mem_of_getElem? hel', rfl⟩) q hq))))
      refine ⟨y, hy, c, by omega, hk, fun j u hju => ?_⟩
      have := hcc j u hju
      rw [add_add_, hs] at this
      exact this)
    have hbig : len ≤ 9223372036854775807 := by unfold maxLen at hm; omega
    refine ⟨xs, ⟨some a, cap, by rw [hxl], by omega, ?_⟩, ?_, ?_⟩
    · refine ⟨rfl, by omega, fun _ => ⟨a, rfl, fun j p hj => ?_⟩⟩
      obtain ⟨_, c, h1, h2, h3⟩ := hx j p hj
      exact ⟨c, h1, h2, h3⟩
    · refine Nat.le_trans (Nat.mul_le_mul_right _ ?_) hwx
      omega
    · intro y hy
      obtain ⟨i, hi⟩ := List.mem_iff_getElem?.1 hy
      exact (hx i y hi).1
theorem Opens.slice {α : Type} {d : Kd α} {ok : α → Prop} {B : Nat} (h : Opens P e d ok) (hu : P.underlying t = some (.slice e)) (hs : P.cellsOf e = d.sz) (hB : P.bytesOf e = B) :
    Opens P t (Kd.slice e d) (fun xs => xs.length * B ≤ 140737488351232 ∧ ∀ x ∈ xs, ok x)
  | 0 => OpensN.zero
  | n + 1 => (h n).slice hu hs hB
/-- The fields of a struct from offset 'off' on. -/
def OpensFs {α : Type} (P : Program) (n : Nat) (T off : Nat) (fs : List Field) (d : Kd α) (ok : α → Prop) : Prop :=
  ∀ (H : Type) (enc : TypeId × Value → H) (W : World) (fuel : Nat) (cs : List Value) (xs : List (DataW H × List MemPlace)), fuel ≤ n → cs.length = T → xs.length = fs.length →
    (∀ (i : Nat) (f : Field), fs[i]? = some f → DataW.trod enc P W 0 (fun _ => true) true fuel f.type ((cs.drop f.offset).take (P.cellsOf f.type)) = xs[i]?) →
    (∀ m ∈ DataW.weightsEach P (fs.map (·.type)) (xs.map (·.1)), m ≤ reachBytes) → ∃ a, d.K W a (cs.drop off) ∧ ok a
theorem OpensFs.last {α : Type} {T off : Nat} {f : Field} {d : Kd α} {ok : α → Prop} (h : OpensN P n f.type d ok) (ho : f.offset = off) (hs : P.cellsOf f.type = d.sz) (hT : off + d.sz = T) : OpensFs P n T off [f] d ok := by
  intro H enc W fuel cs xs hf hl hx hg hw
  match xs, hx, hg, hw with
  | [x], _, hg, hw =>
    have h0 := hg 0 f rfl
    rw [ho, hs, List.take_of_length_le (by simp; omega)] at h0
    exact h H enc W fuel _ x hf h0 (fun m hm => hw m (by simp [DataW.weightsEach, hm]))
theorem OpensFs.cons {α β : Type} {T off : Nat} {f : Field} {fs : List Field} {d : Kd α} {ok : α → Prop} {d' : Kd β} {ok' : β → Prop} (h : OpensN P n f.type d ok) (ho : f.offset = off) (hs : P.cellsOf f.type = d.sz)
    (hr : OpensFs P n T (off + d.sz) fs d' ok') : OpensFs P n T off (f :: fs) (Kd.pair d d') (fun x => ok x.1 ∧ ok' x.2) := by
  intro H enc W fuel cs xs hf hl hx hg hw
  match xs, hx, hg, hw with
  | x :: xs, hx, hg, hw =>
    have h0 := hg 0 f rfl
    rw [ho, hs] at h0
    obtain ⟨a, ha, hok⟩ := h H enc W fuel _ x hf h0 (fun m hm => hw m (by simp [DataW.weightsEach, hm]))
    obtain ⟨b, hb, hok'⟩ := hr H enc W fuel cs xs hf hl (by simpa using hx) (fun i g hi => hg (i + 1) g hi) (fun m hm => hw m (by simp [DataW.weightsEach, hm]))
    refine ⟨(a, b), ⟨(cs.drop off).take d.sz, cs.drop (off + d.sz), ?_, ha, hb⟩, hok, hok'⟩
    rw [← List.drop_drop, List.take_append_drop]
theorem OpensN.struct {α β : Type} {fs : Array Field} {d : Kd α} {ok : α → Prop} {f : β → α} (g : α → β) (hfg : ∀ a, f (g a) = a) (hu : P.underlying t = some (.struct fs)) (h : OpensFs P n (P.cellsOf t) 0 fs.toList d ok) :
    OpensN P (n + 1) t (Kd.iso d f) (fun b => ok (f b)) := by
  intro H enc W fuel cs x hf htr hw
  obtain ⟨xs, m, rfl, rfl, hl, hxl, hg⟩ := DataW.trod_struct hu htr
  obtain ⟨a, ha, hok⟩ := h H enc W m cs xs (by omega) hl (by simpa using hxl) (fun i f hi => hg i f (by simpa using hi)) (fun q hq => hw q (by simpa [DataW.weights, hu] using hq))
  refine ⟨g a, ?_, ?_⟩
  · show d.K W (f (g a)) cs
    rw [hfg]; simpa using ha
  · show ok (f (g a))
    rw [hfg]; exact hok
/-- The weights of an argument are among those of all. -/
theorem weights_at {H : Type} {ts : List TypeId} {ds : List (DataW H)} (h : (DataW.weightsEach P ts ds).all (· ≤ reachBytes) = true) {j : Nat} {d : DataW H} (ht : ts[j]? = some t) (hd : ds[j]? = some d) : ∀ m ∈ d.weights P t, m ≤ reachBytes := by
  intro m hm
  have := List.all_eq_true.1 h _ (DataW.weights_mem_each ht hd m hm)
  simpa using this
end
end Go.Proofs.YtimjodgnlahclaaDoor.G
