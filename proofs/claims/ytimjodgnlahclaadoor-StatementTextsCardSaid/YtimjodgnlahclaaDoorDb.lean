/-
  DATES, PLAIN: the reference's text comes to the same civil dates, days, lengths of months and texts.
-/
import Derived.Test.YtimjodgnlahclaaDoorDa
import Derived.Test.YtimjodgnlahclaaDoorGx10
namespace Go.Proofs.YtimjodgnlahclaaDoor.G
open Go.RowKit Go.Proofs.YtimjodgnlahclaaDoorW.PrintWords Go.Proofs.YtimjodgnlahclaaDoorW.PrintLast Go.Proofs.YtimjodgnlahclaaDoorW.PrintMore
set_option linter.unusedVariables false
set_option linter.unusedSimpArgs false

theorem rvalid_ev (a : Int) : corebankref04_Valid.f a = some (decide (0 ≤ a ∧ a ≤ 73048)) := by
  unfold corebankref04_Valid.f
  by_cases h : a ≥ 0
  · rw [if_pos h]; congr 1; apply decide_eq_decide.2; omega
  · rw [if_neg h]; congr 1; symm; apply decide_eq_false; omega
theorem rleap_ev (y : Int) : corebankref04_Leap.f y = some (leapV y) := by
  unfold corebankref04_Leap.f leapV
  by_cases h4 : Int.tmod y 4 = 0
  · rw [if_pos h4]
    by_cases h1 : Int.tmod y 100 = 0
    · rw [if_pos h1]; simp [h4, h1]; by_cases h5 : Int.tmod y 400 = 0 <;> simp [h5]
    · rw [if_neg h1]; simp [h4, h1]
  · rw [if_neg h4]; simp [h4]
theorem ryear_ev (y : Int) : corebankref04_yearLength.f y = some (ylV y) := by
  unfold corebankref04_yearLength.f ylV
  rw [rleap_ev, Option.bind_some]
  by_cases l : leapV y = true
  · rw [if_pos l, if_pos l]
  · rw [if_neg l, if_neg l]
def rlenV (y m : Int) : Int := if 1 ≤ m ∧ m ≤ 12 then lenV y m else 0
theorem rlen_ev (y m : Int) : Ev (fun k => corebankref04_Length.f k y m) (rlenV y m) := by
  by_cases h : 1 ≤ m ∧ m ≤ 12
  · unfold rlenV; rw [if_pos h]
    refine months (P := fun m => Ev (fun k => corebankref04_Length.f k y m) (lenV y m)) ?_ ?_ ?_ ?_ ?_ ?_ ?_ ?_ ?_ ?_ ?_ ?_ m h
    all_goals (refine Ev.of (fun k => corebankref04_Length.mono y _ k) (k := 5) ?_; by_cases l : leapV y = true <;> simp [corebankref04_Length.f, corebankref04_Length.j0, corebankref04_Length.j1, lenV, rd, rleap_ev, l])
  · unfold rlenV; rw [if_neg h]
    refine Ev.of (fun k => corebankref04_Length.mono y m k) (k := 5) ?_
    have e : ∀ j : Int, 1 ≤ j → j ≤ 12 → ¬ m = j := fun j _ _ => by omega
    simp [corebankref04_Length.f, corebankref04_Length.j0, corebankref04_Length.j1, e 1 (by omega) (by omega), e 2 (by omega) (by omega), e 3 (by omega) (by omega), e 4 (by omega) (by omega), e 5 (by omega) (by omega), e 6 (by omega) (by omega), e 7 (by omega) (by omega), e 8 (by omega) (by omega), e 9 (by omega) (by omega), e 10 (by omega) (by omega), e 11 (by omega) (by omega), e 12 (by omega) (by omega)]
theorem rlenV_at {y m : Int} (h : 1 ≤ m ∧ m ≤ 12) : rlenV y m = lenV y m := by unfold rlenV; rw [if_pos h]
theorem rlen_at (y m : Int) (h : 1 ≤ m ∧ m ≤ 12) : Ev (fun k => corebankref04_Length.f k y m) (lenV y m) := by rw [← rlenV_at h]; exact rlen_ev y m
theorem rciv1 (day y : Int) (h0 : 2000 ≤ y) (h1 : y ≤ 2199) : ∀ (c : Nat) (m : Int), 1 ≤ m → m ≤ 12 → m + c = 12 → 0 ≤ day - beginV y - cumV y m → day - beginV y < ylV y →
    ∃ t : Int × Int × Int, IsC day t.1 t.2.1 t.2.2 ∧ Ev (fun k => corebankref04_Civil.l1 k (day - beginV y - cumV y m) y m) t := by
  intro c
  induction c with
  | zero =>
    intro m hm0 hm1 hc hr hy
    have hcu := cum_in y m ⟨hm0, hm1⟩
    have hli := len_in y m ⟨hm0, hm1⟩
    obtain rfl : m = 12 := by omega
    have hn := cum_next y 12 ⟨by omega, by omega⟩
    rw [show (12 : Int) + 1 = 13 from rfl, cum_end] at hn
    have hb := yl_in y
    refine ⟨(y, 12, day - beginV y - cumV y 12 + 1), (show IsC day y 12 (day - beginV y - cumV y 12 + 1) from ⟨h0, h1, by omega, by omega, by omega, by omega, by omega⟩), ?_⟩
    refine Ev.step (f := fun k => (corebankref04_Length.f k y 12).bind fun t111 => (if day - beginV y - cumV y 12 ≥ t111 then ((corebankref04_Length.f k y 12).bind fun t112 => (corebankref04_Civil.l1 k (wrap64 (day - beginV y - cumV y 12 - t112)) y (wrap64 (12 + 1)))) else (some (y, 12, wrap64 (day - beginV y - cumV y 12 + 1))))) (fun k => by simp only [corebankref04_Civil.l1]) ?_
    refine Ev.bind (rlen_at y 12 ⟨by omega, by omega⟩) ?_
    refine Ev.neg (by omega) ?_
    rw [wrapn (by omega) (by omega)]
    exact Ev.now _
  | succ c ih =>
    intro m hm0 hm1 hc hr hy
    have hcu := cum_in y m ⟨hm0, hm1⟩
    have hli := len_in y m ⟨hm0, hm1⟩
    have hb := yl_in y
    have step : ∀ k, corebankref04_Civil.l1 (k + 1) (day - beginV y - cumV y m) y m = (corebankref04_Length.f k y m).bind fun t111 => (if day - beginV y - cumV y m ≥ t111 then ((corebankref04_Length.f k y m).bind fun t112 => (corebankref04_Civil.l1 k (wrap64 (day - beginV y - cumV y m - t112)) y (wrap64 (m + 1)))) else (some (y, m, wrap64 (day - beginV y - cumV y m + 1)))) := fun k => by simp only [corebankref04_Civil.l1]
    by_cases g : day - beginV y - cumV y m ≥ lenV y m
    · have hn := cum_next y m ⟨hm0, hm1⟩
      obtain ⟨t, ht, he⟩ := ih (m + 1) (by omega) (by omega) (by omega) (by omega) hy
      refine ⟨t, ht, Ev.step step ?_⟩
      refine Ev.bind (rlen_at y m ⟨by omega, by omega⟩) ?_
      refine Ev.pos g ?_
      refine Ev.bind (rlen_at y m ⟨by omega, by omega⟩) ?_
      rw [wrapn (i := day - beginV y - cumV y m - lenV y m) (by omega) (by omega), wrapn (i := m + 1) (by omega) (by omega), show day - beginV y - cumV y m - lenV y m = day - beginV y - cumV y (m + 1) by omega]
      exact he
    · refine ⟨(y, m, day - beginV y - cumV y m + 1), (show IsC day y m (day - beginV y - cumV y m + 1) from ⟨h0, h1, by omega, by omega, by omega, by omega, by omega⟩), Ev.step step ?_⟩
      refine Ev.bind (rlen_at y m ⟨by omega, by omega⟩) ?_
      refine Ev.neg g ?_
      rw [wrapn (by omega) (by omega)]
      exact Ev.now _
theorem rciv0 (day : Int) (hd : day ≤ 73048) : ∀ (c : Nat) (y : Int), 2000 ≤ y → y ≤ 2199 → y + c = 2199 → beginV y ≤ day →
    ∃ t : Int × Int × Int, IsC day t.1 t.2.1 t.2.2 ∧ Ev (fun k => corebankref04_Civil.l0 k (day - beginV y) y 1) t := by
  intro c
  have step : ∀ (y : Int) (k : Nat), corebankref04_Civil.l0 (k + 1) (day - beginV y) y 1 = if day - beginV y ≥ ylV y then (corebankref04_Civil.l0 k (wrap64 (day - beginV y - ylV y)) (wrap64 (y + 1)) 1) else (corebankref04_Civil.l1 k (day - beginV y) y 1) := fun y k => by
    simp only [corebankref04_Civil.l0, ryear_ev, Option.bind_some]
  have fin : ∀ y : Int, 2000 ≤ y → y ≤ 2199 → beginV y ≤ day → ¬ day - beginV y ≥ ylV y → ∃ t : Int × Int × Int, IsC day t.1 t.2.1 t.2.2 ∧ Ev (fun k => corebankref04_Civil.l0 k (day - beginV y) y 1) t := fun y h0 h1 hb g => by
    obtain ⟨t, ht, hv⟩ := rciv1 day y h0 h1 11 1 (by omega) (by omega) (by omega) (by rw [cum_first]; omega) (by omega)
    rw [cum_first, Int.sub_zero] at hv
    exact ⟨t, ht, Ev.step (step y) (Ev.neg g hv)⟩
  induction c with
  | zero =>
    intro y h0 h1 hc hb
    obtain rfl : y = 2199 := by omega
    have hn := begin_next 2199 (by omega) (by omega)
    have he : beginV 2200 = 73049 := by decide
    rw [show (2199 : Int) + 1 = 2200 from rfl] at hn
    exact fin 2199 (by omega) (by omega) hb (by omega)
  | succ c ih =>
    intro y h0 h1 hc hb
    have hn := begin_next y h0 h1
    have hi := begin_in y h0 (by omega)
    have hy := yl_in y
    by_cases g : day - beginV y ≥ ylV y
    · obtain ⟨t, ht, hv⟩ := ih (y + 1) (by omega) (by omega) (by omega) (by omega)
      refine ⟨t, ht, Ev.step (step y) (Ev.pos g ?_)⟩
      rw [wrapn (by omega) (by omega), wrapn (i := y + 1) (by omega) (by omega), show day - beginV y - ylV y = day - beginV (y + 1) by omega]
      exact hv
    · exact fin y h0 h1 hb g
theorem rcivil_ev (day : Int) : Ev (fun k => corebankref04_Civil.f k day) (civV day) := by
  unfold corebankref04_Civil.f
  simp only [rvalid_ev, Option.bind_some]
  by_cases h : 0 ≤ day ∧ day ≤ 73048
  · refine Ev.pos (decide_eq_true h) ?_
    obtain ⟨t, ht, hv⟩ := rciv0 day h.2 199 2000 (by omega) (by omega) (by omega) (by show beginV 2000 ≤ day; rw [show beginV 2000 = 0 by decide]; omega)
    rw [civV_eq ht]
    rw [show beginV 2000 = 0 by decide, Int.sub_zero] at hv
    exact hv
  · unfold civV; rw [dif_neg h]
    refine Ev.neg (by simpa using h) ?_
    exact Ev.now _
/-- The last c digits of n, ahead of acc. -/
def digs : Nat → Nat → ByteArray → ByteArray
  | 0, _, acc => acc
  | c + 1, n, acc => digs c (n / 10) (⟨#[UInt8.ofNat (48 + n % 10)]⟩ ++ acc)
theorem digits_loop : ∀ (c : Nat) (n : Nat) (cnt i : Int) (acc : ByteArray), n < 1000000 → 0 ≤ i → i + c = cnt → cnt ≤ 100 → acc.size + c ≤ 1000 →
    Ev (fun k => corebankref04_digits.l0 k (n : Int) cnt acc i) (digs c n acc)
  | 0, n, cnt, i, acc, hn, hi, hc, _, _ => Ev.step (f := fun _ => some acc) (fun k => by simp only [corebankref04_digits.l0]; rw [if_neg (by omega)]) (Ev.now _)
  | c + 1, n, cnt, i, acc, hn, hi, hc, hcnt, hs => by
    have hm : Int.tmod (n : Int) 10 = ((n % 10 : Nat) : Int) := by rw [Int.tmod_eq_emod_of_nonneg (by omega)]; rfl
    have hd : Int.tdiv (n : Int) 10 = ((n / 10 : Nat) : Int) := by rw [Int.tdiv_eq_ediv_of_nonneg (by omega)]; rfl
    have hm1 : wrap64 (((n % 10 : Nat) : Int) + 1) = ((n % 10 + 1 : Nat) : Int) := by rw [wrapn (by omega) (by omega)]; rfl
    have hd1 : wrap64 ((n / 10 : Nat) : Int) = ((n / 10 : Nat) : Int) := wrapn (by omega) (by omega)
    have hdig : (⟨#[48, 49, 50, 51, 52, 53, 54, 55, 56, 57]⟩ : ByteArray).extract (n % 10) (n % 10 + 1) = ⟨#[UInt8.ofNat (48 + n % 10)]⟩ := tens_at _ (Nat.mod_lt _ (by decide))
    have hsz : (⟨#[UInt8.ofNat (48 + n % 10)]⟩ : ByteArray).size = 1 := rfl
    refine Ev.step (f := fun k => corebankref04_digits.l0 k ((n / 10 : Nat) : Int) cnt (⟨#[UInt8.ofNat (48 + n % 10)]⟩ ++ acc) (i + 1)) (fun k => ?_) (digits_loop c (n / 10) cnt (i + 1) _ (by omega) (by omega) (by omega) hcnt (by rw [one_size]; omega))
    simp only [corebankref04_digits.l0, hm, hd, hm1, hd1, Int.toNat_natCast, hdig, hsz]
    rw [if_pos (by omega), if_pos (by omega), if_pos (by omega), if_pos (by omega), if_pos (by omega), wrapn (i := i + 1) (by omega) (by omega)]
theorem rformat_ev (day : Int) : Ev (fun k => corebankref04_Format.f k day) (fmtV day) := by
  unfold corebankref04_Format.f fmtV
  simp only [rvalid_ev, Option.bind_some]
  by_cases h : 0 ≤ day ∧ day ≤ 73048
  · rw [if_pos h]
    refine Ev.pos (decide_eq_true h) ?_
    have c := civV_is day h
    have hl := len_in (civV day).1 (civV day).2.1 ⟨c.m0, c.m1⟩
    have := c.y0; have := c.y1; have := c.m0; have := c.m1; have := c.d0; have := c.d1
    refine Ev.bind (rcivil_ev day) ?_
    have d4 : Ev (fun k => corebankref04_digits.f k (civV day).1 4) (four (civV day).1.toNat) := by
      have e := digits_loop 4 (civV day).1.toNat 4 0 ⟨#[]⟩ (by omega) (by omega) (by omega) (by omega) (by decide)
      rw [show (((civV day).1.toNat : Nat) : Int) = (civV day).1 by omega] at e
      have e2 : digs 4 (civV day).1.toNat ⟨#[]⟩ = four (civV day).1.toNat := by
        simp only [digs]
        unfold four
        rw [show (civV day).1.toNat / 10 / 10 / 10 % 10 = (civV day).1.toNat / 1000 by omega, show (civV day).1.toNat / 10 / 10 % 10 = (civV day).1.toNat / 100 % 10 by omega]; rfl
      rw [← e2]; exact e
    have d2 : ∀ x : Int, 0 ≤ x → x < 100 → Ev (fun k => corebankref04_digits.f k x 2) (two x.toNat) := fun x x0 x1 => by
      have e := digits_loop 2 x.toNat 2 0 ⟨#[]⟩ (by omega) (by omega) (by omega) (by omega) (by decide)
      rw [show ((x.toNat : Nat) : Int) = x by omega] at e
      have e2 : digs 2 x.toNat ⟨#[]⟩ = two x.toNat := by
        simp only [digs]
        unfold two
        rw [show x.toNat / 10 % 10 = x.toNat / 10 by omega]; rfl
      rw [← e2]; exact e
    refine Ev.bind d4 ?_
    refine Ev.pos (show 4 + 1 ≤ 9223372036854775807 by decide) ?_
    refine Ev.bind (d2 _ (by omega) (by omega)) ?_
    refine Ev.pos (by simp only [ByteArray.size_append]; exact (show 4 + 1 + 2 ≤ 9223372036854775807 by decide)) ?_
    refine Ev.pos (by simp only [ByteArray.size_append]; exact (show 4 + 1 + 2 + 1 ≤ 9223372036854775807 by decide)) ?_
    refine Ev.bind (d2 _ (by omega) (by omega)) ?_
    refine Ev.pos (by simp only [ByteArray.size_append]; exact (show 4 + 1 + 2 + 1 + 2 ≤ 9223372036854775807 by decide)) ?_
    exact Ev.now _
  · rw [if_neg h]
    refine Ev.neg (by simpa using h) ?_
    exact Ev.now _
end Go.Proofs.YtimjodgnlahclaaDoor.G
