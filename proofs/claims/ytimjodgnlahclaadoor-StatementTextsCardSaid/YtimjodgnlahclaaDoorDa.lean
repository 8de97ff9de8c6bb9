/-
  DATES, PLAIN: years, months and days from 2000 on; a day has one civil date; both texts of the civil date, of the day and of the length of a month come to it.
-/
import Derived.Test.YtimjodgnlahclaaDoorPl
import Derived.Test.YtimjodgnlahclaaDoorExt1
import Derived.Test.YtimjodgnlahclaaDoorGx3
namespace Go.Proofs.YtimjodgnlahclaaDoor.G
open Go.RowKit Go.Proofs.YtimjodgnlahclaaDoorW.PrintWords Go.Proofs.YtimjodgnlahclaaDoorW.PrintLast Go.Proofs.YtimjodgnlahclaaDoorW.PrintMore
set_option linter.unusedVariables false
set_option linter.unusedSimpArgs false

theorem leap_iff (y : Int) (h : 0 ≤ y) : leapV y = true ↔ (y % 4 = 0 ∧ (¬ y % 100 = 0 ∨ y % 400 = 0)) := by
  unfold leapV
  rw [Int.tmod_eq_emod_of_nonneg h, Int.tmod_eq_emod_of_nonneg h, Int.tmod_eq_emod_of_nonneg h]
  simp
def ylV (y : Int) : Int := if leapV y = true then 366 else 365
def beginV (y : Int) : Int := 365 * (y - 2000) + (y - 2000 + 3) / 4 - (if y > 2100 then 1 else 0)
theorem begin_next (y : Int) (h0 : 2000 ≤ y) (h1 : y ≤ 2199) : beginV (y + 1) = beginV y + ylV y := by
  have hl := leap_iff y (by omega)
  unfold beginV ylV
  by_cases l : leapV y = true
  · rw [if_pos l]; have := hl.1 l
    by_cases g : y > 2100
    · rw [if_pos (by omega), if_pos g]; omega
    · rw [if_neg g]; by_cases g2 : y + 1 > 2100
      · exfalso; omega
      · rw [if_neg g2]; omega
  · rw [if_neg l]; have h2 : ¬ (y % 4 = 0 ∧ (¬ y % 100 = 0 ∨ y % 400 = 0)) := fun h => l (hl.2 h)
    by_cases g : y > 2100
    · rw [if_pos (by omega), if_pos g]; omega
    · rw [if_neg g]; by_cases g2 : y + 1 > 2100
      · rw [if_pos g2]; omega
      · rw [if_neg g2]; omega
theorem yl_in (y : Int) : 365 ≤ ylV y ∧ ylV y ≤ 366 := by unfold ylV; split <;> omega
theorem begin_in (y : Int) (h0 : 2000 ≤ y) (h1 : y ≤ 2200) : 0 ≤ beginV y ∧ beginV y ≤ 73049 := by
  unfold beginV; split <;> omega
theorem begin_mono (y z : Int) (h0 : 2000 ≤ y) (h1 : y < z) (h2 : z ≤ 2200) : beginV y + ylV y ≤ beginV z := by
  rw [← begin_next y h0 (by omega)]
  unfold beginV
  by_cases g : y + 1 > 2100
  · rw [if_pos g, if_pos (by omega)]; omega
  · rw [if_neg g]; split <;> omega
theorem months {P : Int → Prop} (h1 : P 1) (h2 : P 2) (h3 : P 3) (h4 : P 4) (h5 : P 5) (h6 : P 6) (h7 : P 7) (h8 : P 8) (h9 : P 9) (h10 : P 10) (h11 : P 11) (h12 : P 12) (m : Int) (h : 1 ≤ m ∧ m ≤ 12) : P m := by
  have : m = 1 ∨ m = 2 ∨ m = 3 ∨ m = 4 ∨ m = 5 ∨ m = 6 ∨ m = 7 ∨ m = 8 ∨ m = 9 ∨ m = 10 ∨ m = 11 ∨ m = 12 := by omega
  rcases this with rfl | rfl | rfl | rfl | rfl | rfl | rfl | rfl | rfl | rfl | rfl | rfl <;> assumption
def cumV (y m : Int) : Int := rd [0, 0, 31, 59, 90, 120, 151, 181, 212, 243, 273, 304, 334, 365] m + (if 2 < m then (if leapV y = true then 1 else 0) else 0)
theorem cum_next (y m : Int) (h : 1 ≤ m ∧ m ≤ 12) : cumV y (m + 1) = cumV y m + lenV y m := by
  by_cases l : leapV y = true
  · exact months (P := fun m => cumV y (m + 1) = cumV y m + lenV y m) (by simp [cumV, lenV, l, rd]) (by simp [cumV, lenV, l, rd]) (by simp [cumV, lenV, l, rd]) (by simp [cumV, lenV, l, rd]) (by simp [cumV, lenV, l, rd]) (by simp [cumV, lenV, l, rd]) (by simp [cumV, lenV, l, rd]) (by simp [cumV, lenV, l, rd]) (by simp [cumV, lenV, l, rd]) (by simp [cumV, lenV, l, rd]) (by simp [cumV, lenV, l, rd]) (by simp [cumV, lenV, l, rd]) m h
  · exact months (P := fun m => cumV y (m + 1) = cumV y m + lenV y m) (by simp [cumV, lenV, l, rd]) (by simp [cumV, lenV, l, rd]) (by simp [cumV, lenV, l, rd]) (by simp [cumV, lenV, l, rd]) (by simp [cumV, lenV, l, rd]) (by simp [cumV, lenV, l, rd]) (by simp [cumV, lenV, l, rd]) (by simp [cumV, lenV, l, rd]) (by simp [cumV, lenV, l, rd]) (by simp [cumV, lenV, l, rd]) (by simp [cumV, lenV, l, rd]) (by simp [cumV, lenV, l, rd]) m h
theorem len_in (y m : Int) (h : 1 ≤ m ∧ m ≤ 12) : 28 ≤ lenV y m ∧ lenV y m ≤ 31 :=
  months (P := fun m => 28 ≤ lenV y m ∧ lenV y m ≤ 31) (by simp [lenV, rd]) (by unfold lenV; rw [if_pos rfl]; split <;> omega) (by simp [lenV, rd]) (by simp [lenV, rd]) (by simp [lenV, rd]) (by simp [lenV, rd]) (by simp [lenV, rd]) (by simp [lenV, rd]) (by simp [lenV, rd]) (by simp [lenV, rd]) (by simp [lenV, rd]) (by simp [lenV, rd]) m h
theorem cum_first (y : Int) : cumV y 1 = 0 := by simp [cumV, rd]
theorem cum_end (y : Int) : cumV y 13 = ylV y := by unfold cumV ylV; by_cases l : leapV y = true <;> simp [l, rd]
theorem cum_mono (y : Int) : ∀ (d : Nat) (m : Int), 1 ≤ m → m + d ≤ 13 → cumV y m ≤ cumV y (m + d) ∧ 28 * (d : Int) ≤ cumV y (m + d) - cumV y m
  | 0, m, _, _ => by simp
  | d + 1, m, h1, h2 => by
    have ih := cum_mono y d m h1 (by omega)
    have hn := cum_next y (m + d) ⟨by omega, by omega⟩
    have hl := len_in y (m + d) ⟨by omega, by omega⟩
    rw [show m + ((d + 1 : Nat) : Int) = m + d + 1 by omega]
    omega
theorem cum_in (y m : Int) (h : 1 ≤ m ∧ m ≤ 12) : 0 ≤ cumV y m ∧ cumV y m + lenV y m ≤ ylV y := by
  have h1 := cum_mono y (m - 1).toNat 1 (by omega) (by omega)
  have h2 := cum_mono y (13 - (m + 1)).toNat (m + 1) (by omega) (by omega)
  rw [cum_first, show (1 : Int) + ((m - 1).toNat : Int) = m by omega] at h1
  rw [show m + 1 + ((13 - (m + 1)).toNat : Int) = 13 by omega, cum_end, cum_next y m h] at h2
  omega
theorem cum_lt (y m n : Int) (h0 : 1 ≤ m) (h1 : m < n) (h2 : n ≤ 12) : cumV y m + lenV y m ≤ cumV y n := by
  have h := cum_mono y (n - (m + 1)).toNat (m + 1) (by omega) (by omega)
  rw [show m + 1 + ((n - (m + 1)).toNat : Int) = n by omega, cum_next y m ⟨h0, by omega⟩] at h
  omega

/-- The day's civil date is y, m, d. -/
structure IsC (day y m d : Int) : Prop where
  y0 : 2000 ≤ y
  y1 : y ≤ 2199
  m0 : 1 ≤ m
  m1 : m ≤ 12
  d0 : 1 ≤ d
  d1 : d ≤ lenV y m
  at_ : day = beginV y + cumV y m + d - 1
theorem IsC.valid {day y m d : Int} (h : IsC day y m d) : 0 ≤ day ∧ day ≤ 73048 := by
  have h1 := begin_in y h.y0 (by have := h.y1; omega)
  have h2 := cum_in y m ⟨h.m0, h.m1⟩
  have h3 := begin_next y h.y0 h.y1
  have h4 := begin_in (y + 1) (by have := h.y0; omega) (by have := h.y1; omega)
  have := h.d0; have := h.d1; have := h.at_
  omega
theorem IsC.one {day y m d y' m' d' : Int} (h : IsC day y m d) (h' : IsC day y' m' d') : y = y' ∧ m = m' ∧ d = d' := by
  have a := cum_in y m ⟨h.m0, h.m1⟩
  have a' := cum_in y' m' ⟨h'.m0, h'.m1⟩
  have := h.d0; have := h.d1; have := h.at_; have := h'.d0; have := h'.d1; have := h'.at_
  have hy : y = y' := by
    rcases Int.lt_trichotomy y y' with g | g | g
    · have := begin_mono y y' h.y0 g (by have := h'.y1; omega); omega
    · exact g
    · have := begin_mono y' y h'.y0 g (by have := h.y1; omega); omega
  subst hy
  have hm : m = m' := by
    rcases Int.lt_trichotomy m m' with g | g | g
    · have := cum_lt y m m' h.m0 g h'.m1; omega
    · exact g
    · have := cum_lt y m' m h'.m0 g h.m1; omega
  subst hm
  exact ⟨rfl, rfl, by omega⟩

/-! ### the program's text -/
theorem valid_ev (a : Int) : date_Valid.f a = some (decide (0 ≤ a ∧ a ≤ 73048)) := by
  unfold date_Valid.f
  by_cases h : a ≥ 0
  · rw [if_pos h]; congr 1; apply decide_eq_decide.2; omega
  · rw [if_neg h]; congr 1; symm; apply decide_eq_false; omega
theorem length_some (y m : Int) (h : 0 ≤ m ∧ m ≤ 12) : date_length.f y m = some (lenV y m) := by
  unfold date_length.f; rw [if_pos h.1, if_pos (by omega)]
theorem begin_ev (y : Int) (h0 : 2000 ≤ y) (h1 : y ≤ 2200) : date_begin.f y = some (beginV y) := by
  have e : Int.tdiv (y - 2000 + 3) 4 = (y - 2000 + 3) / 4 := Int.tdiv_eq_ediv_of_nonneg (by omega)
  unfold date_begin.f beginV
  rw [wrapn (i := y - 2000) (by omega) (by omega), wrapn (i := y - 2000 + 3) (by omega) (by omega), e, wrapn (i := 365 * (y - 2000)) (by omega) (by omega), wrapn (i := (y - 2000 + 3) / 4) (by omega) (by omega)]
  by_cases g : y > 2100
  · rw [if_pos g, if_pos g, wrapn (i := (y - 2000 + 3) / 4 - 1) (by omega) (by omega), wrapn (by omega) (by omega)]; congr 1; omega
  · rw [if_neg g, if_neg g, wrapn (by omega) (by omega)]; congr 1; omega
theorem civ1 (day y : Int) (h0 : 2000 ≤ y) (h1 : y ≤ 2199) : ∀ (c : Nat) (m : Int), 1 ≤ m → m ≤ 12 → m + c = 12 → 0 ≤ day - beginV y - cumV y m → day - beginV y < ylV y →
    ∃ t : Int × Int × Int, IsC day t.1 t.2.1 t.2.2 ∧ Ev (fun k => date_Civil.l1 k (day - beginV y - cumV y m) y m) t := by
  intro c
  induction c with
  | zero =>
    intro m hm0 hm1 hc hr hy
    have hcu := cum_in y m ⟨hm0, hm1⟩
    have hli := len_in y m ⟨hm0, hm1⟩
    obtain rfl : m = 12 := by omega
    have hn := cum_next y 12 ⟨by omega, by omega⟩
    rw [show (12 : Int) + 1 = 13 from rfl, cum_end] at hn
    refine ⟨(y, 12, day - beginV y - cumV y 12 + 1), (show IsC day y 12 (day - beginV y - cumV y 12 + 1) from ⟨h0, h1, by omega, by omega, by omega, by omega, by omega⟩), Ev.step (f := fun _ => some _) (fun k => ?_) (Ev.now _)⟩
    have hb := yl_in y
    simp only [date_Civil.l1]
    rw [length_some y 12 ⟨by omega, by omega⟩, Option.bind_some, if_neg (by omega), wrapn (by omega) (by omega)]
  | succ c ih =>
    intro m hm0 hm1 hc hr hy
    have hcu := cum_in y m ⟨hm0, hm1⟩
    have hli := len_in y m ⟨hm0, hm1⟩
    have hb := yl_in y
    by_cases g : day - beginV y - cumV y m ≥ lenV y m
    · have hn := cum_next y m ⟨hm0, hm1⟩
      obtain ⟨t, ht, he⟩ := ih (m + 1) (by omega) (by omega) (by omega) (by omega) hy
      refine ⟨t, ht, Ev.step (f := fun k => date_Civil.l1 k (day - beginV y - cumV y (m + 1)) y (m + 1)) (fun k => ?_) he⟩
      simp only [date_Civil.l1]
      rw [length_some y m ⟨by omega, by omega⟩, Option.bind_some, Option.bind_some, if_pos g, wrapn (by omega) (by omega), wrapn (i := m + 1) (by omega) (by omega), hn]
      congr 1; omega
    · refine ⟨(y, m, day - beginV y - cumV y m + 1), (show IsC day y m (day - beginV y - cumV y m + 1) from ⟨h0, h1, by omega, by omega, by omega, by omega, by omega⟩), Ev.step (f := fun _ => some _) (fun k => ?_) (Ev.now _)⟩
      simp only [date_Civil.l1]
      rw [length_some y m ⟨by omega, by omega⟩, Option.bind_some, if_neg g, wrapn (by omega) (by omega)]
theorem civ0 (day : Int) (hd : day ≤ 73048) : ∀ (c : Nat) (y : Int), 2000 ≤ y → y ≤ 2199 → y + c = 2199 → beginV y ≤ day →
    ∃ t : Int × Int × Int, IsC day t.1 t.2.1 t.2.2 ∧ Ev (fun k => date_Civil.l0 k day y) t := by
  intro c
  induction c with
  | zero =>
    intro y h0 h1 hc hb
    obtain rfl : y = 2199 := by omega
    have hn := begin_next 2199 (by omega) (by omega)
    have hi := begin_in 2199 (by omega) (by omega)
    have he : beginV 2200 = 73049 := by decide
    obtain ⟨t, ht, hv⟩ := civ1 day 2199 (by omega) (by omega) 11 1 (by omega) (by omega) (by omega) (by rw [cum_first]; omega) (by rw [show (2199 : Int) + 1 = 2200 from rfl] at hn; omega)
    refine ⟨t, ht, Ev.step (f := fun k => date_Civil.l1 k (day - beginV 2199 - cumV 2199 1) 2199 1) (fun k => ?_) hv⟩
    simp only [date_Civil.l0]
    rw [wrapn (i := 2199 + 1) (by omega) (by omega), show (2199 : Int) + 1 = 2200 from rfl, begin_ev 2200 (by omega) (by omega), Option.bind_some, if_neg (by omega), begin_ev 2199 (by omega) (by omega), Option.bind_some, wrapn (by omega) (by omega), cum_first, Int.sub_zero]
  | succ c ih =>
    intro y h0 h1 hc hb
    have hn := begin_next y h0 h1
    have hi := begin_in y h0 (by omega)
    have hi' := begin_in (y + 1) (by omega) (by omega)
    by_cases g : beginV (y + 1) ≤ day
    · obtain ⟨t, ht, hv⟩ := ih (y + 1) (by omega) (by omega) (by omega) g
      refine ⟨t, ht, Ev.step (f := fun k => date_Civil.l0 k day (y + 1)) (fun k => ?_) hv⟩
      simp only [date_Civil.l0]
      rw [wrapn (i := y + 1) (by omega) (by omega), begin_ev (y + 1) (by omega) (by omega), Option.bind_some, if_pos g]
    · obtain ⟨t, ht, hv⟩ := civ1 day y h0 h1 11 1 (by omega) (by omega) (by omega) (by rw [cum_first]; omega) (by omega)
      refine ⟨t, ht, Ev.step (f := fun k => date_Civil.l1 k (day - beginV y - cumV y 1) y 1) (fun k => ?_) hv⟩
      simp only [date_Civil.l0]
      rw [wrapn (i := y + 1) (by omega) (by omega), begin_ev (y + 1) (by omega) (by omega), Option.bind_some, if_neg g, begin_ev y h0 (by omega), Option.bind_some, wrapn (by omega) (by omega), cum_first, Int.sub_zero]
theorem civ_ex (day : Int) (h : 0 ≤ day ∧ day ≤ 73048) : ∃ t : Int × Int × Int, IsC day t.1 t.2.1 t.2.2 ∧ Ev (fun k => date_Civil.f k day) t := by
  have hq : Int.tdiv day 366 = day / 366 := Int.tdiv_eq_ediv_of_nonneg h.1
  obtain ⟨t, ht, hv⟩ := civ0 day h.2 (199 - day / 366).toNat (2000 + day / 366) (by omega) (by omega) (by omega) (by unfold beginV; split <;> omega)
  refine ⟨t, ht, Ev.congr (f := fun k => date_Civil.l0 k day (2000 + day / 366)) (fun k => ?_) hv⟩
  unfold date_Civil.f
  rw [valid_ev, Option.bind_some, decide_eq_true h, if_pos rfl, hq, wrapn (i := day / 366) (by omega) (by omega), wrapn (i := 2000 + day / 366) (by omega) (by omega)]
noncomputable def civV (day : Int) : Int × Int × Int := if h : 0 ≤ day ∧ day ≤ 73048 then Classical.choose (civ_ex day h) else (0, 0, 0)
theorem civV_is (day : Int) (h : 0 ≤ day ∧ day ≤ 73048) : IsC day (civV day).1 (civV day).2.1 (civV day).2.2 := by
  unfold civV; rw [dif_pos h]; exact (Classical.choose_spec (civ_ex day h)).1
theorem civil_ev (day : Int) : Ev (fun k => date_Civil.f k day) (civV day) := by
  by_cases h : 0 ≤ day ∧ day ≤ 73048
  · unfold civV; rw [dif_pos h]; exact (Classical.choose_spec (civ_ex day h)).2
  · unfold civV; rw [dif_neg h]
    refine Ev.congr (f := fun _ => some (0, 0, 0)) (fun k => ?_) (Ev.now _)
    unfold date_Civil.f; rw [valid_ev, Option.bind_some, decide_eq_false h]; rfl
theorem civV_eq {day y m d : Int} (h : IsC day y m d) : civV day = (y, m, d) := by
  have h1 := (civV_is day h.valid).one h
  ext1
  · exact h1.1
  · ext1
    · exact h1.2.1
    · exact h1.2.2
/-! ### texts -/
def two (n : Nat) : ByteArray := ⟨#[UInt8.ofNat (48 + n / 10), UInt8.ofNat (48 + n % 10)]⟩
def four (n : Nat) : ByteArray := ⟨#[UInt8.ofNat (48 + n / 1000), UInt8.ofNat (48 + n / 100 % 10), UInt8.ofNat (48 + n / 10 % 10), UInt8.ofNat (48 + n % 10)]⟩
def dash : ByteArray := ⟨#[45]⟩
noncomputable def fmtV (day : Int) : ByteArray := if 0 ≤ day ∧ day ≤ 73048 then four (civV day).1.toNat ++ dash ++ two (civV day).2.1.toNat ++ dash ++ two (civV day).2.2.toNat else ⟨#[]⟩
theorem two_ev (n : Int) (h0 : 0 ≤ n) (h1 : n < 100) : date_two.f n = some (two n.toNat) := by
  have hi : strconv_Itoa.f n = some (num n.toNat) := by
    unfold strconv_Itoa.f; rw [if_pos (by omega), if_pos (by omega)]; exact congrArg some (itoa_nonneg' h0)
  unfold date_two.f
  rw [hi]
  simp only [Option.bind_some]
  by_cases g : n < 10
  · rw [if_pos g, num_small (by omega), if_pos (show 1 + (⟨#[UInt8.ofNat (48 + n.toNat)]⟩ : ByteArray).size ≤ 9223372036854775807 from (show 1 + 1 ≤ 9223372036854775807 by decide))]
    unfold two
    rw [show n.toNat / 10 = 0 by omega, show n.toNat % 10 = n.toNat by omega]; rfl
  · rw [if_neg g, num_two (by omega) (by omega)]; rfl
theorem format_ev (day : Int) : Ev (fun k => date_Format.f k day) (fmtV day) := by
  unfold date_Format.f fmtV
  simp only [valid_ev, Option.bind_some]
  by_cases h : 0 ≤ day ∧ day ≤ 73048
  · rw [if_pos h]
    refine Ev.pos (decide_eq_true h) ?_
    have c := civV_is day h
    have hl := len_in (civV day).1 (civV day).2.1 ⟨c.m0, c.m1⟩
    have := c.y0; have := c.y1; have := c.m0; have := c.m1; have := c.d0; have := c.d1
    refine Ev.bind (civil_ev day) ?_
    have hi : strconv_Itoa.f (civV day).1 = some (four (civV day).1.toNat) := by
      unfold strconv_Itoa.f; rw [if_pos (by omega), if_pos (by omega)]
      exact congrArg some ((itoa_nonneg' (by omega)).trans (num_four (by omega) (by omega)))
    have e1 := two_ev (civV day).2.1 (by omega) (by omega)
    have e2 := two_ev (civV day).2.2 (by omega) (by omega)
    simp only [hi, e1, e2, Option.bind_some]
    refine Ev.pos (show 4 + 1 ≤ 9223372036854775807 by decide) ?_
    refine Ev.pos (by simp only [ByteArray.size_append]; exact (show 4 + 1 + 2 ≤ 9223372036854775807 by decide)) ?_
    refine Ev.pos (by simp only [ByteArray.size_append]; exact (show 4 + 1 + 2 + 1 ≤ 9223372036854775807 by decide)) ?_
    refine Ev.pos (by simp only [ByteArray.size_append]; exact (show 4 + 1 + 2 + 1 + 2 ≤ 9223372036854775807 by decide)) ?_
    exact Ev.now _
  · rw [if_neg h]
    refine Ev.neg (by simpa using h) ?_
    exact Ev.now _
end Go.Proofs.YtimjodgnlahclaaDoor.G
