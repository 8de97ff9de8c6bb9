/-
  DATES, PLAIN: months added, texts read, the reference's day; the examples that each statement requires hold.
-/
import Derived.Test.YtagfmkedimhgbaaDoorDb
import Derived.Test.YtagfmkedimhgbaaDoorGx3
import Derived.Test.YtagfmkedimhgbaaDoorGx4
import Derived.Test.YtagfmkedimhgbaaDoorGx5
namespace Go.Proofs.YtagfmkedimhgbaaDoor.G
open Go.RowKit Go.Proofs.YtagfmkedimhgbaaDoorW.PrintWords Go.Proofs.YtagfmkedimhgbaaDoorW.PrintLast Go.Proofs.YtagfmkedimhgbaaDoorW.PrintMore
set_option linter.unusedVariables false
set_option linter.unusedSimpArgs false

/-! ### months added -/
theorem mn_is (a b : Int) : mn a b = min a b := by unfold mn; split <;> omega
noncomputable def monV (day n : Int) : Int := 12 * (civV day).1 + (civV day).2.1 - 1 + n
noncomputable def addV (day n c : Int) : Int × Int :=
  if (0 ≤ day ∧ day ≤ 73048) ∧ -2400 ≤ n ∧ n ≤ 2400 ∧ 1 ≤ c ∧ c ≤ 31 then
    (if 24000 ≤ monV day n ∧ monV day n < 26400 then dayV (monV day n / 12) (monV day n % 12 + 1) (mn c (lenV (monV day n / 12) (monV day n % 12 + 1))) else (0, 1))
  else (0, 1)
theorem add_bad0 (day n c : Int) : Ev (fun k => date_AddMonths.j0 k day n c true) (0, 1) := Ev.step (f := fun _ => some (0, 1)) (fun k => by simp only [date_AddMonths.j0]; rw [if_pos trivial]) (Ev.now _)
theorem add_bad1 (c m : Int) : Ev (fun k => date_AddMonths.j1 k c m true) (0, 1) := Ev.step (f := fun _ => some (0, 1)) (fun k => by simp only [date_AddMonths.j1]; rw [if_pos trivial]) (Ev.now _)
theorem mon_in (day n : Int) (h : 0 ≤ day ∧ day ≤ 73048) (h0 : -2400 ≤ n) (h1 : n ≤ 2400) : 21600 ≤ monV day n ∧ monV day n ≤ 28799 := by
  have c := civV_is day h
  have := c.y0; have := c.y1; have := c.m0; have := c.m1
  unfold monV; omega
theorem add_ev (day n c : Int) : Ev (fun k => date_AddMonths.f k day n c) (addV day n c) := by
  unfold date_AddMonths.f
  simp only [valid_ev, Option.bind_some]
  by_cases h : 0 ≤ day ∧ day ≤ 73048
  · refine Ev.pos (decide_eq_true h) ?_
    by_cases h1 : n < -2400
    · refine Ev.pos h1 ?_
      unfold addV; rw [if_neg (by omega)]; exact add_bad0 _ _ _
    refine Ev.neg h1 ?_
    by_cases h2 : n > 2400
    · refine Ev.pos h2 ?_
      unfold addV; rw [if_neg (by omega)]; exact add_bad0 _ _ _
    refine Ev.neg h2 ?_
    by_cases h3 : c < 1
    · refine Ev.pos h3 ?_
      unfold addV; rw [if_neg (by omega)]; exact add_bad0 _ _ _
    refine Ev.neg h3 ?_
    by_cases h4 : c > 31
    · rw [decide_eq_true h4]
      unfold addV; rw [if_neg (by omega)]; exact add_bad0 _ _ _
    rw [decide_eq_false h4]
    unfold addV; rw [if_pos (by omega)]
    have cv := civV_is day h
    have := cv.y0; have := cv.y1; have := cv.m0; have := cv.m1
    have hm := mon_in day n h (by omega) (by omega)
    have hw : wrap64 (wrap64 (wrap64 (wrap64 (12 * (civV day).1) + (civV day).2.1) - 1) + n) = monV day n := by
      unfold monV
      rw [wrapn (i := 12 * (civV day).1) (by omega) (by omega), wrapn (i := 12 * (civV day).1 + (civV day).2.1) (by omega) (by omega), wrapn (i := 12 * (civV day).1 + (civV day).2.1 - 1) (by omega) (by omega), wrapn (by omega) (by omega)]
    refine Ev.step (f := fun k => (date_Civil.f k day).bind fun bt145 => (if (wrap64 ((wrap64 ((wrap64 ((wrap64 (12 * bt145.1)) + bt145.2.1)) - 1)) + n)) < 24000 then (date_AddMonths.j1 k c (wrap64 ((wrap64 ((wrap64 ((wrap64 (12 * bt145.1)) + bt145.2.1)) - 1)) + n)) true) else (date_AddMonths.j1 k c (wrap64 ((wrap64 ((wrap64 ((wrap64 (12 * bt145.1)) + bt145.2.1)) - 1)) + n)) (decide ((wrap64 ((wrap64 ((wrap64 ((wrap64 (12 * bt145.1)) + bt145.2.1)) - 1)) + n)) ≥ 26400))))) (fun k => by simp only [date_AddMonths.j0]; rw [if_neg (by decide)]) ?_
    refine Ev.bind (civil_ev day) ?_
    rw [hw]
    by_cases g1 : monV day n < 24000
    · refine Ev.pos g1 ?_
      rw [if_neg (by omega)]; exact add_bad1 _ _
    refine Ev.neg g1 ?_
    by_cases g2 : monV day n ≥ 26400
    · rw [decide_eq_true g2, if_neg (by omega)]; exact add_bad1 _ _
    rw [decide_eq_false g2, if_pos (by omega)]
    have hd : wrap64 (Int.tdiv (monV day n) 12) = monV day n / 12 := by rw [Int.tdiv_eq_ediv_of_nonneg (by omega), wrapn (by omega) (by omega)]
    have hr : wrap64 (Int.tmod (monV day n) 12 + 1) = monV day n % 12 + 1 := by rw [Int.tmod_eq_emod_of_nonneg (by omega), wrapn (by omega) (by omega)]
    have hl := len_in (monV day n / 12) (monV day n % 12 + 1) ⟨by omega, by omega⟩
    refine Ev.step (f := fun k => (date_Day.f k (monV day n / 12) (monV day n % 12 + 1) (mn c (lenV (monV day n / 12) (monV day n % 12 + 1)))).bind fun bt149 => (some (bt149.1, bt149.2))) (fun k => by
      simp only [date_AddMonths.j1]; rw [if_neg (by decide), hd, hr, length_some _ _ ⟨by omega, by omega⟩, Option.bind_some]) ?_
    exact Ev.bind (day_ev _ _ _ (by rw [mn_is]; omega) (by rw [mn_is]; omega)) (Ev.now _)
  · refine Ev.neg (by simpa using h) ?_
    unfold addV; rw [if_neg (fun g => h g.1)]; exact add_bad0 _ _ _

/-! ### texts read -/
def isD (c : Int) : Bool := decide (48 ≤ c) && decide (c ≤ 57)
def digF (s : ByteArray) : Nat → Int → Bool
  | 0, _ => true
  | d + 1, i => isD (bt s i) && digF s d (i + 1)
def valF (s : ByteArray) : Nat → Int → Int → Int
  | 0, _, a => a
  | d + 1, i, a => valF s d (i + 1) (10 * a + (bt s i - 48))
theorem number_loop (s : ByteArray) (hs : s.size ≤ 10) : ∀ (d e : Nat) (i a : Int), 0 ≤ i → i + d = (s.size : Int) → 0 ≤ a → a < ((10 ^ e : Nat) : Int) → e + d ≤ 12 →
    Ev (fun k => date_number.l0 k s a (s.size : Int) i) (if digF s d i = true then (valF s d i a, true) else (0, false))
  | 0, e, i, a, h0, hi, _, _, _ => Ev.step (f := fun _ => some (a, true)) (fun k => by simp only [date_number.l0]; rw [if_neg (by omega)]) (Ev.now _)
  | d + 1, e, i, a, h0, hi, ha0, ha, he => by
    have hb := bt_lo s i
    have hp : 10 ^ e ≤ 10 ^ 12 := Nat.pow_le_pow_right (by decide) (by omega)
    have hp2 : (10 ^ 12 : Nat) = 1000000000000 := by decide
    have hps : (10 ^ (e + 1) : Nat) = 10 ^ e * 10 := Nat.pow_succ ..
    by_cases g1 : bt s i < 48
    · have hi0 : isD (bt s i) = false := by unfold isD; simp; omega
      have : digF s (d + 1) i = false := by simp only [digF, hi0, Bool.false_and]
      rw [this]
      refine Ev.step (f := fun _ => some (0, false)) (fun k => ?_) (Ev.now _)
      simp only [date_number.l0]; rw [if_pos (by omega), if_pos h0, if_pos (by omega), if_pos g1]
    by_cases g2 : bt s i > 57
    · have hi0 : isD (bt s i) = false := by unfold isD; simp; omega
      have : digF s (d + 1) i = false := by simp only [digF, hi0, Bool.false_and]
      rw [this]
      refine Ev.step (f := fun _ => some (0, false)) (fun k => ?_) (Ev.now _)
      simp only [date_number.l0]; rw [if_pos (by omega), if_pos h0, if_pos (by omega), if_neg g1, if_pos g2]
    have hi0 : isD (bt s i) = true := by unfold isD; simp; omega
    have : digF s (d + 1) i = digF s d (i + 1) := by simp only [digF, hi0, Bool.true_and]
    rw [this]
    refine Ev.step (f := fun k => date_number.l0 k s (10 * a + (bt s i - 48)) (s.size : Int) (i + 1)) (fun k => ?_) (number_loop s hs d (e + 1) (i + 1) (10 * a + (bt s i - 48)) (by omega) (by omega) (by omega) (by omega) (by omega))
    simp only [date_number.l0]
    rw [if_pos (by omega), if_pos h0, if_pos (by omega), if_neg g1, if_neg g2, wrapn (i := 10 * a) (by omega) (by omega), show (bt s i - 48) % 256 = bt s i - 48 by omega, wrapn (i := 10 * a + (bt s i - 48)) (by omega) (by omega), wrapn (i := i + 1) (by omega) (by omega)]
theorem number_ev' (s : ByteArray) (hs : s.size ≤ 10) : Ev (fun k => date_number.f k s) (if digF s s.size 0 = true then (valF s s.size 0 0, true) else (0, false)) :=
  number_loop s hs s.size 0 0 0 (by omega) (by omega) (by omega) (by decide) (by omega)
theorem rnumber_loop (s : ByteArray) (hs : s.size ≤ 10) : ∀ (d e : Nat) (i a : Int), 0 ≤ i → i + d = (s.size : Int) → 0 ≤ a → a < ((10 ^ e : Nat) : Int) → e + d ≤ 12 → digF s d i = true →
    Ev (fun k => corebankref04_number.l0 k s a i) (valF s d i a)
  | 0, e, i, a, h0, hi, _, _, _, _ => Ev.step (f := fun _ => some a) (fun k => by simp only [corebankref04_number.l0]; rw [if_neg (by omega)]) (Ev.now _)
  | d + 1, e, i, a, h0, hi, ha0, ha, he, hd => by
    have hb := bt_lo s i
    have hp : 10 ^ e ≤ 10 ^ 12 := Nat.pow_le_pow_right (by decide) (by omega)
    have hp2 : (10 ^ 12 : Nat) = 1000000000000 := by decide
    have hps : (10 ^ (e + 1) : Nat) = 10 ^ e * 10 := Nat.pow_succ ..
    simp only [digF, isD, Bool.and_eq_true, decide_eq_true_eq] at hd
    refine Ev.step (f := fun k => corebankref04_number.l0 k s (10 * a + (bt s i - 48)) (i + 1)) (fun k => ?_) (rnumber_loop s hs d (e + 1) (i + 1) (10 * a + (bt s i - 48)) (by omega) (by omega) (by omega) (by omega) (by omega) hd.2)
    simp only [corebankref04_number.l0]
    rw [if_pos (by omega), if_pos h0, wrapn (i := a * 10) (by omega) (by omega), show (bt s i - 48) % 256 = bt s i - 48 by omega, wrapn (i := a * 10 + (bt s i - 48)) (by omega) (by omega), wrapn (i := i + 1) (by omega) (by omega), Int.mul_comm]
theorem rnumber_ev (s : ByteArray) (hs : s.size ≤ 10) (hd : digF s s.size 0 = true) : Ev (fun k => corebankref04_number.f k s) (valF s s.size 0 0) :=
  rnumber_loop s hs s.size 0 0 0 (by omega) (by omega) (by omega) (by decide) (by omega) hd
theorem bt_extract (s : ByteArray) (a b : Nat) (i : Nat) (hb : b ≤ s.size) (hi : a + i < b) : bt (s.extract a b) (i : Int) = bt s ((a + i : Nat) : Int) := by
  have hsz : (s.extract a b).size = b - a := by rw [ByteArray.size_extract]; omega
  unfold bt
  rw [dif_pos (by rw [hsz, Int.toNat_natCast]; omega), dif_pos (by rw [Int.toNat_natCast]; omega)]
  congr 1
  have : (s.extract a b)[i]'(by rw [hsz]; omega) = s[a + i]'(by omega) := by
    rw [ByteArray.getElem_extract]
  exact congrArg UInt8.toNat this
/-- The text is that of a day: four digits, two, two, with dashes between. -/
def okT (s : ByteArray) : Bool := decide (s.size = 10) && decide (bt s 4 = 45) && decide (bt s 7 = 45) && (isD (bt s 0) && (isD (bt s 1) && (isD (bt s 2) && isD (bt s 3)))) && (isD (bt s 5) && isD (bt s 6)) && (isD (bt s 8) && isD (bt s 9))
def yT (s : ByteArray) : Int := 10 * (10 * (10 * (10 * 0 + (bt s 0 - 48)) + (bt s 1 - 48)) + (bt s 2 - 48)) + (bt s 3 - 48)
def mT (s : ByteArray) : Int := 10 * (10 * 0 + (bt s 5 - 48)) + (bt s 6 - 48)
def dT (s : ByteArray) : Int := 10 * (10 * 0 + (bt s 8 - 48)) + (bt s 9 - 48)
def parseV (s : ByteArray) : Int × Int := if okT s = true then dayV (yT s) (mT s) (dT s) else (0, 2)
section
variable (s : ByteArray) (h : s.size = 10)
include h
theorem ex4 : (s.extract 0 4).size = 4 := by rw [ByteArray.size_extract, h]; rfl
theorem ex2 : (s.extract 5 7).size = 2 := by rw [ByteArray.size_extract, h]; rfl
theorem ex3 : (s.extract 8 10).size = 2 := by rw [ByteArray.size_extract, h]; rfl
theorem dig4 : digF (s.extract 0 4) 4 0 = (isD (bt s 0) && (isD (bt s 1) && (isD (bt s 2) && isD (bt s 3)))) := by
  simp only [digF, Bool.and_true]
  rw [show (0 : Int) = ((0 : Nat) : Int) from rfl, bt_extract s 0 4 0 (by omega) (by omega), show ((0 : Nat) : Int) + 1 = ((1 : Nat) : Int) from rfl, bt_extract s 0 4 1 (by omega) (by omega), show ((1 : Nat) : Int) + 1 = ((2 : Nat) : Int) from rfl, bt_extract s 0 4 2 (by omega) (by omega), show ((2 : Nat) : Int) + 1 = ((3 : Nat) : Int) from rfl, bt_extract s 0 4 3 (by omega) (by omega)]; rfl
theorem val4 : valF (s.extract 0 4) 4 0 0 = yT s := by
  simp only [valF]
  rw [show (0 : Int) + 1 + 1 + 1 = ((3 : Nat) : Int) from rfl, bt_extract s 0 4 3 (by omega) (by omega), show (0 : Int) + 1 + 1 = ((2 : Nat) : Int) from rfl, bt_extract s 0 4 2 (by omega) (by omega), show (0 : Int) + 1 = ((1 : Nat) : Int) from rfl, bt_extract s 0 4 1 (by omega) (by omega)]
  have := bt_extract s 0 4 0 (by omega) (by omega)
  rw [show ((0 : Nat) : Int) = 0 from rfl] at this
  rw [this]; rfl
theorem dig2 : digF (s.extract 5 7) 2 0 = (isD (bt s 5) && isD (bt s 6)) := by
  simp only [digF, Bool.and_true]
  rw [show (0 : Int) = ((0 : Nat) : Int) from rfl, bt_extract s 5 7 0 (by omega) (by omega), show ((0 : Nat) : Int) + 1 = ((1 : Nat) : Int) from rfl, bt_extract s 5 7 1 (by omega) (by omega)]; rfl
theorem val2 : valF (s.extract 5 7) 2 0 0 = mT s := by
  simp only [valF]
  rw [show (0 : Int) + 1 = ((1 : Nat) : Int) from rfl, bt_extract s 5 7 1 (by omega) (by omega)]
  have := bt_extract s 5 7 0 (by omega) (by omega)
  rw [show ((0 : Nat) : Int) = 0 from rfl] at this
  rw [this]; rfl
theorem dig3 : digF (s.extract 8 10) 2 0 = (isD (bt s 8) && isD (bt s 9)) := by
  simp only [digF, Bool.and_true]
  rw [show (0 : Int) = ((0 : Nat) : Int) from rfl, bt_extract s 8 10 0 (by omega) (by omega), show ((0 : Nat) : Int) + 1 = ((1 : Nat) : Int) from rfl, bt_extract s 8 10 1 (by omega) (by omega)]; rfl
theorem val3 : valF (s.extract 8 10) 2 0 0 = dT s := by
  simp only [valF]
  rw [show (0 : Int) + 1 = ((1 : Nat) : Int) from rfl, bt_extract s 8 10 1 (by omega) (by omega)]
  have := bt_extract s 8 10 0 (by omega) (by omega)
  rw [show ((0 : Nat) : Int) = 0 from rfl] at this
  rw [this]; rfl
end
theorem dT_in (s : ByteArray) : -1000 ≤ dT s ∧ dT s ≤ 10000 := by
  have := bt_lo s 8; have := bt_lo s 9; unfold dT; omega
theorem parse_bad (s : ByteArray) : Ev (fun k => date_Parse.j0 k s true) (0, 2) := Ev.step (f := fun _ => some (0, 2)) (fun k => by simp only [date_Parse.j0]; rw [if_pos trivial]) (Ev.now _)
theorem parse_ev (s : ByteArray) : Ev (fun k => date_Parse.f k s) (parseV s) := by
  unfold date_Parse.f parseV
  by_cases h : s.size = 10
  · refine Ev.pos (by omega) ?_
    refine Ev.pos (by omega) ?_
    by_cases h4 : bt s 4 = 45
    · refine Ev.pos h4 ?_
      refine Ev.pos (by omega) ?_
      by_cases h7 : bt s 7 = 45
      · rw [show (bt s 7 != 45) = false by simp [h7]]
        have n4 := number_ev' (s.extract 0 4) (by rw [ex4 s h]; omega)
        have n2 := number_ev' (s.extract 5 7) (by rw [ex2 s h]; omega)
        have n3 := number_ev' (s.extract 8 10) (by rw [ex3 s h]; omega)
        rw [ex4 s h, dig4 s h, val4 s h] at n4
        rw [ex2 s h, dig2 s h, val2 s h] at n2
        rw [ex3 s h, dig3 s h, val3 s h] at n3
        have hdd := dT_in s
        refine Ev.step (f := fun k => ((date_number.f k (s.extract 0 4)).bind fun bt151 => ((date_number.f k (s.extract 5 7)).bind fun bt153 => ((date_number.f k (s.extract 8 10)).bind fun bt155 => (if bt151.2 = true then (if bt153.2 = true then (if bt155.2 = true then ((date_Day.f k bt151.1 bt153.1 bt155.1).bind fun bt157 => (some (bt157.1, bt157.2))) else (some (0, 2))) else (some (0, 2))) else (some (0, 2))))))) (fun k => by
          simp only [date_Parse.j0]
          rw [if_neg (by decide), if_pos (by omega), if_pos (by omega)]
          congr 1; funext b1
          rw [if_pos (by omega), if_pos (by omega)]
          congr 1; funext b2
          rw [if_pos (by omega), h]) ?_
        refine Ev.bind n4 ?_
        refine Ev.bind n2 ?_
        refine Ev.bind n3 ?_
        have e : okT s = ((isD (bt s 0) && (isD (bt s 1) && (isD (bt s 2) && isD (bt s 3)))) && (isD (bt s 5) && isD (bt s 6)) && (isD (bt s 8) && isD (bt s 9))) := by unfold okT; simp [h, h4, h7]
        rw [e]
        by_cases g4 : (isD (bt s 0) && (isD (bt s 1) && (isD (bt s 2) && isD (bt s 3)))) = true
        · rw [g4]
          refine Ev.pos (by rfl) ?_
          by_cases g2 : (isD (bt s 5) && isD (bt s 6)) = true
          · rw [g2]
            refine Ev.pos (by rfl) ?_
            by_cases g3 : (isD (bt s 8) && isD (bt s 9)) = true
            · rw [g3]
              refine Ev.pos (by rfl) ?_
              exact Ev.bind (day_ev _ _ _ (by show -9223372036854775808 ≤ dT s; omega) (by show dT s ≤ 9223372036854775807; omega)) (Ev.now _)
            · rw [Bool.eq_false_iff.2 g3]
              exact Ev.neg (by simp) (Ev.now _)
          · rw [Bool.eq_false_iff.2 g2]
            exact Ev.neg (by simp) (Ev.now _)
        · rw [Bool.eq_false_iff.2 g4]
          exact Ev.neg (by simp) (Ev.now _)
      · rw [show (bt s 7 != 45) = true by simp [h7], show okT s = false by unfold okT; simp [h7]]
        exact parse_bad s
    · refine Ev.neg h4 ?_
      rw [show okT s = false by unfold okT; simp [h4]]
      exact parse_bad s
  · refine Ev.neg (by omega) ?_
    rw [show okT s = false by unfold okT; simp [h]]
    exact parse_bad s
/-- A day's text, byte for byte. -/
theorem ten (s : ByteArray) (h : s.size = 10) : ∃ b0 b1 b2 b3 b4 b5 b6 b7 b8 b9 : UInt8, s = ⟨#[b0, b1, b2, b3, b4, b5, b6, b7, b8, b9]⟩ := by
  obtain ⟨⟨l⟩⟩ := s
  have hl : l.length = 10 := h
  match l, hl with
  | [b0, b1, b2, b3, b4, b5, b6, b7, b8, b9], _ => exact ⟨b0, b1, b2, b3, b4, b5, b6, b7, b8, b9, rfl⟩
theorem byte_of {b : UInt8} {n : Nat} (h : b.toNat = 48 + n) : UInt8.ofNat (48 + n) = b := by
  rw [← h]; exact UInt8.ofNat_toNat
theorem text_back (s : ByteArray) (h : okT s = true) : four (yT s).toNat ++ dash ++ two (mT s).toNat ++ dash ++ two (dT s).toNat = s := by
  unfold okT at h
  simp only [Bool.and_eq_true, decide_eq_true_eq, isD] at h
  obtain ⟨⟨⟨⟨⟨hs, h4⟩, h7⟩, h0123⟩, h56⟩, h89⟩ := h
  obtain ⟨b0, b1, b2, b3, b4, b5, b6, b7, b8, b9, rfl⟩ := ten s hs
  simp only [show bt ⟨#[b0, b1, b2, b3, b4, b5, b6, b7, b8, b9]⟩ 0 = (b0.toNat : Int) from rfl, show bt ⟨#[b0, b1, b2, b3, b4, b5, b6, b7, b8, b9]⟩ 1 = (b1.toNat : Int) from rfl, show bt ⟨#[b0, b1, b2, b3, b4, b5, b6, b7, b8, b9]⟩ 2 = (b2.toNat : Int) from rfl, show bt ⟨#[b0, b1, b2, b3, b4, b5, b6, b7, b8, b9]⟩ 3 = (b3.toNat : Int) from rfl, show bt ⟨#[b0, b1, b2, b3, b4, b5, b6, b7, b8, b9]⟩ 4 = (b4.toNat : Int) from rfl, show bt ⟨#[b0, b1, b2, b3, b4, b5, b6, b7, b8, b9]⟩ 5 = (b5.toNat : Int) from rfl, show bt ⟨#[b0, b1, b2, b3, b4, b5, b6, b7, b8, b9]⟩ 6 = (b6.toNat : Int) from rfl, show bt ⟨#[b0, b1, b2, b3, b4, b5, b6, b7, b8, b9]⟩ 7 = (b7.toNat : Int) from rfl, show bt ⟨#[b0, b1, b2, b3, b4, b5, b6, b7, b8, b9]⟩ 8 = (b8.toNat : Int) from rfl, show bt ⟨#[b0, b1, b2, b3, b4, b5, b6, b7, b8, b9]⟩ 9 = (b9.toNat : Int) from rfl] at h4 h7 h0123 h56 h89
  have hy : yT ⟨#[b0, b1, b2, b3, b4, b5, b6, b7, b8, b9]⟩ = 1000 * ((b0.toNat : Int) - 48) + 100 * ((b1.toNat : Int) - 48) + 10 * ((b2.toNat : Int) - 48) + ((b3.toNat : Int) - 48) := by
    show 10 * (10 * (10 * (10 * 0 + ((b0.toNat : Int) - 48)) + ((b1.toNat : Int) - 48)) + ((b2.toNat : Int) - 48)) + ((b3.toNat : Int) - 48) = _
    omega
  have hm : mT ⟨#[b0, b1, b2, b3, b4, b5, b6, b7, b8, b9]⟩ = 10 * ((b5.toNat : Int) - 48) + ((b6.toNat : Int) - 48) := by
    show 10 * (10 * 0 + ((b5.toNat : Int) - 48)) + ((b6.toNat : Int) - 48) = _
    omega
  have hd : dT ⟨#[b0, b1, b2, b3, b4, b5, b6, b7, b8, b9]⟩ = 10 * ((b8.toNat : Int) - 48) + ((b9.toNat : Int) - 48) := by
    show 10 * (10 * 0 + ((b8.toNat : Int) - 48)) + ((b9.toNat : Int) - 48) = _
    omega
  rw [hy, hm, hd]
  unfold four two dash
  rw [byte_of (b := b0) (by omega), byte_of (b := b1) (by omega), byte_of (b := b2) (by omega), byte_of (b := b3) (by omega), byte_of (b := b5) (by omega), byte_of (b := b6) (by omega), byte_of (b := b8) (by omega), byte_of (b := b9) (by omega)]
  have e4 : (45 : UInt8) = b4 := UInt8.toNat_inj.1 (show (45 : UInt8).toNat = b4.toNat by show 45 = b4.toNat; omega)
  have e7 : (45 : UInt8) = b7 := UInt8.toNat_inj.1 (show (45 : UInt8).toNat = b7.toNat by show 45 = b7.toNat; omega)
  rw [← e4, ← e7]
  rfl
theorem format_parse (s : ByteArray) (h : (parseV s).2 = 0) : fmtV (parseV s).1 = s := by
  unfold parseV at h ⊢
  by_cases g : okT s = true
  · rw [if_pos g] at h ⊢
    have c := is_dayV h
    unfold fmtV
    rw [if_pos c.valid, civV_eq c]
    exact text_back s g
  · rw [if_neg g] at h; cases h
theorem parse_format (day : Int) (h : 0 ≤ day ∧ day ≤ 73048) : parseV (fmtV day) = (day, 0) := by
  have c := civV_is day h
  have hl := len_in (civV day).1 (civV day).2.1 ⟨c.m0, c.m1⟩
  have := c.y0; have := c.y1; have := c.m0; have := c.m1; have := c.d0; have := c.d1
  obtain ⟨y, hy⟩ : ∃ y : Nat, (civV day).1 = (y : Int) := ⟨(civV day).1.toNat, by omega⟩
  obtain ⟨m, hm⟩ : ∃ m : Nat, (civV day).2.1 = (m : Int) := ⟨(civV day).2.1.toNat, by omega⟩
  obtain ⟨d, hd⟩ : ∃ d : Nat, (civV day).2.2 = (d : Int) := ⟨(civV day).2.2.toNat, by omega⟩
  have hf : fmtV day = ⟨#[UInt8.ofNat (48 + y / 1000), UInt8.ofNat (48 + y / 100 % 10), UInt8.ofNat (48 + y / 10 % 10), UInt8.ofNat (48 + y % 10), 45, UInt8.ofNat (48 + m / 10), UInt8.ofNat (48 + m % 10), 45, UInt8.ofNat (48 + d / 10), UInt8.ofNat (48 + d % 10)]⟩ := by
    unfold fmtV; rw [if_pos h, hy, hm, hd]; rfl
  have hb : ∀ n : Nat, n < 10 → ((UInt8.ofNat (48 + n)).toNat : Int) = 48 + (n : Int) := fun n hn => by
    rw [UInt8.toNat_ofNat']; omega
  rw [hf]
  generalize ha0 : UInt8.ofNat (48 + y / 1000) = b0
  generalize ha1 : UInt8.ofNat (48 + y / 100 % 10) = b1
  generalize ha2 : UInt8.ofNat (48 + y / 10 % 10) = b2
  generalize ha3 : UInt8.ofNat (48 + y % 10) = b3
  generalize ha5 : UInt8.ofNat (48 + m / 10) = b5
  generalize ha6 : UInt8.ofNat (48 + m % 10) = b6
  generalize ha8 : UInt8.ofNat (48 + d / 10) = b8
  generalize ha9 : UInt8.ofNat (48 + d % 10) = b9
  have k0 := hb (y / 1000) (by omega); rw [ha0] at k0
  have k1 := hb (y / 100 % 10) (by omega); rw [ha1] at k1
  have k2 := hb (y / 10 % 10) (by omega); rw [ha2] at k2
  have k3 := hb (y % 10) (by omega); rw [ha3] at k3
  have k5 := hb (m / 10) (by omega); rw [ha5] at k5
  have k6 := hb (m % 10) (by omega); rw [ha6] at k6
  have k8 := hb (d / 10) (by omega); rw [ha8] at k8
  have k9 := hb (d % 10) (by omega); rw [ha9] at k9
  have t4 : bt ⟨#[b0, b1, b2, b3, 45, b5, b6, 45, b8, b9]⟩ 4 = 45 := rfl
  have t7 : bt ⟨#[b0, b1, b2, b3, 45, b5, b6, 45, b8, b9]⟩ 7 = 45 := rfl
  have t0 : bt ⟨#[b0, b1, b2, b3, 45, b5, b6, 45, b8, b9]⟩ 0 = (b0.toNat : Int) := rfl
  have t1 : bt ⟨#[b0, b1, b2, b3, 45, b5, b6, 45, b8, b9]⟩ 1 = (b1.toNat : Int) := rfl
  have t2 : bt ⟨#[b0, b1, b2, b3, 45, b5, b6, 45, b8, b9]⟩ 2 = (b2.toNat : Int) := rfl
  have t3 : bt ⟨#[b0, b1, b2, b3, 45, b5, b6, 45, b8, b9]⟩ 3 = (b3.toNat : Int) := rfl
  have t5 : bt ⟨#[b0, b1, b2, b3, 45, b5, b6, 45, b8, b9]⟩ 5 = (b5.toNat : Int) := rfl
  have t6 : bt ⟨#[b0, b1, b2, b3, 45, b5, b6, 45, b8, b9]⟩ 6 = (b6.toNat : Int) := rfl
  have t8 : bt ⟨#[b0, b1, b2, b3, 45, b5, b6, 45, b8, b9]⟩ 8 = (b8.toNat : Int) := rfl
  have t9 : bt ⟨#[b0, b1, b2, b3, 45, b5, b6, 45, b8, b9]⟩ 9 = (b9.toNat : Int) := rfl
  have hok : okT ⟨#[b0, b1, b2, b3, 45, b5, b6, 45, b8, b9]⟩ = true := by
    unfold okT isD
    rw [t0, t1, t2, t3, t4, t5, t6, t7, t8, t9]
    simp only [Bool.and_eq_true, decide_eq_true_eq]
    refine ⟨⟨⟨⟨⟨rfl, trivial⟩, trivial⟩, ?_⟩, ?_⟩, ?_⟩ <;> omega
  unfold parseV
  rw [if_pos hok]
  have ey : yT ⟨#[b0, b1, b2, b3, 45, b5, b6, 45, b8, b9]⟩ = (civV day).1 := by unfold yT; rw [t0, t1, t2, t3, k0, k1, k2, k3, hy]; omega
  have em : mT ⟨#[b0, b1, b2, b3, 45, b5, b6, 45, b8, b9]⟩ = (civV day).2.1 := by unfold mT; rw [t5, t6, k5, k6, hm]; omega
  have ed : dT ⟨#[b0, b1, b2, b3, 45, b5, b6, 45, b8, b9]⟩ = (civV day).2.2 := by unfold dT; rw [t8, t9, k8, k9, hd]; omega
  rw [ey, em, ed]
  exact dayV_is c

/-! ### the examples -/
theorem live_ev : Ev (fun k => corebanklaw04_live.f k) true := by
  have c0 : date_Civil.f 100 0 = some (2000, 1, 1) := by kernel_rfl
  have a0 : date_AddMonths.f 100 30 1 31 = some (59, 0) := by kernel_rfl
  have d0 : date_Day.f 100 2001 2 29 = some (0, 1) := by kernel_rfl
  have p0 : date_Parse.f 100 (⟨#[50, 49, 57, 57, 45, 49, 50, 45, 51, 49]⟩ : ByteArray) = some (73048, 0) := by kernel_rfl
  have p1 : date_Parse.f 100 (⟨#[50, 48, 48, 48, 45, 49, 45, 49]⟩ : ByteArray) = some (0, 2) := by kernel_rfl
  have m0 : date_MonthEnd.f 100 0 = some 30 := by kernel_rfl
  have hc : IsC 59 2000 2 29 := ⟨by decide, by decide, by decide, by decide, by decide, by decide, by decide⟩
  have hf : fmtV 59 = ⟨#[50, 48, 48, 48, 45, 48, 50, 45, 50, 57]⟩ := by unfold fmtV; rw [if_pos (by decide), civV_eq hc]; rfl
  unfold corebanklaw04_live.f
  refine Ev.bind (Ev.of (fun k => date_Civil.mono 0 k) c0) ?_
  refine Ev.bind (Ev.of (fun k => date_AddMonths.mono 30 1 31 k) a0) ?_
  refine Ev.bind (Ev.of (fun k => date_Day.mono 2001 2 29 k) d0) ?_
  refine Ev.bind (Ev.of (fun k => date_Parse.mono _ k) p0) ?_
  refine Ev.bind (Ev.of (fun k => date_Parse.mono _ k) p1) ?_
  refine Ev.pos (by decide) ?_
  refine Ev.pos (by decide) ?_
  refine Ev.pos (by decide) ?_
  simp only [weekday_ev, Option.bind_some]
  refine Ev.pos (by decide) ?_
  refine Ev.pos (by decide) ?_
  refine Ev.pos (by decide) ?_
  refine Ev.pos (by decide) ?_
  refine Ev.pos (by decide) ?_
  refine Ev.pos (by decide) ?_
  refine Ev.pos (by decide) ?_
  refine Ev.bind (format_ev 59) ?_
  rw [hf]
  refine Ev.pos (by rw [ba_list]) ?_
  refine Ev.bind (Ev.of (fun k => date_MonthEnd.mono 0 k) m0) ?_
  refine Ev.pos (by decide) ?_
  simp only [leap_ev, Option.bind_some]
  refine Ev.pos (by decide) ?_
  exact Ev.now true
theorem live_end : Ev (fun k => (corebanklaw04_live.f k).bind fun t => some t) true := Ev.bind live_ev (Ev.now _)

/-! ### the reference's day, months and texts -/
theorem rday_bad (y m d : Int) : Ev (fun k => corebankref04_Day.j0 k y m d true) (0, 1) := Ev.step (f := fun _ => some (0, 1)) (fun k => by simp only [corebankref04_Day.j0]; rw [if_pos trivial]) (Ev.now _)
theorem rday_months (y m d : Int) (h0 : 2000 ≤ y) (h1 : y ≤ 2199) (hm : 1 ≤ m ∧ m ≤ 12) (hd : 1 ≤ d ∧ d ≤ 31) : ∀ (c : Nat) (j : Int), 1 ≤ j → j + c = m →
    Ev (fun k => corebankref04_Day.l1 k y m (beginV y + cumV y j + d - 1) j) (beginV y + cumV y m + d - 1, 0) := by
  intro c
  induction c with
  | zero =>
    intro j hj hc
    obtain rfl : j = m := by omega
    refine Ev.step (f := fun _ => some _) (fun k => ?_) (Ev.now _)
    simp only [corebankref04_Day.l1]; rw [if_neg (by omega)]
  | succ c ih =>
    intro j hj hc
    have hb := begin_in y h0 (by omega)
    have hcu := cum_in y j ⟨hj, by omega⟩
    have hy := yl_in y
    have hn := cum_next y j ⟨hj, by omega⟩
    have hl := len_in y j ⟨hj, by omega⟩
    refine Ev.step (f := fun k => (corebankref04_Length.f k y j).bind fun t194 => (corebankref04_Day.l1 k y m (wrap64 (beginV y + cumV y j + d - 1 + t194)) (wrap64 (j + 1)))) (fun k => by simp only [corebankref04_Day.l1]; rw [if_pos (by omega)]) ?_
    refine Ev.bind (rlen_at y j ⟨by omega, by omega⟩) ?_
    rw [wrapn (by omega) (by omega), wrapn (i := j + 1) (by omega) (by omega), show beginV y + cumV y j + d - 1 + lenV y j = beginV y + cumV y (j + 1) + d - 1 by omega]
    exact ih (j + 1) (by omega) (by omega)
theorem rday_years (y m d : Int) (h0 : 2000 ≤ y) (h1 : y ≤ 2199) (hm : 1 ≤ m ∧ m ≤ 12) (hd : 1 ≤ d ∧ d ≤ 31) : ∀ (c : Nat) (j : Int), 2000 ≤ j → j + c = y →
    Ev (fun k => corebankref04_Day.l0 k y m (beginV j + d - 1) j) (beginV y + cumV y m + d - 1, 0) := by
  intro c
  induction c with
  | zero =>
    intro j hj hc
    obtain rfl : j = y := by omega
    refine Ev.step (f := fun k => corebankref04_Day.l1 k j m (beginV j + cumV j 1 + d - 1) 1) (fun k => ?_) (rday_months j m d h0 h1 hm hd (m - 1).toNat 1 (by omega) (by omega))
    simp only [corebankref04_Day.l0]; rw [if_neg (by omega), cum_first, Int.add_zero]
  | succ c ih =>
    intro j hj hc
    have hb := begin_in j hj (by omega)
    have hn := begin_next j hj (by omega)
    have hy := yl_in j
    refine Ev.step (f := fun k => corebankref04_Day.l0 k y m (beginV (j + 1) + d - 1) (j + 1)) (fun k => ?_) (ih (j + 1) (by omega) (by omega))
    simp only [corebankref04_Day.l0]
    rw [if_pos (by omega), ryear_ev, Option.bind_some, wrapn (by omega) (by omega), wrapn (i := j + 1) (by omega) (by omega), show beginV j + d - 1 + ylV j = beginV (j + 1) + d - 1 by omega]
theorem rday_ev (y m d : Int) (hy : -9223372036854775808 ≤ d) (hd : d ≤ 9223372036854775807) : Ev (fun k => corebankref04_Day.f k y m d) (dayV y m d) := by
  unfold dayV corebankref04_Day.f
  by_cases h1 : y < 2000
  · refine Ev.pos h1 ?_
    rw [if_neg (by omega)]; exact rday_bad y m d
  refine Ev.neg h1 ?_
  by_cases h2 : y > 2199
  · refine Ev.pos h2 ?_
    rw [if_neg (by omega)]; exact rday_bad y m d
  refine Ev.neg h2 ?_
  by_cases h5 : d < 1
  · refine Ev.pos h5 ?_
    rw [if_neg (by omega)]; exact rday_bad y m d
  refine Ev.neg h5 ?_
  refine Ev.bind (rlen_ev y m) ?_
  by_cases h3 : 1 ≤ m ∧ m ≤ 12
  · rw [rlenV_at h3]
    by_cases h6 : d > lenV y m
    · rw [decide_eq_true h6, if_neg (by omega)]; exact rday_bad y m d
    · rw [decide_eq_false h6, if_pos (by omega)]
      have hl := len_in y m h3
      refine Ev.step (f := fun k => corebankref04_Day.l0 k y m (beginV 2000 + d - 1) 2000) (fun k => ?_) (rday_years y m d (by omega) (by omega) h3 ⟨by omega, by omega⟩ (y - 2000).toNat 2000 (by omega) (by omega))
      simp only [corebankref04_Day.j0]
      rw [if_neg (by decide), wrapn (by omega) (by omega), show beginV 2000 = 0 by decide]
      congr 1; omega
  · have e : rlenV y m = 0 := by unfold rlenV; rw [if_neg h3]
    rw [e, decide_eq_true (show d > 0 by omega), if_neg (by omega)]; exact rday_bad y m d
theorem radd_bad (day n c : Int) : Ev (fun k => corebankref04_AddMonths.j0 k day n c true) (0, 1) := Ev.step (f := fun _ => some (0, 1)) (fun k => by simp only [corebankref04_AddMonths.j0]; rw [if_pos trivial]) (Ev.now _)
theorem radd_ev (day n c : Int) : Ev (fun k => corebankref04_AddMonths.f k day n c) (addV day n c) := by
  unfold corebankref04_AddMonths.f
  simp only [rvalid_ev, Option.bind_some]
  by_cases h : 0 ≤ day ∧ day ≤ 73048
  · refine Ev.pos (decide_eq_true h) ?_
    by_cases h1 : n < -2400
    · refine Ev.pos h1 ?_
      unfold addV; rw [if_neg (by omega)]; exact radd_bad _ _ _
    refine Ev.neg h1 ?_
    by_cases h2 : n > 2400
    · refine Ev.pos h2 ?_
      unfold addV; rw [if_neg (by omega)]; exact radd_bad _ _ _
    refine Ev.neg h2 ?_
    by_cases h3 : c < 1
    · refine Ev.pos h3 ?_
      unfold addV; rw [if_neg (by omega)]; exact radd_bad _ _ _
    refine Ev.neg h3 ?_
    by_cases h4 : c > 31
    · rw [decide_eq_true h4]
      unfold addV; rw [if_neg (by omega)]; exact radd_bad _ _ _
    rw [decide_eq_false h4]
    unfold addV; rw [if_pos (by omega)]
    have cv := civV_is day h
    have := cv.y0; have := cv.y1; have := cv.m0; have := cv.m1
    have hm := mon_in day n h (by omega) (by omega)
    have hw : wrap64 (wrap64 (wrap64 (wrap64 ((civV day).1 * 12) + (civV day).2.1) - 1) + n) = monV day n := by
      unfold monV
      rw [wrapn (i := (civV day).1 * 12) (by omega) (by omega), wrapn (i := (civV day).1 * 12 + (civV day).2.1) (by omega) (by omega), wrapn (i := (civV day).1 * 12 + (civV day).2.1 - 1) (by omega) (by omega), wrapn (by omega) (by omega)]
      omega
    refine Ev.step (f := fun k => (corebankref04_Civil.f k day).bind fun bt201 => (if (wrap64 ((wrap64 ((wrap64 ((wrap64 (bt201.1 * 12)) + bt201.2.1)) - 1)) + n)) < 24000 then (some (0, 1)) else ((corebankref04_Length.f k (wrap64 (Int.tdiv (wrap64 ((wrap64 ((wrap64 ((wrap64 (bt201.1 * 12)) + bt201.2.1)) - 1)) + n)) 12)) (wrap64 ((Int.tmod (wrap64 ((wrap64 ((wrap64 ((wrap64 (bt201.1 * 12)) + bt201.2.1)) - 1)) + n)) 12) + 1))).bind fun t204 => ((corebankref04_Day.f k (wrap64 (Int.tdiv (wrap64 ((wrap64 ((wrap64 ((wrap64 (bt201.1 * 12)) + bt201.2.1)) - 1)) + n)) 12)) (wrap64 ((Int.tmod (wrap64 ((wrap64 ((wrap64 ((wrap64 (bt201.1 * 12)) + bt201.2.1)) - 1)) + n)) 12) + 1)) (mn c t204)).bind fun bt205 => (some (bt205.1, bt205.2)))))) (fun k => by simp only [corebankref04_AddMonths.j0]; rw [if_neg (by decide)]) ?_
    refine Ev.bind (rcivil_ev day) ?_
    rw [hw]
    by_cases g1 : monV day n < 24000
    · refine Ev.pos g1 ?_
      rw [if_neg (by omega)]; exact Ev.now _
    refine Ev.neg g1 ?_
    have hd : wrap64 (Int.tdiv (monV day n) 12) = monV day n / 12 := by rw [Int.tdiv_eq_ediv_of_nonneg (by omega), wrapn (by omega) (by omega)]
    have hr : wrap64 (Int.tmod (monV day n) 12 + 1) = monV day n % 12 + 1 := by rw [Int.tmod_eq_emod_of_nonneg (by omega), wrapn (by omega) (by omega)]
    have hl := len_in (monV day n / 12) (monV day n % 12 + 1) ⟨by omega, by omega⟩
    rw [hd, hr]
    refine Ev.bind (rlen_at _ _ ⟨by omega, by omega⟩) ?_
    have e : (if 24000 ≤ monV day n ∧ monV day n < 26400 then dayV (monV day n / 12) (monV day n % 12 + 1) (mn c (lenV (monV day n / 12) (monV day n % 12 + 1))) else (0, 1)) = dayV (monV day n / 12) (monV day n % 12 + 1) (mn c (lenV (monV day n / 12) (monV day n % 12 + 1))) := by
      by_cases g2 : monV day n < 26400
      · rw [if_pos ⟨by omega, g2⟩]
      · rw [if_neg (by omega)]; unfold dayV; rw [if_neg (by omega)]
    rw [e]
    exact Ev.bind (rday_ev _ _ _ (by rw [mn_is]; omega) (by rw [mn_is]; omega)) (Ev.now _)
  · refine Ev.neg (by simpa using h) ?_
    unfold addV; rw [if_neg (fun g => h g.1)]; exact radd_bad _ _ _
def okAt (s : ByteArray) (i : Int) : Bool := if i = 4 ∨ i = 7 then decide (bt s i = 45) else isD (bt s i)
def okF (s : ByteArray) : Nat → Int → Bool
  | 0, _ => true
  | d + 1, i => okAt s i && okF s d (i + 1)
theorem formed_loop (s : ByteArray) (h : s.size = 10) : ∀ (d : Nat) (i : Int), 0 ≤ i → i + d = 10 → Ev (fun k => corebankref04_formed.l0 k s i) (okF s d i)
  | 0, i, h0, hi => Ev.step (f := fun _ => some true) (fun k => by simp only [corebankref04_formed.l0]; rw [if_neg (by omega)]) (Ev.now _)
  | d + 1, i, h0, hi => by
    have ih := formed_loop s h d (i + 1) (by omega) (by omega)
    have hw : wrap64 (i + 1) = i + 1 := wrapn (by omega) (by omega)
    by_cases g : okAt s i = true
    · have e : okF s (d + 1) i = okF s d (i + 1) := by simp only [okF, g, Bool.true_and]
      rw [e]
      refine Ev.step (f := fun k => corebankref04_formed.l0 k s (i + 1)) (fun k => ?_) ih
      simp only [corebankref04_formed.l0, hw]
      unfold okAt at g
      rw [if_pos (by omega)]
      by_cases e4 : i = 4
      · rw [if_pos (.inl e4)] at g
        rw [if_pos e4, if_pos h0, if_pos (of_decide_eq_true g)]
      · by_cases e7 : i = 7
        · rw [if_pos (.inr e7)] at g
          rw [if_neg e4, if_pos e7, if_pos h0, if_pos (of_decide_eq_true g)]
        · rw [if_neg (by omega)] at g
          simp only [isD, Bool.and_eq_true, decide_eq_true_eq] at g
          rw [if_neg e4, if_neg e7, if_pos h0, if_neg (by omega), if_neg (by omega)]
    · have e : okF s (d + 1) i = false := by simp only [okF, Bool.eq_false_iff.2 g, Bool.false_and]
      rw [e]
      refine Ev.step (f := fun _ => some false) (fun k => ?_) (Ev.now _)
      simp only [corebankref04_formed.l0, hw]
      unfold okAt at g
      rw [if_pos (by omega)]
      by_cases e4 : i = 4
      · rw [if_pos (.inl e4)] at g
        rw [if_pos e4, if_pos h0, if_neg (fun q => g (decide_eq_true q))]
      · by_cases e7 : i = 7
        · rw [if_pos (.inr e7)] at g
          rw [if_neg e4, if_pos e7, if_pos h0, if_neg (fun q => g (decide_eq_true q))]
        · rw [if_neg (by omega)] at g
          simp only [isD, Bool.and_eq_true, decide_eq_true_eq] at g
          rw [if_neg e4, if_neg e7, if_pos h0]
          by_cases g1 : bt s i < 48
          · rw [if_pos g1]
          · rw [if_neg g1, if_pos (by omega)]
theorem formed_ev (s : ByteArray) : Ev (fun k => corebankref04_formed.f k s) (okT s) := by
  unfold corebankref04_formed.f
  by_cases h : s.size = 10
  · refine Ev.pos (by omega) ?_
    have e := formed_loop s h 10 0 (by omega) (by omega)
    have e2 : okF s 10 0 = okT s := by
      have e1 : okF s 10 0 = (okAt s 0 && (okAt s 1 && (okAt s 2 && (okAt s 3 && (okAt s 4 && (okAt s 5 && (okAt s 6 && (okAt s 7 && (okAt s 8 && (okAt s 9 && true)))))))))) := rfl
      have a4 : okAt s 4 = decide (bt s 4 = 45) := by unfold okAt; rw [if_pos (by omega)]
      have a7 : okAt s 7 = decide (bt s 7 = 45) := by unfold okAt; rw [if_pos (by omega)]
      have ai : ∀ i : Int, ¬ i = 4 → ¬ i = 7 → okAt s i = isD (bt s i) := fun i h4 h7 => by unfold okAt; rw [if_neg (by omega)]
      rw [e1, a4, a7, ai 0 (by omega) (by omega), ai 1 (by omega) (by omega), ai 2 (by omega) (by omega), ai 3 (by omega) (by omega), ai 5 (by omega) (by omega), ai 6 (by omega) (by omega), ai 8 (by omega) (by omega), ai 9 (by omega) (by omega)]
      unfold okT
      rw [decide_eq_true h, Bool.and_true, Bool.true_and]
      ac_rfl
    rw [← e2]; exact e
  · refine Ev.neg (by omega) ?_
    rw [show okT s = false by unfold okT; simp [h]]
    exact Ev.now _
theorem rparse_ev (s : ByteArray) : Ev (fun k => corebankref04_Parse.f k s) (parseV s) := by
  unfold corebankref04_Parse.f parseV
  refine Ev.bind (formed_ev s) ?_
  by_cases g : okT s = true
  · rw [if_pos g]
    refine Ev.pos g ?_
    have hg := g
    unfold okT at hg
    simp only [Bool.and_eq_true, decide_eq_true_eq] at hg
    have h := hg.1.1.1.1.1
    have n4 := rnumber_ev (s.extract 0 4) (by rw [ex4 s h]; omega) (by rw [ex4 s h, dig4 s h]; simp [hg.1.1.2])
    have n2 := rnumber_ev (s.extract 5 7) (by rw [ex2 s h]; omega) (by rw [ex2 s h, dig2 s h]; simp [hg.1.2])
    have n3 := rnumber_ev (s.extract 8 10) (by rw [ex3 s h]; omega) (by rw [ex3 s h, dig3 s h]; simp [hg.2])
    rw [ex4 s h, val4 s h] at n4
    rw [ex2 s h, val2 s h] at n2
    rw [ex3 s h, val3 s h] at n3
    have hdd := dT_in s
    refine Ev.pos (by omega) ?_
    refine Ev.pos (by omega) ?_
    refine Ev.bind n4 ?_
    refine Ev.pos (by omega) ?_
    refine Ev.pos (by omega) ?_
    refine Ev.bind n2 ?_
    refine Ev.pos (by omega) ?_
    rw [h]
    refine Ev.bind n3 ?_
    exact Ev.bind (rday_ev _ _ _ (by omega) (by omega)) (Ev.now _)
  · rw [if_neg g]
    refine Ev.neg g ?_
    exact Ev.now _
theorem wf64' {x : Int} (h : (Lit.int .i64 x).wf = true) : -9223372036854775808 ≤ x ∧ x ≤ 9223372036854775807 := wf64 h
end Go.Proofs.YtagfmkedimhgbaaDoor.G
