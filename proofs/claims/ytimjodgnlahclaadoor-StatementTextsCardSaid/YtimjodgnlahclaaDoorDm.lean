/-
  AMOUNTS, PLAIN: the program's text of an amount (the numeral, noughts in front, a point put in) and the reference's (the whole part, a point, the last digits) are one text; both texts of a number are its numeral.
-/
import Derived.Test.YtimjodgnlahclaaDoorDb
namespace Go.Proofs.YtimjodgnlahclaaDoor.G
open Go.RowKit Go.Proofs.YtimjodgnlahclaaDoorW.PrintWords Go.Proofs.YtimjodgnlahclaaDoorW.PrintLast Go.Proofs.YtimjodgnlahclaaDoorW.PrintMore
set_option linter.unusedVariables false
set_option linter.unusedSimpArgs false

theorem app_nil (x : ByteArray) : (⟨#[]⟩ : ByteArray) ++ x = x := by
  apply ByteArray.ext
  simp
theorem digs_acc : ∀ (c n : Nat) (acc : ByteArray), digs c n acc = digs c n ⟨#[]⟩ ++ acc
  | 0, n, acc => by simp only [digs]; rw [app_nil]
  | c + 1, n, acc => by
    simp only [digs]
    rw [digs_acc c (n / 10) (⟨#[UInt8.ofNat (48 + n % 10)]⟩ ++ acc), digs_acc c (n / 10) (⟨#[UInt8.ofNat (48 + n % 10)]⟩ ++ ⟨#[]⟩), empty_app, ba_assoc]
theorem digs_succ (c n : Nat) : digs (c + 1) n ⟨#[]⟩ = digs c (n / 10) ⟨#[]⟩ ++ ⟨#[UInt8.ofNat (48 + n % 10)]⟩ := by
  rw [show digs (c + 1) n ⟨#[]⟩ = digs c (n / 10) (⟨#[UInt8.ofNat (48 + n % 10)]⟩ ++ ⟨#[]⟩) from rfl, digs_acc, empty_app]
theorem digs_size : ∀ (c n : Nat), (digs c n ⟨#[]⟩).size = c
  | 0, n => rfl
  | c + 1, n => by rw [digs_succ, ByteArray.size_append, digs_size c]; rfl
def zeros : Nat → ByteArray
  | 0 => ⟨#[]⟩
  | m + 1 => ⟨#[48]⟩ ++ zeros m
theorem zeros_size : ∀ m, (zeros m).size = m
  | 0 => rfl
  | m + 1 => by
    show ((⟨#[48]⟩ : ByteArray) ++ zeros m).size = _
    rw [one_size, zeros_size m]; omega
theorem zeros_snoc : ∀ m, zeros m ++ (⟨#[48]⟩ : ByteArray) = zeros (m + 1)
  | 0 => by rw [show zeros 0 = ⟨#[]⟩ from rfl, app_nil]; exact (empty_app _).symm
  | m + 1 => by
    show (⟨#[48]⟩ ++ zeros m) ++ (⟨#[48]⟩ : ByteArray) = ⟨#[48]⟩ ++ zeros (m + 1)
    rw [ba_assoc, zeros_snoc m]
theorem nd_small {n : Nat} (h : n < 10) : (num n).size = 1 := by rw [num_small h]; rfl
theorem nd_big {n : Nat} (h : ¬ n < 10) : (num n).size = (num (n / 10)).size + 1 := by rw [num_big h, ByteArray.size_append]; rfl
theorem nd_pos (n : Nat) : 1 ≤ (num n).size := by
  by_cases h : n < 10
  · rw [nd_small h]; omega
  · rw [nd_big h]; omega
/-- The whole part and the last d digits: the numeral with noughts in front, at least d + 1 digits. -/
theorem pad_eq : ∀ (d n : Nat), num (n / 10 ^ d) ++ digs d n ⟨#[]⟩ = zeros (d + 1 - (num n).size) ++ num n
  | 0, n => by
    rw [show n / 10 ^ 0 = n by simp, show digs 0 n ⟨#[]⟩ = ⟨#[]⟩ from rfl, empty_app, show 0 + 1 - (num n).size = 0 by have := nd_pos n; omega]
    exact (app_nil _).symm
  | d + 1, n => by
    rw [digs_succ, ← ba_assoc, show n / 10 ^ (d + 1) = n / 10 / 10 ^ d by rw [Nat.div_div_eq_div_mul, Nat.pow_succ, Nat.mul_comm], pad_eq d (n / 10)]
    by_cases h : n < 10
    · rw [show n / 10 = 0 by omega, show n % 10 = n by omega, nd_small h, num_small h, nd_small (show 0 < 10 by decide), num_small (show 0 < 10 by decide)]
      rw [show d + 1 - 1 = d by omega, show d + 1 + 1 - 1 = d + 1 by omega, show (⟨#[UInt8.ofNat (48 + 0)]⟩ : ByteArray) = ⟨#[48]⟩ from rfl, zeros_snoc]
    · rw [ba_assoc, ← num_big h, nd_big h, show d + 1 + 1 - ((num (n / 10)).size + 1) = d + 1 - (num (n / 10)).size by omega]
/-- A one ahead of d digits. -/
theorem one_digs : ∀ (d r : Nat), r < 10 ^ d → num (10 ^ d + r) = ⟨#[49]⟩ ++ digs d r ⟨#[]⟩
  | 0, r, h => by
    have : r = 0 := by simpa using h
    subst this
    rw [show digs 0 0 ⟨#[]⟩ = ⟨#[]⟩ from rfl, empty_app]
    exact num_small (by decide)
  | d + 1, r, h => by
    have hp : 1 ≤ 10 ^ d := Nat.pos_of_ne_zero (by simp)
    have e : 10 ^ (d + 1) = 10 * 10 ^ d := by rw [Nat.pow_succ, Nat.mul_comm]
    rw [num_big (by omega), show (10 ^ (d + 1) + r) / 10 = 10 ^ d + r / 10 by omega, show (10 ^ (d + 1) + r) % 10 = r % 10 by omega, one_digs d (r / 10) (by omega), digs_succ, ba_assoc]
theorem digs_mod : ∀ (d n : Nat), digs d (n % 10 ^ d) ⟨#[]⟩ = digs d n ⟨#[]⟩
  | 0, n => rfl
  | d + 1, n => by
    have e : 10 ^ (d + 1) = 10 * 10 ^ d := by rw [Nat.pow_succ, Nat.mul_comm]
    rw [digs_succ, digs_succ, show n % 10 ^ (d + 1) / 10 = n / 10 % 10 ^ d by rw [e, Nat.mod_mul, Nat.add_mul_div_left _ _ (by decide)]; omega, show n % 10 ^ (d + 1) % 10 = n % 10 by rw [e, Nat.mod_mul]; omega, digs_mod d]
theorem ext_front (a b : ByteArray) : (a ++ b).extract 0 a.size = a := by
  apply ByteArray.ext
  simp only [ByteArray.data_extract, ByteArray.data_append]
  show (a.data ++ b.data).extract 0 a.data.size = a.data
  rw [Array.extract_append]; simp
theorem ext_back (a b : ByteArray) : (a ++ b).extract a.size (a ++ b).size = b := by
  apply ByteArray.ext
  rw [ByteArray.size_append]
  simp only [ByteArray.data_extract, ByteArray.data_append]
  show (a.data ++ b.data).extract a.data.size (a.data.size + b.data.size) = b.data
  have h1 : a.data.extract a.data.size (a.data.size + b.data.size) = #[] := by
    apply Array.eq_empty_of_size_eq_zero
    rw [Array.size_extract]; omega
  rw [Array.extract_append, h1]; simp
/-- The text of n with d places. -/
def plainV (n d : Nat) : ByteArray := if d = 0 then num n else num (n / 10 ^ d) ++ ⟨#[46]⟩ ++ digs d n ⟨#[]⟩
def signV (a : Int) : ByteArray := if a < 0 then ⟨#[45]⟩ else ⟨#[]⟩
def mfV (a d : Int) : ByteArray × Int := if (-1000000000000 ≤ a ∧ a ≤ 1000000000000) ∧ 0 ≤ d ∧ d ≤ 4 then (signV a ++ plainV a.natAbs d.toNat, 0) else (⟨#[]⟩, 1)
theorem num_bound {n : Nat} (h : n ≤ 1000000000000) : (num n).size ≤ 21 := by
  have := txt_size (n : Int) (by omega) (by omega)
  rw [txt_num (by omega)] at this
  exact this
theorem plain_size {n d : Nat} (h : n ≤ 1000000000000) (hd : d ≤ 4) : (plainV n d).size ≤ 26 := by
  unfold plainV
  split
  · have := num_bound h; omega
  · have h1 : (num (n / 10 ^ d)).size ≤ 21 := num_bound (Nat.le_trans (Nat.div_le_self _ _) h)
    simp only [ByteArray.size_append, digs_size]
    have : (⟨#[46]⟩ : ByteArray).size = 1 := rfl
    omega
theorem sign_size (a : Int) : (signV a).size ≤ 1 := by unfold signV; split <;> decide
theorem mf_size (a d : Int) : (mfV a d).1.size ≤ 27 := by
  unfold mfV
  split
  · rename_i h
    have h1 := plain_size (n := a.natAbs) (d := d.toNat) (by omega) (by omega)
    have h2 := sign_size a
    simp only [ByteArray.size_append]
    omega
  · decide
theorem mvalid_ev (a : Int) : money_Valid.f a = some (decide (-1000000000000 ≤ a ∧ a ≤ 1000000000000)) := by
  unfold money_Valid.f
  by_cases h : a ≥ -1000000000000
  · rw [if_pos h]; congr 1; simp; omega
  · rw [if_neg h]; congr 1; simp; omega
theorem rmvalid_ev (a : Int) : corebankref03_Valid.f a = some (decide (-1000000000000 ≤ a ∧ a ≤ 1000000000000)) := mvalid_ev a
theorem places_ev (a : Int) : money_places.f a = some (decide (0 ≤ a ∧ a ≤ 4)) := by
  unfold money_places.f
  by_cases h : a ≥ 0
  · rw [if_pos h]; congr 1; simp; omega
  · rw [if_neg h]; congr 1; simp; omega
theorem itoa_num (n : Nat) (h : n ≤ 9223372036854775807) : strconv_Itoa.f (n : Int) = some (num n) := by
  unfold strconv_Itoa.f
  rw [if_pos (by omega), if_pos (by omega)]
  exact congrArg some ((itoa_nonneg' (by omega)).trans (by rw [Int.toNat_natCast]))
/-- The noughts. -/
theorem pad_loop (d : Nat) (hd : d ≤ 4) (sg : ByteArray) (hs : sg.size ≤ 1) (n : Nat) (hn : n ≤ 1000000000000) : ∀ (c j : Nat), j + (num n).size + c = max (d + 1) (num n).size →
    Ev (fun k => money_Format.l0 k (d : Int) sg (zeros j ++ num n)) (sg ++ plainV n d, 0)
  | c + 1, j, h => by
    have hz : (zeros j ++ num n).size = j + (num n).size := by rw [ByteArray.size_append, zeros_size]
    have hm : max (d + 1) (num n).size = d + 1 := by omega
    refine .step (fun k => ?_) (pad_loop d hd sg hs n hn c (j + 1) (by omega))
    simp only [money_Format.l0]
    rw [hz, if_pos (by omega), if_pos (by omega), ← ba_assoc]
    rfl
  | 0, j, h => by
    have hz : (zeros j ++ num n).size = j + (num n).size := by rw [ByteArray.size_append, zeros_size]
    have hb := num_bound hn
    have hp := nd_pos n
    have hj : j = d + 1 - (num n).size := by omega
    by_cases h0 : d = 0
    · subst h0
      refine .step (f := fun _ => some (sg ++ plainV n 0, 0)) (fun k => ?_) (.now _)
      simp only [money_Format.l0]
      rw [hz, if_neg (by omega), if_pos (by rfl), if_pos (by omega), hj, show 0 + 1 - (num n).size = 0 by omega]
      rw [show zeros 0 = ⟨#[]⟩ from rfl, app_nil]
      rfl
    · refine .step (f := fun _ => some (sg ++ plainV n d, 0)) (fun k => ?_) (.now _)
      have hA := pad_eq d n
      rw [← hj] at hA
      have hsz : (num (n / 10 ^ d)).size + d = j + (num n).size := by
        have := congrArg ByteArray.size hA
        rw [ByteArray.size_append, digs_size, hz] at this
        exact this
      have hw : wrap64 (((zeros j ++ num n).size : Int) - (d : Int)) = ((num (n / 10 ^ d)).size : Int) := by rw [hz, wrapn (by omega) (by omega)]; omega
      simp only [money_Format.l0, hw, Int.toNat_natCast]
      rw [← hA, ext_front, ext_back]
      have h1 : (num (n / 10 ^ d)).size ≤ 21 := num_bound (Nat.le_trans (Nat.div_le_self _ _) hn)
      have h46 : (⟨#[46]⟩ : ByteArray).size = 1 := rfl
      simp only [ByteArray.size_append, digs_size, h46]
      rw [if_neg (by omega), if_neg (by omega), if_pos (by omega), if_pos (by omega), if_pos (by omega), if_pos (by omega), if_pos (by omega)]
      unfold plainV
      rw [if_neg h0]
      simp only [ba_assoc]
theorem money_ev (a d : Int) : Ev (fun k => money_Format.f k a d) (mfV a d) := by
  unfold money_Format.f
  simp only [mvalid_ev, places_ev, Option.bind_some]
  have hbad : Ev (fun k => money_Format.j0 k a d true) (⟨#[]⟩, 1) := .step (fun k => by simp only [money_Format.j0, if_true]) (.now _)
  by_cases h1 : -1000000000000 ≤ a ∧ a ≤ 1000000000000
  · refine Ev.pos (decide_eq_true h1) ?_
    by_cases h2 : 0 ≤ d ∧ d ≤ 4
    · rw [decide_eq_true h2]
      have hv : mfV a d = (signV a ++ plainV a.natAbs d.toNat, 0) := if_pos ⟨h1, h2⟩
      rw [hv]
      have hl : ∀ sg : ByteArray, sg.size ≤ 1 → Ev (fun k => money_Format.j1 k (a.natAbs : Int) d sg) (sg ++ plainV a.natAbs d.toNat, 0) := by
        intro sg hs
        have e := pad_loop d.toNat (by omega) sg hs a.natAbs (by omega) (max (d.toNat + 1) (num a.natAbs).size - (num a.natAbs).size) 0 (by omega)
        rw [show zeros 0 = ⟨#[]⟩ from rfl, app_nil, show ((d.toNat : Nat) : Int) = d by omega] at e
        refine .step (fun k => ?_) e
        simp only [money_Format.j1, itoa_num a.natAbs (by omega), Option.bind_some]
      by_cases h3 : a < 0
      · have e := hl ⟨#[45]⟩ (by decide)
        have hsg : signV a = ⟨#[45]⟩ := if_pos h3
        rw [hsg]
        refine .step (fun k => ?_) e
        simp only [money_Format.j0]
        rw [if_neg (by decide), if_pos h3, wrapn (by omega) (by omega), show -a = (a.natAbs : Int) by omega]
      · have e := hl ⟨#[]⟩ (by decide)
        have hsg : signV a = ⟨#[]⟩ := if_neg h3
        rw [hsg]
        refine .step (fun k => ?_) e
        simp only [money_Format.j0]
        rw [if_neg (by decide), if_neg h3, show (a.natAbs : Int) = a by omega]
    · rw [decide_eq_false h2, show mfV a d = (⟨#[]⟩, 1) from if_neg (fun h => h2 h.2)]
      exact hbad
  · refine Ev.neg (by simpa using h1) ?_
    rw [show mfV a d = (⟨#[]⟩, 1) from if_neg (fun h => h1 h.1)]
    exact hbad
/-! ### the reference -/
theorem rdig_loop : ∀ (c n : Nat) (acc : ByteArray), n < 10 ^ c → c ≤ 20 → n ≤ 9223372036854775807 → acc.size + c ≤ 1000 → Ev (fun k => corebankref03_digits.l0 k (n : Int) acc) (num n ++ acc)
  | 0, n, acc, h, _, _, _ => by
    have hn : n = 0 := by simpa using h
    subst hn
    refine .step (f := fun _ => some (num 0 ++ acc)) (fun k => ?_) (.now _)
    have hsz : (⟨#[UInt8.ofNat (48 + 0)]⟩ : ByteArray).size = 1 := rfl
    have hw : wrap64 (((0 : Nat) : Int) + 1) = ((1 : Nat) : Int) := by rw [wrapn (by omega) (by omega)]; rfl
    have hdig : (⟨#[48, 49, 50, 51, 52, 53, 54, 55, 56, 57]⟩ : ByteArray).extract 0 1 = ⟨#[UInt8.ofNat (48 + 0)]⟩ := tens_at 0 (by decide)
    simp only [corebankref03_digits.l0, num_small (show 0 < 10 by decide), hw, Int.toNat_natCast, hdig, hsz]
    rw [if_neg (by omega), if_pos (by omega), if_pos (by omega), if_pos (by omega), if_pos (by omega)]
  | c + 1, n, acc, h, hc, hb, hs => by
    have hsz : (⟨#[UInt8.ofNat (48 + n % 10)]⟩ : ByteArray).size = 1 := rfl
    have e10 : 10 ^ (c + 1) = 10 * 10 ^ c := by rw [Nat.pow_succ, Nat.mul_comm]
    by_cases g : n < 10
    · refine .step (f := fun _ => some (num n ++ acc)) (fun k => ?_) (.now _)
      have hm : n % 10 = n := by omega
      rw [hm] at hsz
      have hm1 : wrap64 ((n : Int) + 1) = ((n + 1 : Nat) : Int) := by rw [wrapn (by omega) (by omega)]; rfl
      have hdig : (⟨#[48, 49, 50, 51, 52, 53, 54, 55, 56, 57]⟩ : ByteArray).extract n (n + 1) = ⟨#[UInt8.ofNat (48 + n)]⟩ := tens_at _ g
      simp only [corebankref03_digits.l0, hm1, Int.toNat_natCast, hdig, hsz, num_small g]
      rw [if_neg (by omega), if_pos (by omega), if_pos (by omega), if_pos (by omega), if_pos (by omega)]
    · have hm : Int.tmod (n : Int) 10 = ((n % 10 : Nat) : Int) := by rw [Int.tmod_eq_emod_of_nonneg (by omega)]; rfl
      have hd : Int.tdiv (n : Int) 10 = ((n / 10 : Nat) : Int) := by rw [Int.tdiv_eq_ediv_of_nonneg (by omega)]; rfl
      have hm1 : wrap64 (((n % 10 : Nat) : Int) + 1) = ((n % 10 + 1 : Nat) : Int) := by rw [wrapn (by omega) (by omega)]; rfl
      have hd1 : wrap64 ((n / 10 : Nat) : Int) = ((n / 10 : Nat) : Int) := wrapn (by omega) (by omega)
      have hdig : (⟨#[48, 49, 50, 51, 52, 53, 54, 55, 56, 57]⟩ : ByteArray).extract (n % 10) (n % 10 + 1) = ⟨#[UInt8.ofNat (48 + n % 10)]⟩ := tens_at _ (Nat.mod_lt _ (by decide))
      have e := rdig_loop c (n / 10) (⟨#[UInt8.ofNat (48 + n % 10)]⟩ ++ acc) (by omega) (by omega) (by omega) (by rw [one_size]; omega)
      rw [← ba_assoc, ← num_big g] at e
      refine .step (fun k => ?_) e
      simp only [corebankref03_digits.l0, hm, hd, hm1, hd1, Int.toNat_natCast, hdig, hsz]
      rw [if_pos (by omega), if_pos (by omega), if_pos (by omega), if_pos (by omega), if_pos (by omega)]
theorem rdig_ev (n : Nat) (h : n ≤ 9223372036854775807) : Ev (fun k => corebankref03_digits.f k (n : Int)) (num n) := by
  have e := rdig_loop 19 n ⟨#[]⟩ (by omega) (by decide) h (by decide)
  rw [empty_app] at e
  exact e
theorem rdig12 : ∀ (k : Nat) (n : Int) (acc : ByteArray), corebankref12_Digits.l0 k n acc = corebankref03_digits.l0 k n acc
  | 0, _, _ => rfl
  | k + 1, n, acc => by simp only [corebankref12_Digits.l0, corebankref03_digits.l0, rdig12 k]
theorem rdig12_ev (n : Nat) (h : n ≤ 9223372036854775807) : Ev (fun k => corebankref12_Digits.f k (n : Int)) (num n) :=
  .congr (fun k => rdig12 k n ⟨#[]⟩) (rdig_ev n h)
theorem pow_loop (d : Nat) (hd : d ≤ 4) : ∀ (c j : Nat), j + c = d → Ev (fun k => corebankref03_Power.l0 k (d : Int) ((10 ^ j : Nat) : Int) (j : Int)) ((10 ^ d : Nat) : Int)
  | 0, j, h => by
    obtain rfl : j = d := by omega
    exact .step (fun k => by simp only [corebankref03_Power.l0]; rw [if_neg (by omega)]) (.now _)
  | c + 1, j, h => by
    have hp : 10 ^ j ≤ 10000 := by
      have : 10 ^ j ≤ 10 ^ 4 := Nat.pow_le_pow_right (by decide) (by omega)
      omega
    have e := pow_loop d hd c (j + 1) (by omega)
    rw [show 10 ^ (j + 1) = 10 * 10 ^ j by rw [Nat.pow_succ, Nat.mul_comm]] at e
    generalize 10 ^ j = p at *
    refine .step (fun k => ?_) e
    simp only [corebankref03_Power.l0]
    rw [if_pos (by omega), wrapn (i := (j : Int) + 1) (by omega) (by omega), wrapn (by omega) (by omega), show (10 : Int) * ((p : Nat) : Int) = ((10 * p : Nat) : Int) by omega]
    rfl
theorem pow_ev (d : Nat) (hd : d ≤ 4) : Ev (fun k => corebankref03_Power.f k (d : Int)) ((10 ^ d : Nat) : Int) := pow_loop d hd d 0 (by omega)
theorem rmoney_ev (a d : Int) : Ev (fun k => corebankref03_Format.f k a d) (mfV a d) := by
  unfold corebankref03_Format.f
  simp only [rmvalid_ev, Option.bind_some]
  have hbad : Ev (fun k => corebankref03_Format.j0 k a d true) (⟨#[]⟩, 1) := .step (fun k => by simp only [corebankref03_Format.j0, if_true]) (.now _)
  by_cases h1 : -1000000000000 ≤ a ∧ a ≤ 1000000000000
  · refine Ev.pos (decide_eq_true h1) ?_
    by_cases h2 : d < 0
    · rw [show mfV a d = (⟨#[]⟩, 1) from if_neg (fun h => by omega)]
      exact Ev.pos h2 hbad
    · refine Ev.neg h2 ?_
      by_cases h3 : d > 4
      · rw [show mfV a d = (⟨#[]⟩, 1) from if_neg (fun h => by omega), decide_eq_true h3]
        exact hbad
      · rw [decide_eq_false h3, show mfV a d = (signV a ++ plainV a.natAbs d.toNat, 0) from if_pos ⟨h1, by omega, by omega⟩]
        obtain ⟨e, he⟩ : ∃ e : Nat, (e : Int) = d := ⟨d.toNat, by omega⟩
        subst he
        have he4 : e ≤ 4 := by omega
        rw [Int.toNat_natCast]
        have hn : a.natAbs ≤ 1000000000000 := by omega
        have hp1 : 1 ≤ 10 ^ e := Nat.pos_of_ne_zero (by simp)
        have hp2 : 10 ^ e ≤ 10000 := by
          have : 10 ^ e ≤ 10 ^ 4 := Nat.pow_le_pow_right (by decide) he4
          omega
        have hl : ∀ sg : ByteArray, sg.size ≤ 1 → Ev (fun k => corebankref03_Format.j1 k (e : Int) sg (a.natAbs : Int)) (sg ++ plainV a.natAbs e, 0) := by
          intro sg hs
          refine .step (f := fun k => _) (fun k => by simp only [corebankref03_Format.j1]; rfl) ?_
          refine .bind (pow_ev e he4) ?_
          by_cases h0 : e = 0
          · subst h0
            refine Ev.pos rfl ?_
            refine .bind (rdig_ev a.natAbs (by omega)) ?_
            have := num_bound hn
            refine Ev.pos (by omega) ?_
            exact .now _
          · refine Ev.neg (by omega) (Ev.neg (by omega) ?_)
            have hq : wrap64 (Int.tdiv (a.natAbs : Int) ((10 ^ e : Nat) : Int)) = ((a.natAbs / 10 ^ e : Nat) : Int) := by
              rw [Int.tdiv_eq_ediv_of_nonneg (by omega), ← Int.natCast_ediv]
              have h1 := Nat.div_le_self a.natAbs (10 ^ e)
              generalize a.natAbs / 10 ^ e = q at *
              exact wrapn (by omega) (by omega)
            have hr : wrap64 (((10 ^ e : Nat) : Int) + Int.tmod (a.natAbs : Int) ((10 ^ e : Nat) : Int)) = ((10 ^ e + a.natAbs % 10 ^ e : Nat) : Int) := by
              rw [Int.tmod_eq_emod_of_nonneg (by omega), ← Int.natCast_emod, ← Int.natCast_add]
              have h1 := Nat.mod_lt a.natAbs hp1
              generalize a.natAbs % 10 ^ e = q at *
              generalize 10 ^ e = p at *
              exact wrapn (by omega) (by omega)
            simp only [hq, hr]
            have hdv := Nat.div_le_self a.natAbs (10 ^ e)
            have hml := Nat.mod_lt a.natAbs hp1
            refine .bind (rdig_ev _ (by omega)) ?_
            have hb := num_bound (n := a.natAbs / 10 ^ e) (by omega)
            refine Ev.pos (by omega) (Ev.pos (by rw [ByteArray.size_append]; omega) ?_)
            refine .bind (rdig_ev _ (by omega)) ?_
            rw [one_digs e _ hml, digs_mod]
            have hx : ((⟨#[49]⟩ : ByteArray) ++ digs e a.natAbs ⟨#[]⟩).extract 1 ((⟨#[49]⟩ : ByteArray) ++ digs e a.natAbs ⟨#[]⟩).size = digs e a.natAbs ⟨#[]⟩ := ext_back ⟨#[49]⟩ _
            have h46 : (⟨#[46]⟩ : ByteArray).size = 1 := rfl
            have h49 : (⟨#[49]⟩ : ByteArray).size = 1 := rfl
            refine Ev.pos (by rw [ByteArray.size_append, h49]; omega) ?_
            rw [hx]
            refine Ev.pos (by simp only [ByteArray.size_append, digs_size, h46]; omega) ?_
            have hv : plainV a.natAbs e = num (a.natAbs / 10 ^ e) ++ ⟨#[46]⟩ ++ digs e a.natAbs ⟨#[]⟩ := if_neg h0
            rw [hv]
            simp only [ba_assoc]
            exact .now _
        by_cases h4 : a < 0
        · have e4 := hl ⟨#[45]⟩ (by decide)
          rw [show signV a = ⟨#[45]⟩ from if_pos h4]
          refine .step (fun k => ?_) e4
          simp only [corebankref03_Format.j0]
          rw [if_neg (by decide), if_pos h4, wrapn (by omega) (by omega), show -a = (a.natAbs : Int) by omega]
        · have e4 := hl ⟨#[]⟩ (by decide)
          rw [show signV a = ⟨#[]⟩ from if_neg h4]
          refine .step (fun k => ?_) e4
          simp only [corebankref03_Format.j0]
          rw [if_neg (by decide), if_neg h4, show (a.natAbs : Int) = a by omega]
  · refine Ev.neg (by simpa using h1) ?_
    rw [show mfV a d = (⟨#[]⟩, 1) from if_neg (fun h => h1 h.1)]
    exact hbad
end Go.Proofs.YtimjodgnlahclaaDoor.G
