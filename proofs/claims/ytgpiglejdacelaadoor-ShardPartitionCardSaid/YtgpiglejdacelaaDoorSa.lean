/-
  SHARDS, PLAIN: both texts of the hash and of the decimal numeral come to the same value; the shard of an account.
-/
import Derived.Test.YtgpiglejdacelaaDoorGx4
import Derived.Test.YtgpiglejdacelaaDoorGx8
import Derived.Lib.ItoaLen
import Derived.Laws.Bits64
namespace Go.Proofs.YtgpiglejdacelaaDoor.G
open Go.RowKit Go.Proofs.YtgpiglejdacelaaDoorW.PrintWords Go.Proofs.YtgpiglejdacelaaDoorW.PrintLast Go.Proofs.YtgpiglejdacelaaDoorW.PrintMore

theorem wrapn {i : Int} (h0 : -9223372036854775808 ≤ i) (h1 : i ≤ 9223372036854775807) : wrap64 i = i := by unfold wrap64; omega
theorem u64in {i : Int} (h0 : 0 ≤ i) (h1 : i ≤ 18446744073709551615) : IntKind.u64.wrap i = i := by
  simp [IntKind.wrap, IntKind.signed, IntKind.bits]; omega
theorem u64lo (i : Int) : 0 ≤ IntKind.u64.wrap i ∧ IntKind.u64.wrap i ≤ 18446744073709551615 := by
  simp [IntKind.wrap, IntKind.signed, IntKind.bits]; omega

def hstep (h b : Int) : Int := IntKind.u64.wrap ((Go.bits .xor .u64 h (IntKind.u64.wrap b)) * 1099511628211)
def hgo (s : ByteArray) : Nat → Int → Int → Int
  | 0, _, h => h
  | d + 1, i, h => hgo s d (i + 1) (hstep h (bt s i))
theorem hgo_in (s : ByteArray) : ∀ (d : Nat) (i h : Int), 0 ≤ h → h ≤ 18446744073709551615 → 0 ≤ hgo s d i h ∧ hgo s d i h ≤ 18446744073709551615
  | 0, _, _, h0, h1 => ⟨h0, h1⟩
  | d + 1, i, h, _, _ => by
    have := u64lo ((Go.bits .xor .u64 h (IntKind.u64.wrap (bt s i))) * 1099511628211)
    exact hgo_in s d (i + 1) _ this.1 this.2
def hashV (s : ByteArray) : Int := hgo s s.size 0 14695981039346656037
theorem hashV_in (s : ByteArray) : 0 ≤ hashV s ∧ hashV s ≤ 18446744073709551615 := hgo_in s _ _ _ (by decide) (by decide)

theorem extend_ev (s : ByteArray) (hs : s.size ≤ 9223372036854775806) : ∀ (d : Nat) (h i : Int), 0 ≤ i → i + d = (s.size : Int) → Ev (fun k => digest_extend.l0 k h s (s.size : Int) i) (hgo s d i h)
  | 0, h, i, h0, hd => Ev.step (f := fun _ => some h) (fun k => by simp only [digest_extend.l0]; rw [if_neg (by omega)]) (Ev.now _)
  | d + 1, h, i, h0, hd => Ev.step (f := fun k => digest_extend.l0 k (hstep h (bt s i)) s (s.size : Int) (i + 1))
      (fun k => by simp only [digest_extend.l0]; rw [if_pos (by omega), if_pos h0, if_pos (by omega), wrapn (by omega) (by omega)]; rfl)
      (extend_ev s hs d _ (i + 1) (by omega) (by omega))
theorem hash_ev (s : ByteArray) (hs : s.size ≤ 9223372036854775806) : Ev (fun k => digest_Hash.f k s) (hashV s) :=
  Ev.bind (f := fun _ t => some t) (a := hashV s) (extend_ev s hs s.size _ 0 (by omega) (by omega)) (Ev.now _)
theorem rextend_ev (s : ByteArray) (hs : s.size ≤ 9223372036854775806) : ∀ (d : Nat) (h i : Int), 0 ≤ i → i + d = (s.size : Int) → Ev (fun k => corebankref08_Extend.l0 k h s i) (hgo s d i h)
  | 0, h, i, h0, hd => Ev.step (f := fun _ => some h) (fun k => by simp only [corebankref08_Extend.l0]; rw [if_neg (by omega)]) (Ev.now _)
  | d + 1, h, i, h0, hd => Ev.step (f := fun k => corebankref08_Extend.l0 k (hstep h (bt s i)) s (i + 1))
      (fun k => by simp only [corebankref08_Extend.l0]; rw [if_pos (by omega), if_pos h0, wrapn (by omega) (by omega)]; rfl)
      (rextend_ev s hs d _ (i + 1) (by omega) (by omega))
theorem rhash_ev (s : ByteArray) (hs : s.size ≤ 9223372036854775806) : Ev (fun k => corebankref08_Hash.f k s) (hashV s) :=
  Ev.bind (f := fun _ t => some t) (a := hashV s) (rextend_ev s hs s.size _ 0 (by omega) (by omega)) (Ev.now _)

/-! ### the numeral -/
def tens : ByteArray := ⟨#[48, 49, 50, 51, 52, 53, 54, 55, 56, 57]⟩
theorem tens_fin : ∀ d : Fin 10, tens.extract d.val (d.val + 1) = ⟨#[UInt8.ofNat (48 + d.val)]⟩ := by decide +kernel
theorem tens_at (d : Nat) (h : d < 10) : tens.extract d (d + 1) = ⟨#[UInt8.ofNat (48 + d)]⟩ := tens_fin ⟨d, h⟩
def num (u : Nat) : ByteArray := ⟨(Lib.decDigits u).toArray⟩
theorem num_small {u : Nat} (h : u < 10) : num u = ⟨#[UInt8.ofNat (48 + u)]⟩ := by
  unfold num; rw [Lib.decDigits, dif_pos h]
theorem num_big {u : Nat} (h : ¬ u < 10) : num u = num (u / 10) ++ ⟨#[UInt8.ofNat (48 + u % 10)]⟩ := by
  unfold num; rw [Lib.decDigits, dif_neg h]
  apply ByteArray.ext
  simp
theorem ba_assoc (a b c : ByteArray) : a ++ b ++ c = a ++ (b ++ c) := by
  apply ByteArray.ext
  simp [Array.append_assoc]
theorem num_size (u : Nat) : (num u).size = Lib.nDigits u := by
  show (Lib.decDigits u).toArray.size = _
  rw [List.size_toArray, Lib.decDigits_length]
theorem one_size (b : UInt8) (x : ByteArray) : ((⟨#[b]⟩ : ByteArray) ++ x).size = 1 + x.size := by
  rw [ByteArray.size_append]; rfl
theorem ba_loop (x : ByteArray) : ∀ (d i : Nat) (r : List UInt8), i + d = x.size → ByteArray.toList.loop x i r = r.reverse ++ x.data.toList.drop i
  | 0, i, r, h => by
    unfold ByteArray.toList.loop
    rw [if_neg (by omega), List.drop_eq_nil_of_le (by rw [Array.length_toList]; show x.size ≤ i; omega), List.append_nil]
  | d + 1, i, r, h => by
    unfold ByteArray.toList.loop
    rw [if_pos (by omega), ba_loop x d (i + 1) _ (by omega)]
    have hi : i < x.data.toList.length := by rw [Array.length_toList]; show i < x.size; omega
    rw [List.drop_eq_getElem_cons hi]
    have hg : x.get! i = x.data.toList[i] := by
      show x.data[i]! = _
      rw [getElem!_pos x.data i (by simpa using hi)]
      simp
    rw [hg]; simp
theorem ba_list (x : ByteArray) : x.toList = x.data.toList := by
  unfold ByteArray.toList
  rw [ba_loop x x.size 0 [] (by omega)]; simp
theorem one_list (b : UInt8) (x : ByteArray) : ¬ ((⟨#[b]⟩ : ByteArray) ++ x).toList = ([] : List UInt8) := by
  intro h
  have h1 : ((⟨#[b]⟩ : ByteArray) ++ x).data.toList = [] := by rw [← ba_list]; exact h
  simp at h1

theorem natural_round (u : Nat) (hu : u < 18446744073709551616) (x : ByteArray) (hx : x.size ≤ 1000) (hgo : x.toList = ([] : List UInt8) ∨ 0 < u) (k : Nat) :
    corebankref07_natural.l0 (k + 1) (u : Int) x = corebankref07_natural.l0 k ((u / 10 : Nat) : Int) (⟨#[UInt8.ofNat (48 + u % 10)]⟩ ++ x) := by
  have hm : Int.tmod (u : Int) 10 = ((u % 10 : Nat) : Int) := by rw [Int.tmod_eq_emod_of_nonneg (by omega)]; rfl
  have hd : Int.tdiv (u : Int) 10 = ((u / 10 : Nat) : Int) := by rw [Int.tdiv_eq_ediv_of_nonneg (by omega)]; rfl
  have hm1 : IntKind.u64.wrap (((u % 10 : Nat) : Int) + 1) = ((u % 10 + 1 : Nat) : Int) := by rw [u64in (by omega) (by omega)]; rfl
  have hd1 : IntKind.u64.wrap ((u / 10 : Nat) : Int) = ((u / 10 : Nat) : Int) := u64in (by omega) (by omega)
  have hdig : (⟨#[48, 49, 50, 51, 52, 53, 54, 55, 56, 57]⟩ : ByteArray).extract (u % 10) (u % 10 + 1) = ⟨#[UInt8.ofNat (48 + u % 10)]⟩ := tens_at _ (Nat.mod_lt _ (by decide))
  have hsz : (⟨#[UInt8.ofNat (48 + u % 10)]⟩ : ByteArray).size = 1 := rfl
  simp only [corebankref07_natural.l0, hm, hd, hm1, hd1, Int.toNat_natCast, hdig, hsz]
  by_cases hl : x.toList = ([] : List UInt8)
  · rw [if_pos hl, if_pos (by omega), if_pos (by omega), if_pos (by omega), if_pos (by omega)]
  · have h0 : 0 < u := hgo.resolve_left hl
    rw [if_neg hl, if_pos (by omega), if_pos (by omega), if_pos (by omega), if_pos (by omega), if_pos (by omega)]
theorem natural_ev (u : Nat) : ∀ (x : ByteArray), u < 18446744073709551616 → x.size + Lib.nDigits u ≤ 1000 → (x.toList = ([] : List UInt8) ∨ 0 < u) →
    Ev (fun k => corebankref07_natural.l0 k (u : Int) x) (num u ++ x) := by
  induction u using Nat.strongRecOn with
  | _ u ih =>
    intro x hu hs hgo
    refine Ev.step (f := fun k => corebankref07_natural.l0 k ((u / 10 : Nat) : Int) (⟨#[UInt8.ofNat (48 + u % 10)]⟩ ++ x)) (fun k => natural_round u hu x (by omega) hgo k) ?_
    by_cases h : u < 10
    · have h0 : u / 10 = 0 := by omega
      rw [h0, num_small h]
      refine Ev.step (f := fun _ => some _) (fun k => ?_) (Ev.now _)
      simp only [corebankref07_natural.l0]
      rw [if_neg (one_list _ _), if_neg (by simp), Nat.mod_eq_of_lt h]
    · rw [num_big h, ba_assoc]
      rw [Lib.nDigits_big h] at hs
      exact ih (u / 10) (by omega) _ (by omega) (by rw [one_size]; omega) (.inr (by omega))
theorem xor_ones (x : Nat) (h : x < 18446744073709551616) : (18446744073709551615 ^^^ x : Nat) = 18446744073709551615 - x := by
  have h1 := BitVec.toNat_not (x := BitVec.ofNat 64 x)
  rw [BitVec.not_def, BitVec.toNat_xor, BitVec.toNat_allOnes, BitVec.toNat_ofNat, Nat.mod_eq_of_lt (by simpa using h)] at h1
  simpa using h1
theorem itoa_nonneg' {a : Int} (h : 0 ≤ a) : (⟨(Lib.itoa a).toArray⟩ : ByteArray) = num a.toNat := by
  unfold Lib.itoa num; rw [if_neg (by omega)]
theorem itoa_neg' {a : Int} (h : a < 0) : (⟨(Lib.itoa a).toArray⟩ : ByteArray) = ⟨#[45]⟩ ++ num a.natAbs := by
  unfold Lib.itoa num; rw [if_pos h]
  apply ByteArray.ext
  simp
theorem empty_app (x : ByteArray) : x ++ (⟨#[]⟩ : ByteArray) = x := by
  apply ByteArray.ext
  simp
def txt (a : Int) : ByteArray := ⟨(Lib.itoa a).toArray⟩
theorem txt_size (a : Int) (h0 : -9223372036854775808 ≤ a) (h1 : a ≤ 9223372036854775807) : (txt a).size ≤ 21 := by
  show (Lib.itoa a).toArray.size ≤ 21
  rw [List.size_toArray]; exact Lib.itoa_length_le a h0 h1
theorem rint_ev (a : Int) (h0 : -9223372036854775808 ≤ a) (h1 : a ≤ 9223372036854775807) : Ev (fun k => corebankref07_Int.f k a) (txt a) := by
  by_cases ha : a ≥ 0
  · have hw : IntKind.u64.wrap a = (a.toNat : Int) := by rw [u64in ha (by omega)]; omega
    have e := natural_ev a.toNat ⟨#[]⟩ (by omega) (by have := Lib.nDigits_le20 a.toNat (by omega); simp [ByteArray.size]; omega) (.inl (by rw [ba_list]))
    rw [empty_app] at e
    refine Ev.congr (f := fun k => (corebankref07_natural.f k (a.toNat : Int)).bind fun t => some t) (fun k => by simp only [corebankref07_Int.f]; rw [if_pos ha, hw]) ?_
    unfold txt
    rw [itoa_nonneg' ha]
    exact Ev.bind (f := fun _ t => some t) e (Ev.now _)
  · have hx : IntKind.u64.wrap a = ((18446744073709551616 - a.natAbs : Nat) : Int) := by
      simp [IntKind.wrap, IntKind.signed, IntKind.bits]; omega
    have hx2 : Go.bits .xor .u64 18446744073709551615 (IntKind.u64.wrap a) = ((a.natAbs - 1 : Nat) : Int) := by
      rw [hx, show (18446744073709551615 : Int) = ((18446744073709551615 : Nat) : Int) from rfl, bits_xor_u64_nat _ _ (by omega) (by omega), xor_ones _ (by omega)]
      congr 1; omega
    have hw : IntKind.u64.wrap ((Go.bits .xor .u64 18446744073709551615 (IntKind.u64.wrap a)) + 1) = (a.natAbs : Int) := by
      rw [hx2, u64in (by omega) (by omega)]; omega
    have hn := Lib.nDigits_le20 a.natAbs (by omega)
    have e := natural_ev a.natAbs ⟨#[]⟩ (by omega) (by simp [ByteArray.size]; omega) (.inl (by rw [ba_list]))
    rw [empty_app] at e
    refine Ev.congr (f := fun k => (corebankref07_natural.f k (a.natAbs : Int)).bind fun t => if 1 + t.size ≤ 9223372036854775807 then (some ((⟨#[45]⟩ : ByteArray) ++ t)) else none) (fun k => by simp only [corebankref07_Int.f]; rw [if_neg ha, hw]) ?_
    unfold txt
    rw [itoa_neg' (by omega)]
    refine Ev.bind (f := fun _ t => if 1 + t.size ≤ 9223372036854775807 then (some ((⟨#[45]⟩ : ByteArray) ++ t)) else none) (a := num a.natAbs) e ?_
    rw [if_pos (by rw [num_size]; omega)]
    exact Ev.now _

/-! ### the shard of an account -/
def ofV (a n : Int) : Int := if 1 ≤ n ∧ n ≤ 8 then hashV (txt a) % n else 0
theorem number_ev (n : Int) : shard_number.f n = some (decide (1 ≤ n ∧ n ≤ 8)) := by
  unfold shard_number.f
  by_cases h : n ≥ 1
  · rw [if_pos h]; congr 1; apply decide_eq_decide.2; omega
  · rw [if_neg h]; congr 1; symm; apply decide_eq_false; omega
theorem good_ev (n : Int) : corebankref50_Good.f n = some (decide (1 ≤ n ∧ n ≤ 8)) := by
  unfold corebankref50_Good.f
  by_cases h : n ≥ 1
  · rw [if_pos h]; congr 1; apply decide_eq_decide.2; omega
  · rw [if_neg h]; congr 1; symm; apply decide_eq_false; omega
theorem ofV_in (a n : Int) (h : 1 ≤ n ∧ n ≤ 8) : 0 ≤ ofV a n ∧ ofV a n < n := by
  unfold ofV; rw [if_pos h]
  exact ⟨Int.emod_nonneg _ (by omega), Int.emod_lt_of_pos _ (by omega)⟩
theorem tail_eq (t n : Int) (h : 1 ≤ n ∧ n ≤ 8) (h0 : 0 ≤ t) : wrap64 (Int.tmod t (IntKind.u64.wrap n)) = t % n := by
  rw [u64in (by omega) (by omega), Int.tmod_eq_emod_of_nonneg h0]
  have := Int.emod_nonneg t (show n ≠ 0 by omega)
  have := Int.emod_lt_of_pos t (show 0 < n by omega)
  exact wrapn (by omega) (by omega)
theorem of_ev (a n : Int) (h0 : -9223372036854775808 ≤ a) (h1 : a ≤ 9223372036854775807) : Ev (fun k => shard_Of.f k a n) (ofV a n) := by
  by_cases h : 1 ≤ n ∧ n ≤ 8
  · refine Ev.congr (f := fun k => (digest_Hash.f k (txt a)).bind fun t => some (wrap64 (Int.tmod t (IntKind.u64.wrap n)))) (fun k => ?_) ?_
    · have hn : ¬ IntKind.u64.wrap n = 0 := by rw [u64in (by omega) (by omega)]; omega
      simp only [shard_Of.f, number_ev, decide_eq_true h, Option.bind_some, if_true, strconv_Itoa.f, if_pos h0, if_pos h1, if_neg hn]
      rfl
    · have hs := txt_size a h0 h1
      refine Ev.bind (f := fun _ t => some (wrap64 (Int.tmod t (IntKind.u64.wrap n)))) (hash_ev (txt a) (by omega)) ?_
      rw [tail_eq _ _ h (hashV_in _).1]
      unfold ofV; rw [if_pos h]
      exact Ev.now _
  · refine Ev.congr (f := fun _ => some 0) (fun k => ?_) ?_
    · simp only [shard_Of.f, number_ev, decide_eq_false h, Option.bind_some]; rfl
    · unfold ofV; rw [if_neg h]; exact Ev.now _
theorem rof_ev (a n : Int) (h0 : -9223372036854775808 ≤ a) (h1 : a ≤ 9223372036854775807) : Ev (fun k => corebankref50_Of.f k a n) (ofV a n) := by
  by_cases h : 1 ≤ n ∧ n ≤ 8
  · refine Ev.congr (f := fun k => (corebankref07_Int.f k a).bind fun t => (corebankref08_Hash.f k t).bind fun t => some (wrap64 (Int.tmod t (IntKind.u64.wrap n)))) (fun k => ?_) ?_
    · have hn : ¬ IntKind.u64.wrap n = 0 := by rw [u64in (by omega) (by omega)]; omega
      simp only [corebankref50_Of.f, good_ev, decide_eq_true h, Option.bind_some, if_true, if_neg hn]
    · have hs := txt_size a h0 h1
      refine Ev.bind (f := fun k t => (corebankref08_Hash.f k t).bind fun t => some (wrap64 (Int.tmod t (IntKind.u64.wrap n)))) (rint_ev a h0 h1) ?_
      refine Ev.bind (f := fun _ t => some (wrap64 (Int.tmod t (IntKind.u64.wrap n)))) (rhash_ev (txt a) (by omega)) ?_
      rw [tail_eq _ _ h (hashV_in _).1]
      unfold ofV; rw [if_pos h]
      exact Ev.now _
  · refine Ev.congr (f := fun _ => some 0) (fun k => ?_) ?_
    · simp only [corebankref50_Of.f, good_ev, decide_eq_false h, Option.bind_some]; rfl
    · unfold ofV; rw [if_neg h]; exact Ev.now _
theorem wf64 {x : Int} (h : (Lit.int .i64 x).wf = true) : -9223372036854775808 ≤ x ∧ x ≤ 9223372036854775807 := by
  simp [Lit.wf, IntKind.min, IntKind.max, IntKind.signed, IntKind.bits] at h
  omega
end Go.Proofs.YtgpiglejdacelaaDoor.G
