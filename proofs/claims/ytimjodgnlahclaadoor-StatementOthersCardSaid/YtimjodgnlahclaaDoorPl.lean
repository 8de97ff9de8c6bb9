/-
  PLAIN WORDS for numbers, texts and rounds: whole numbers within their kind, the decimal numeral, one way of a test.
-/
import Derived.Test.YtimjodgnlahclaaDoorWWords
import Derived.OpenShut
import Derived.Lib.ItoaLen
namespace Go.Proofs.YtimjodgnlahclaaDoor.G
open Go.RowKit Go.Proofs.YtimjodgnlahclaaDoorW.PrintWords

theorem wrapn {i : Int} (h0 : -9223372036854775808 ≤ i) (h1 : i ≤ 9223372036854775807) : wrap64 i = i := by unfold wrap64; omega
theorem u64in {i : Int} (h0 : 0 ≤ i) (h1 : i ≤ 18446744073709551615) : IntKind.u64.wrap i = i := by
  simp [IntKind.wrap, IntKind.signed, IntKind.bits]; omega
theorem u64lo (i : Int) : 0 ≤ IntKind.u64.wrap i ∧ IntKind.u64.wrap i ≤ 18446744073709551615 := by
  simp [IntKind.wrap, IntKind.signed, IntKind.bits]; omega

def tens : ByteArray := ⟨#[48, 49, 50, 51, 52, 53, 54, 55, 56, 57]⟩
theorem tens_fin : ∀ d : Fin 10, tens.extract d.val (d.val + 1) = ⟨#[UInt8.ofNat (48 + d.val)]⟩ := by decide +kernel
theorem tens_at (d : Nat) (h : d < 10) : tens.extract d (d + 1) = ⟨#[UInt8.ofNat (48 + d)]⟩ := tens_fin ⟨d, h⟩
def num (u : Nat) : ByteArray := ⟨(Lib.decDigits u).toArray⟩
theorem num_small {u : Nat} (h : u < 10) : num u = ⟨#[UInt8.ofNat (48 + u)]⟩ := by
  unfold num; rw [Lib.decDigits, dif_pos h]
theorem num_big {u : Nat} (h : ¬ u < 10) : num u = num (u / 10) ++ ⟨#[UInt8.ofNat (48 + u % 10)]⟩ := by
  unfold num; rw [Lib.decDigits, dif_neg h]
  apply ByteArray.ext
  simp
theorem ba_assoc (a b c : ByteArray) : a ++ b ++ c = a ++ (b ++ c) := by
  apply ByteArray.ext
  simp [Array.append_assoc]
theorem num_size (u : Nat) : (num u).size = Lib.nDigits u := by
  show (Lib.decDigits u).toArray.size = _
  rw [List.size_toArray, Lib.decDigits_length]
theorem one_size (b : UInt8) (x : ByteArray) : ((⟨#[b]⟩ : ByteArray) ++ x).size = 1 + x.size := by
  rw [ByteArray.size_append]; rfl
theorem ba_loop (x : ByteArray) : ∀ (d i : Nat) (r : List UInt8), i + d = x.size → ByteArray.toList.loop x i r = r.reverse ++ x.data.toList.drop i
  | 0, i, r, h => by
    unfold ByteArray.toList.loop
    rw [if_neg (by omega), List.drop_eq_nil_of_le (by rw [Array.length_toList]; show x.size ≤ i; omega), List.append_nil]
  | d + 1, i, r, h => by
    unfold ByteArray.toList.loop
    rw [if_pos (by omega), ba_loop x d (i + 1) _ (by omega)]
    have hi : i < x.data.toList.length := by rw [Array.length_toList]; show i < x.size; omega
    rw [List.drop_eq_getElem_cons hi]
    have hg : x.get! i = x.data.toList[i] := by
      show x.data[i]! = _
      rw [getElem!_pos x.data i (by simpa using hi)]
      simp
    rw [hg]; simp
theorem ba_list (x : ByteArray) : x.toList = x.data.toList := by
  unfold ByteArray.toList
  rw [ba_loop x x.size 0 [] (by omega)]; simp
theorem one_list (b : UInt8) (x : ByteArray) : ¬ ((⟨#[b]⟩ : ByteArray) ++ x).toList = ([] : List UInt8) := by
  intro h
  have h1 : ((⟨#[b]⟩ : ByteArray) ++ x).data.toList = [] := by rw [← ba_list]; exact h
  simp at h1

theorem itoa_nonneg' {a : Int} (h : 0 ≤ a) : (⟨(Lib.itoa a).toArray⟩ : ByteArray) = num a.toNat := by
  unfold Lib.itoa num; rw [if_neg (by omega)]
theorem itoa_neg' {a : Int} (h : a < 0) : (⟨(Lib.itoa a).toArray⟩ : ByteArray) = ⟨#[45]⟩ ++ num a.natAbs := by
  unfold Lib.itoa num; rw [if_pos h]
  apply ByteArray.ext
  simp
theorem empty_app (x : ByteArray) : x ++ (⟨#[]⟩ : ByteArray) = x := by
  apply ByteArray.ext
  simp
def txt (a : Int) : ByteArray := ⟨(Lib.itoa a).toArray⟩
theorem txt_size (a : Int) (h0 : -9223372036854775808 ≤ a) (h1 : a ≤ 9223372036854775807) : (txt a).size ≤ 21 := by
  show (Lib.itoa a).toArray.size ≤ 21
  rw [List.size_toArray]; exact Lib.itoa_length_le a h0 h1
theorem wf64 {x : Int} (h : (Lit.int .i64 x).wf = true) : -9223372036854775808 ≤ x ∧ x ≤ 9223372036854775807 := by
  simp [Lit.wf, IntKind.min, IntKind.max, IntKind.signed, IntKind.bits] at h
  omega
theorem Ev.pos {α : Type} {c : Prop} [Decidable c] {A B : Nat → Option α} {r : α} (h : c) (e : Ev A r) : Ev (fun k => if c then A k else B k) r := Ev.congr (fun _ => if_pos h) e
theorem Ev.neg {α : Type} {c : Prop} [Decidable c] {A B : Nat → Option α} {r : α} (h : ¬ c) (e : Ev B r) : Ev (fun k => if c then A k else B k) r := Ev.congr (fun _ => if_neg h) e

theorem num_two {n : Nat} (h0 : 10 ≤ n) (h1 : n < 100) : num n = ⟨#[UInt8.ofNat (48 + n / 10), UInt8.ofNat (48 + n % 10)]⟩ := by
  rw [num_big (by omega), num_small (by omega)]; rfl
theorem num_four {n : Nat} (h0 : 1000 ≤ n) (h1 : n < 10000) : num n = ⟨#[UInt8.ofNat (48 + n / 1000), UInt8.ofNat (48 + n / 100 % 10), UInt8.ofNat (48 + n / 10 % 10), UInt8.ofNat (48 + n % 10)]⟩ := by
  rw [num_big (by omega), num_big (by omega), num_big (by omega), num_small (by omega), show n / 10 / 10 / 10 = n / 1000 by omega, show n / 10 / 10 = n / 100 by omega]; rfl
theorem txt_num {a : Int} (h : 0 ≤ a) : txt a = num a.toNat := itoa_nonneg' h
theorem bt_lo (s : ByteArray) (i : Int) : 0 ≤ bt s i ∧ bt s i ≤ 255 := by
  unfold bt; split
  · rename_i h; have := (s[i.toNat]'h).toNat_lt; omega
  · omega
end Go.Proofs.YtimjodgnlahclaaDoor.G
