/-
  The index of the account with an Id (slices.IndexFunc with a closure over the Id): its contract, for every list of accounts and every number.
-/
import Derived.Test.YtimjodgnlahclaaDoorGx0
import Derived.WalkKit
import Derived.WalkSpells
namespace Go.Proofs.YtimjodgnlahclaaDoor.G
open Go.RowKit Go.Proofs.YtimjodgnlahclaaDoorW.PrintWords Go.Proofs.YtimjodgnlahclaaDoorW.PrintLast Go.Proofs.YtimjodgnlahclaaDoorW.PrintMore
set_option linter.unusedVariables false
set_option linter.unusedSimpArgs false

/-- The index, from i on, of the first account with the Id; -1 if there is none. -/
def findI (id : Int) : List S57 → Int → Int
  | [], _ => -1
  | x :: xs, i => if x.f0 = id then i else findI id xs (i + 1)
set_option maxHeartbeats 1000000 in
theorem same_true (x : S57) (B : Nat) (id : Int) (W : World) (hB : B < W.heap.size) (hc : W.cell? ⟨B, 0, none⟩ = some (.int .i64 id)) (he : x.f0 = id) :
    Calls Tryd.prog 56 #[.agg #[.int .i64 x.f0, .int .i64 x.f1, .int .i64 x.f2, .int .i64 x.f3, .string x.f4, .string x.f5, .string x.f6], .pointer (some ⟨B, 0, none⟩)] W fun e w' => e = .returned (.bool true) ∧ Below W.heap.size W w' := by
  have hne : B ≠ W.heap.size := by omega
  have h1 : (x.f0 == id) = true := by simp [he]
  clear he
  go_enter Tryd.func56, Tryd.ntmps56
  go_wp2
  go_ret
  exact ⟨rfl, (Below.refl _ _).alloc (Nat.le_refl _) _⟩
set_option maxHeartbeats 1000000 in
theorem same_false (x : S57) (B : Nat) (id : Int) (W : World) (hB : B < W.heap.size) (hc : W.cell? ⟨B, 0, none⟩ = some (.int .i64 id)) (he : ¬ x.f0 = id) :
    Calls Tryd.prog 56 #[.agg #[.int .i64 x.f0, .int .i64 x.f1, .int .i64 x.f2, .int .i64 x.f3, .string x.f4, .string x.f5, .string x.f6], .pointer (some ⟨B, 0, none⟩)] W fun e w' => e = .returned (.bool false) ∧ Below W.heap.size W w' := by
  have hne : B ≠ W.heap.size := by omega
  have h1 : (x.f0 == id) = false := by simp [he]
  clear he
  go_enter Tryd.func56, Tryd.ntmps56
  go_wp2
  go_ret
  exact ⟨rfl, (Below.refl _ _).alloc (Nat.le_refl _) _⟩
theorem drop_at (xs : List S57) (k : Nat) (h : k < xs.length) : xs.drop k = rd_T57 xs (k : Int) :: xs.drop (k + 1) := by
  rw [List.drop_eq_getElem_cons h]
  unfold rd_T57
  rw [Int.toNat_natCast, List.getD_eq_getElem?_getD, List.getElem?_eq_getElem h]; rfl
set_option maxHeartbeats 2000000 in
theorem indexfunc (A : Option Addr) (n c : Nat) (xs : List S57) (B : Nat) (id : Int) (w : World) (hr : Kd.C k57 w A n xs) (hB : B < w.heap.size) (hc : w.cell? ⟨B, 0, none⟩ = some (.int .i64 id)) :
    Calls Tryd.prog 55 #[.slice A n c, .func (.func 56) #[] #[.pointer (some ⟨B, 0, none⟩)]] w fun e w' => e = .returned (.int .i64 (findI id xs 0)) ∧ Below w.heap.size w w' := by
  have hlen := hr.1
  have hbig := hr.2.1
  have HR := Aside0.mk hr
  clear hr
  have HC := Aside0.mk hc
  clear hc
  have hu57 := Tryd.underlying57
  have HL := Aside0.mk hlen
  clear hlen
  go_enter Tryd.func55, Tryd.ntmps55
  go_wp2
  go_loopg [5, 8] n (fun gg _ s8 wr => ∃ kk : Nat, kk ≤ n ∧ n - kk ≤ gg ∧ s8 = .int .i64 kk ∧ Aside0 (Below w.heap.size w wr) ∧ Aside0 (findI id xs 0 = findI id (xs.drop kk) kk))
  case atStart => exact ⟨0, Nat.zero_le _, by omega, rfl, ⟨Below.refl _ _⟩, ⟨rfl⟩⟩
  case round =>
    obtain ⟨kk, hkk, hg, rfl, HB, HF⟩ := hrel
    by_cases hlt : kk < n
    · have hltz : (kk : Int) < (n : Int) := by omega
      have p1 : 0 ≤ (kk : Int) := by omega
      obtain ⟨ad, e1, hx0, hx1, hx2, hx3, hx4, hx5, hx6⟩ := at_T57 HR.out (kk : Int) p1 hltz
      cases e1
      replace hx0 := (HB.out.cell (World.block_lt_of_cell? w _ hx0)).trans hx0
      replace hx1 := (HB.out.cell (World.block_lt_of_cell? w _ hx1)).trans hx1
      replace hx2 := (HB.out.cell (World.block_lt_of_cell? w _ hx2)).trans hx2
      replace hx3 := (HB.out.cell (World.block_lt_of_cell? w _ hx3)).trans hx3
      replace hx4 := (HB.out.cell (World.block_lt_of_cell? w _ hx4)).trans hx4
      replace hx5 := (HB.out.cell (World.block_lt_of_cell? w _ hx5)).trans hx5
      replace hx6 := (HB.out.cell (World.block_lt_of_cell? w _ hx6)).trans hx6
      rw [Int.toNat_natCast] at hx0 hx1 hx2 hx3 hx4 hx5 hx6
      have hd := drop_at xs kk (by have := HL.out; omega)
      by_cases he : (rd_T57 xs (kk : Int)).f0 = id
      · have hcall := fun (W : World) (hb : Below w.heap.size w W) => same_true (rd_T57 xs (kk : Int)) B id W (Nat.lt_of_lt_of_le hB hb.size) ((hb.cell (p := ⟨B, 0, none⟩) hB).trans HC.out) he
        have HF2 : Aside0 (findI id xs 0 = (kk : Int)) := ⟨by rw [HF.out, hd]; simp only [findI]; rw [if_pos he]⟩
        have HCL := Aside0.mk hcall
        clear hcall hd he
        go_wp2_with (go_at_call 56; refine (HCL.out _ HB.out).mono ?_; rintro e w' ⟨rfl, hb'⟩)
        go_ret
        exact ⟨by rw [HF2.out]; rfl, HB.out.trans (hb'.mono HB.out.size)⟩
      · have hcall := fun (W : World) (hb : Below w.heap.size w W) => same_false (rd_T57 xs (kk : Int)) B id W (Nat.lt_of_lt_of_le hB hb.size) ((hb.cell (p := ⟨B, 0, none⟩) hB).trans HC.out) he
        have HF2 : Aside0 (findI id xs 0 = findI id (xs.drop (kk + 1)) ((kk + 1 : Nat) : Int)) := ⟨by rw [HF.out, hd]; simp only [findI]; rw [if_neg he]; rfl⟩
        have HCL := Aside0.mk hcall
        clear hcall hd he
        go_wp2_with (go_at_call 56; refine (HCL.out _ HB.out).mono ?_; rintro e w' ⟨rfl, hb'⟩)
        go_roundg (n - (kk + 1))
        case measure => omega
        case rel => exact ⟨kk + 1, by omega, by omega, by go_num, ⟨HB.out.trans (hb'.mono HB.out.size)⟩, HF2⟩
    · have hk : kk = n := by omega
      have HF2 : Aside0 (findI id xs 0 = -1) := ⟨by rw [HF.out, List.drop_eq_nil_of_le (by have := HL.out; omega)]; rfl⟩
      subst hk
      go_wp2
      go_ret
      exact ⟨by rw [HF2.out]; rfl, HB.out⟩
def account_index.f (a0_0 : OV) (a0_1 : OV) (a0_2 : OV) (a0_3 : Int) (a0_4 : Int) (a0_5 : Int) (a0_6 : Int) (a0_7 : Int) (a0_8 : Int) (a0_9 : Int) (a0_10 : Int) (a0_11 : Int) (a0_12 : Int) (a0_13 : Int) (a0_14 : Int) (a0_15 : Int) (a0_16 : Int) (a0_17 : OV) (l0_18 : List (S57)) (l0_19 : List (S54)) (a0_20 : OV) (a0_21 : OV) (a1 : Int) : Option Int := some (findI a1 l0_18 0)
set_option maxHeartbeats 2000000 in
theorem account_index.calls (a0_0 : OV) (a0_1 : OV) (a0_2 : OV) (a0_3 : Int) (a0_4 : Int) (a0_5 : Int) (a0_6 : Int) (a0_7 : Int) (a0_8 : Int) (a0_9 : Int) (a0_10 : Int) (a0_11 : Int) (a0_12 : Int) (a0_13 : Int) (a0_14 : Int) (a0_15 : Int) (a0_16 : Int) (a0_17 : OV) (A0_18 : Option Addr) (c0_18 : Nat) (l0_18 : List (S57)) (A0_19 : Option Addr) (c0_19 : Nat) (l0_19 : List (S54)) (a0_20 : OV) (a0_21 : OV) (a1 : Int) (r : Int) (w : World) (hr0_18 : Kd.C k57 w A0_18 l0_18.length l0_18) (hc0_18 : l0_18.length ≤ c0_18) (hr0_19 : Kd.C k54 w A0_19 l0_19.length l0_19) (hc0_19 : l0_19.length ≤ c0_19) (h : account_index.f a0_0 a0_1 a0_2 a0_3 a0_4 a0_5 a0_6 a0_7 a0_8 a0_9 a0_10 a0_11 a0_12 a0_13 a0_14 a0_15 a0_16 a0_17 l0_18 l0_19 a0_20 a0_21 a1 = some r) :
    Calls Tryd.prog 41 #[.agg #[a0_0.1, a0_1.1, a0_2.1, .int .i64 a0_3, .int .i64 a0_4, .int .i64 a0_5, .int .i64 a0_6, .int .i64 a0_7, .int .i64 a0_8, .int .i64 a0_9, .int .i64 a0_10, .int .i64 a0_11, .int .i64 a0_12, .int .i64 a0_13, .int .i64 a0_14, .int .i64 a0_15, .int .i64 a0_16, a0_17.1, .slice A0_18 l0_18.length c0_18, .slice A0_19 l0_19.length c0_19, a0_20.1, a0_21.1], .int .i64 a1] w fun e w' => e = .returned (.int .i64 r) ∧ Below w.heap.size w w' := by
  obtain rfl : findI a1 l0_18 0 = r := Option.some.inj h
  clear h
  have hu33 := Tryd.underlying33
  have hcall := fun (W : World) (hb : Below w.heap.size w W) (B : Nat) (hB : B < W.heap.size) (hc : W.cell? ⟨B, 0, none⟩ = some (.int .i64 a1)) => indexfunc A0_18 l0_18.length c0_18 l0_18 B a1 W (Kd.C_below hr0_18 hb) hB hc
  have HCL := Aside0.mk hcall
  clear hcall
  clear hr0_18 hc0_18; clear hr0_19 hc0_19
  go_enter Tryd.func41, Tryd.ntmps41
  go_wp2_with (go_at_call 55; refine (HCL.out _ (by repeat (first | exact Below.refl _ _ | apply below_alloc | apply pw_below_drewN | apply below_drew1)) _ (by simp) (by simp)).mono ?_; rintro e w' ⟨rfl, hb'⟩)
  go_ret
  exact ⟨rfl, (by repeat (first | exact Below.refl _ _ | apply below_alloc | apply pw_below_drewN | apply below_drew1) : Below w.heap.size w _).trans (hb'.mono (by simp; try omega))⟩
end Go.Proofs.YtimjodgnlahclaaDoor.G
