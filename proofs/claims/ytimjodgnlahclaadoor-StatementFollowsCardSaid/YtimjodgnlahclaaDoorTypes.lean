/-
  THE TYPES OF THE LAWS' PARAMETERS: what reads as data is of the printed texts' kinds, with these bounds.
-/
import Derived.Test.YtimjodgnlahclaaDoorGx0
import Derived.Test.YtimjodgnlahclaaDoorOpen
namespace Go.Proofs.YtimjodgnlahclaaDoor.G
open Go.RowKit Go.Proofs.YtimjodgnlahclaaDoorW.PrintWords
set_option linter.unusedVariables false
theorem opens_opq {P : Program} {t e : TypeId} (hu : P.underlying t = some (.slice e)) : Opens P t kdO (fun _ => True)
  | 0 => OpensN.zero
  | n + 1 => by
    intro H enc W fuel cs x hf htr hw
    rcases DataW.trod_slice hu htr with ⟨rfl, rfl⟩ | ⟨a, len, cap, elems, rest, m, rfl, rfl, rfl, hb, hl, hm, hel, hget, _, _⟩
    · exact ⟨⟨.slice none 0 0, rfl⟩, rfl, trivial⟩
    · exact ⟨⟨.slice (some a) len cap, rfl⟩, rfl, trivial⟩
def ok26 (x : S26) : Prop := (Lit.int .i64 x.f0).wf = true ∧ ((Lit.int .i64 x.f1).wf = true ∧ ((Lit.int .i64 x.f2).wf = true ∧ ((Lit.int .i64 x.f3).wf = true ∧ ((Lit.int .i64 x.f4).wf = true ∧ ((Lit.int .i64 x.f5).wf = true ∧ ((Lit.int .i64 x.f6).wf = true ∧ ((Lit.int .i64 x.f7).wf = true ∧ ((Lit.int .i64 x.f8).wf = true ∧ ((Lit.int .i64 x.f9).wf = true ∧ ((Lit.int .i64 x.f10).wf = true ∧ ((Lit.int .i64 x.f11).wf = true ∧ ((Lit.int .i64 x.f12).wf = true ∧ ((Lit.int .i64 x.f13).wf = true)))))))))))))
theorem opens26 : Opens Tryd.prog 26 k26 ok26
  | 0 => OpensN.zero
  | n + 1 => (OpensN.struct (g := fun p => (⟨p.1, p.2.1, p.2.2.1, p.2.2.2.1, p.2.2.2.2.1, p.2.2.2.2.2.1, p.2.2.2.2.2.2.1, p.2.2.2.2.2.2.2.1, p.2.2.2.2.2.2.2.2.1, p.2.2.2.2.2.2.2.2.2.1, p.2.2.2.2.2.2.2.2.2.2.1, p.2.2.2.2.2.2.2.2.2.2.2.1, p.2.2.2.2.2.2.2.2.2.2.2.2.1, p.2.2.2.2.2.2.2.2.2.2.2.2.2⟩ : S26)) (fun _ => rfl) Tryd.underlying26 (OpensFs.cons ((opens_int Tryd.underlying3) n) rfl (by kernel_rfl) (OpensFs.cons ((opens_int Tryd.underlying3) n) rfl (by kernel_rfl) (OpensFs.cons ((opens_int Tryd.underlying3) n) rfl (by kernel_rfl) (OpensFs.cons ((opens_int Tryd.underlying3) n) rfl (by kernel_rfl) (OpensFs.cons ((opens_int Tryd.underlying3) n) rfl (by kernel_rfl) (OpensFs.cons ((opens_int Tryd.underlying3) n) rfl (by kernel_rfl) (OpensFs.cons ((opens_int Tryd.underlying3) n) rfl (by kernel_rfl) (OpensFs.cons ((opens_int Tryd.underlying3) n) rfl (by kernel_rfl) (OpensFs.cons ((opens_int Tryd.underlying3) n) rfl (by kernel_rfl) (OpensFs.cons ((opens_int Tryd.underlying3) n) rfl (by kernel_rfl) (OpensFs.cons ((opens_int Tryd.underlying3) n) rfl (by kernel_rfl) (OpensFs.cons ((opens_int Tryd.underlying3) n) rfl (by kernel_rfl) (OpensFs.cons ((opens_int Tryd.underlying3) n) rfl (by kernel_rfl) (OpensFs.last ((opens_int Tryd.underlying3) n) rfl (by kernel_rfl) (by kernel_rfl)))))))))))))))).imp (fun a h => h)
def ok57 (x : S57) : Prop := (Lit.int .i64 x.f0).wf = true ∧ ((Lit.int .i64 x.f1).wf = true ∧ ((Lit.int .i64 x.f2).wf = true ∧ ((Lit.int .i64 x.f3).wf = true ∧ (x.f4.size ≤ 140737488351232 ∧ (x.f5.size ≤ 140737488351232 ∧ (x.f6.size ≤ 140737488351232))))))
theorem opens57 : Opens Tryd.prog 57 k57 ok57
  | 0 => OpensN.zero
  | n + 1 => (OpensN.struct (g := fun p => (⟨p.1, p.2.1, p.2.2.1, p.2.2.2.1, p.2.2.2.2.1, p.2.2.2.2.2.1, p.2.2.2.2.2.2⟩ : S57)) (fun _ => rfl) Tryd.underlying57 (OpensFs.cons ((opens_int Tryd.underlying3) n) rfl (by kernel_rfl) (OpensFs.cons ((opens_int Tryd.underlying3) n) rfl (by kernel_rfl) (OpensFs.cons ((opens_int Tryd.underlying3) n) rfl (by kernel_rfl) (OpensFs.cons ((opens_int Tryd.underlying3) n) rfl (by kernel_rfl) (OpensFs.cons ((opens_string Tryd.underlying9) n) rfl (by kernel_rfl) (OpensFs.cons ((opens_string Tryd.underlying9) n) rfl (by kernel_rfl) (OpensFs.last ((opens_string Tryd.underlying9) n) rfl (by kernel_rfl) (by kernel_rfl))))))))).imp (fun a h => h)
def ok62 (x : S62) : Prop := (Lit.int .i64 x.f0).wf = true ∧ ((Lit.int .i64 x.f1).wf = true ∧ (x.f2.size ≤ 140737488351232))
theorem opens62 : Opens Tryd.prog 62 k62 ok62
  | 0 => OpensN.zero
  | n + 1 => (OpensN.struct (g := fun p => (⟨p.1, p.2.1, p.2.2⟩ : S62)) (fun _ => rfl) Tryd.underlying62 (OpensFs.cons ((opens_int Tryd.underlying3) n) rfl (by kernel_rfl) (OpensFs.cons ((opens_int Tryd.underlying3) n) rfl (by kernel_rfl) (OpensFs.last ((opens_string Tryd.underlying9) n) rfl (by kernel_rfl) (by kernel_rfl))))).imp (fun a h => h)
def ok54 (x : S54) : Prop := (Lit.int .i64 x.f0).wf = true ∧ ((Lit.int .i64 x.f1).wf = true ∧ ((Lit.int .i64 x.f2).wf = true ∧ ((Lit.int .i64 x.f3).wf = true ∧ ((Lit.int .i64 x.f4).wf = true ∧ ((Lit.int .i64 x.f5).wf = true ∧ (x.f6.size ≤ 140737488351232 ∧ (x.f7.size ≤ 140737488351232 ∧ ((x.f8.length * 32 ≤ 140737488351232 ∧ ∀ y ∈ x.f8, ok62 y) ∧ ((Lit.int .u64 x.f9).wf = true)))))))))
theorem opens54 : Opens Tryd.prog 54 k54 ok54
  | 0 => OpensN.zero
  | n + 1 => (OpensN.struct (g := fun p => (⟨p.1, p.2.1, p.2.2.1, p.2.2.2.1, p.2.2.2.2.1, p.2.2.2.2.2.1, p.2.2.2.2.2.2.1, p.2.2.2.2.2.2.2.1, p.2.2.2.2.2.2.2.2.1, p.2.2.2.2.2.2.2.2.2⟩ : S54)) (fun _ => rfl) Tryd.underlying54 (OpensFs.cons ((opens_int Tryd.underlying3) n) rfl (by kernel_rfl) (OpensFs.cons ((opens_int Tryd.underlying3) n) rfl (by kernel_rfl) (OpensFs.cons ((opens_int Tryd.underlying3) n) rfl (by kernel_rfl) (OpensFs.cons ((opens_int Tryd.underlying3) n) rfl (by kernel_rfl) (OpensFs.cons ((opens_int Tryd.underlying3) n) rfl (by kernel_rfl) (OpensFs.cons ((opens_int Tryd.underlying3) n) rfl (by kernel_rfl) (OpensFs.cons ((opens_string Tryd.underlying9) n) rfl (by kernel_rfl) (OpensFs.cons ((opens_string Tryd.underlying9) n) rfl (by kernel_rfl) (OpensFs.cons ((Opens.slice opens62 Tryd.underlying51 (by kernel_rfl) (by kernel_rfl)) n) rfl (by kernel_rfl) (OpensFs.last ((opens_int Tryd.underlying52) n) rfl (by kernel_rfl) (by kernel_rfl)))))))))))).imp (fun a h => h)
def ok33 (x : S33) : Prop := True ∧ (True ∧ (True ∧ (ok26 x.f3 ∧ (True ∧ ((x.f5.length * 80 ≤ 140737488351232 ∧ ∀ y ∈ x.f5, ok57 y) ∧ ((x.f6.length * 112 ≤ 140737488351232 ∧ ∀ y ∈ x.f6, ok54 y) ∧ (True ∧ (True))))))))
theorem opens33 : Opens Tryd.prog 33 k33 ok33
  | 0 => OpensN.zero
  | n + 1 => (OpensN.struct (g := fun p => (⟨p.1, p.2.1, p.2.2.1, p.2.2.2.1, p.2.2.2.2.1, p.2.2.2.2.2.1, p.2.2.2.2.2.2.1, p.2.2.2.2.2.2.2.1, p.2.2.2.2.2.2.2.2⟩ : S33)) (fun _ => rfl) Tryd.underlying33 (OpensFs.cons ((opens_opq Tryd.underlying22) n) rfl (by kernel_rfl) (OpensFs.cons ((opens_opq Tryd.underlying23) n) rfl (by kernel_rfl) (OpensFs.cons ((opens_opq Tryd.underlying24) n) rfl (by kernel_rfl) (OpensFs.cons (opens26 n) rfl (by kernel_rfl) (OpensFs.cons ((opens_opq Tryd.underlying27) n) rfl (by kernel_rfl) (OpensFs.cons ((Opens.slice opens57 Tryd.underlying28 (by kernel_rfl) (by kernel_rfl)) n) rfl (by kernel_rfl) (OpensFs.cons ((Opens.slice opens54 Tryd.underlying29 (by kernel_rfl) (by kernel_rfl)) n) rfl (by kernel_rfl) (OpensFs.cons ((opens_opq Tryd.underlying30) n) rfl (by kernel_rfl) (OpensFs.last ((opens_opq Tryd.underlying31) n) rfl (by kernel_rfl) (by kernel_rfl))))))))))).imp (fun a h => h)
def ok35 (x : S35) : Prop := (Lit.int .i64 x.f0).wf = true ∧ ((Lit.int .i64 x.f1).wf = true ∧ ((Lit.int .i64 x.f2).wf = true ∧ ((Lit.int .i64 x.f3).wf = true)))
theorem opens35 : Opens Tryd.prog 35 k35 ok35
  | 0 => OpensN.zero
  | n + 1 => (OpensN.struct (g := fun p => (⟨p.1, p.2.1, p.2.2.1, p.2.2.2⟩ : S35)) (fun _ => rfl) Tryd.underlying35 (OpensFs.cons ((opens_int Tryd.underlying3) n) rfl (by kernel_rfl) (OpensFs.cons ((opens_int Tryd.underlying3) n) rfl (by kernel_rfl) (OpensFs.cons ((opens_int Tryd.underlying3) n) rfl (by kernel_rfl) (OpensFs.last ((opens_int Tryd.underlying3) n) rfl (by kernel_rfl) (by kernel_rfl)))))).imp (fun a h => h)
def ok66 (x : S66) : Prop := (Lit.int .i64 x.f0).wf = true ∧ ((Lit.int .i64 x.f1).wf = true ∧ ((Lit.int .i64 x.f2).wf = true ∧ (x.f3.size ≤ 140737488351232)))
theorem opens66 : Opens Tryd.prog 66 k66 ok66
  | 0 => OpensN.zero
  | n + 1 => (OpensN.struct (g := fun p => (⟨p.1, p.2.1, p.2.2.1, p.2.2.2⟩ : S66)) (fun _ => rfl) Tryd.underlying66 (OpensFs.cons ((opens_int Tryd.underlying3) n) rfl (by kernel_rfl) (OpensFs.cons ((opens_int Tryd.underlying3) n) rfl (by kernel_rfl) (OpensFs.cons ((opens_int Tryd.underlying3) n) rfl (by kernel_rfl) (OpensFs.last ((opens_string Tryd.underlying9) n) rfl (by kernel_rfl) (by kernel_rfl)))))).imp (fun a h => h)
def ok40 (x : S40) : Prop := (Lit.int .i64 x.f0).wf = true ∧ ((Lit.int .i64 x.f1).wf = true ∧ ((Lit.int .i64 x.f2).wf = true ∧ ((Lit.int .i64 x.f3).wf = true ∧ ((Lit.int .i64 x.f4).wf = true ∧ ((Lit.int .i64 x.f5).wf = true ∧ ((x.f6.length * 40 ≤ 140737488351232 ∧ ∀ y ∈ x.f6, ok66 y)))))))
theorem opens40 : Opens Tryd.prog 40 k40 ok40
  | 0 => OpensN.zero
  | n + 1 => (OpensN.struct (g := fun p => (⟨p.1, p.2.1, p.2.2.1, p.2.2.2.1, p.2.2.2.2.1, p.2.2.2.2.2.1, p.2.2.2.2.2.2⟩ : S40)) (fun _ => rfl) Tryd.underlying40 (OpensFs.cons ((opens_int Tryd.underlying3) n) rfl (by kernel_rfl) (OpensFs.cons ((opens_int Tryd.underlying3) n) rfl (by kernel_rfl) (OpensFs.cons ((opens_int Tryd.underlying3) n) rfl (by kernel_rfl) (OpensFs.cons ((opens_int Tryd.underlying3) n) rfl (by kernel_rfl) (OpensFs.cons ((opens_int Tryd.underlying3) n) rfl (by kernel_rfl) (OpensFs.cons ((opens_int Tryd.underlying3) n) rfl (by kernel_rfl) (OpensFs.last ((Opens.slice opens66 Tryd.underlying38 (by kernel_rfl) (by kernel_rfl)) n) rfl (by kernel_rfl) (by kernel_rfl))))))))).imp (fun a h => h)
end Go.Proofs.YtimjodgnlahclaaDoor.G
