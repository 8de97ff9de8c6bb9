/-
  THE TYPES OF THE LAWS' PARAMETERS: what reads as data is of the printed texts' kinds, with these bounds.
-/
import Derived.Test.YtgpiglejdacelaaDoorGx0
import Derived.Test.YtgpiglejdacelaaDoorOpen
namespace Go.Proofs.YtgpiglejdacelaaDoor.G
open Go.RowKit Go.Proofs.YtgpiglejdacelaaDoorW.PrintWords
set_option linter.unusedVariables false
def ok32 (x : S32) : Prop := True ∧ ((Lit.int .i64 x.f1).wf = true ∧ ((Lit.int .i64 x.f2).wf = true ∧ ((Lit.int .i64 x.f3).wf = true)))
theorem opens32 : Opens Tryd.prog 32 k32 ok32
  | 0 => OpensN.zero
  | n + 1 => (OpensN.struct (g := fun p => (⟨p.1, p.2.1, p.2.2.1, p.2.2.2⟩ : S32)) (fun _ => rfl) Tryd.underlying32 (OpensFs.cons ((opens_bool Tryd.underlying4) n) rfl (by kernel_rfl) (OpensFs.cons ((opens_int Tryd.underlying3) n) rfl (by kernel_rfl) (OpensFs.cons ((opens_int Tryd.underlying3) n) rfl (by kernel_rfl) (OpensFs.last ((opens_int Tryd.underlying3) n) rfl (by kernel_rfl) (by kernel_rfl)))))).imp (fun a h => h)
end Go.Proofs.YtgpiglejdacelaaDoor.G
