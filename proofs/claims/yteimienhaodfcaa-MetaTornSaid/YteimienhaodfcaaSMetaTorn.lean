-- Written by a program of this session (wip/myprint.py), which drives the kit's print; read and checked by Lean alone.
import Derived.Test.YteimienhaodfcaaKOpen
import Derived.Test.YteimienhaodfcaaPMetax4
namespace Go.Proofs.Yteimienhaodfcaa.PMeta
open Go.RowKit Go.Proofs.YteimienhaodfcaaW.PrintWords Go.Proofs.YteimienhaodfcaaW.PrintLast Go.Proofs.YteimienhaodfcaaK
set_option linter.unusedVariables false
def SZ52 (y : S52) : Prop := ((Lit.int .u64 y.f0).wf = true) ∧ (((Lit.int .i64 y.f1).wf = true) ∧ (((Lit.int .i64 y.f2).wf = true) ∧ ((Lit.int .i64 y.f3).wf = true)))
theorem opens_T52 : Opens Try.prog k52 SZ52 52 :=
  (opens_struct (fun x : S52 => (x.f0, x.f1, x.f2, x.f3)) (fun x => ⟨x.1, x.2.1, x.2.2.1, x.2.2.2⟩) (fun _ => rfl) (opensL_cons 50 0 1 (opens_int Try.underlying50 (by kernel_rfl)) rfl (opensL_cons 3 1 2 (opens_int Try.underlying3 (by kernel_rfl)) rfl (opensL_cons 3 2 3 (opens_int Try.underlying3 (by kernel_rfl)) rfl (opensL_one 3 3 (opens_int Try.underlying3 (by kernel_rfl)))))) Try.underlying52 (by kernel_rfl) rfl).as (fun _ h => h)
/-- THE PURE STATEMENT of klaxon/klaxonlaw04.MetaTorn. -/
def klaxonlaw04_MetaTorn.PureS : Prop := ∀ (y0 : Int) (y1 : S52) (y2 : S52) (y3 : Int) (y4 : Bool), (Lit.int .u64 y0).wf = true → SZ52 y1 → SZ52 y2 → (Lit.int .i64 y3).wf = true → klaxonlaw04_MetaTorn.f y0 y1.f0 y1.f1 y1.f2 y1.f3 y2.f0 y2.f1 y2.f2 y2.f3 y3 y4 = some true
end Go.Proofs.Yteimienhaodfcaa.PMeta
