-- Written by a program of this session (wip/myprint.py), which drives the kit's print; read and checked by Lean alone.
import Derived.Test.YteimienhaodfcaaKOpen
import Derived.Test.YteimienhaodfcaaPDiskx7
namespace Go.Proofs.Yteimienhaodfcaa.PDisk
open Go.RowKit Go.Proofs.YteimienhaodfcaaW.PrintWords Go.Proofs.YteimienhaodfcaaW.PrintLast Go.Proofs.YteimienhaodfcaaK
set_option linter.unusedVariables false
/-- THE PURE STATEMENT of klaxon/klaxonlaw02.DiskArms. -/
def klaxonlaw02_DiskArms.PureS : Prop := ∀ (y0 : Int) (y1 : Int), (Lit.int .i64 y0).wf = true → (Lit.int .i64 y1).wf = true → klaxonlaw02_DiskArms.f y0 y1 = some true
end Go.Proofs.Yteimienhaodfcaa.PDisk
