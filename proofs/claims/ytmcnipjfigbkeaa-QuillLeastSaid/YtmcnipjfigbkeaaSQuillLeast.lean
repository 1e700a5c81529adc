-- Written by a program of this session (wip/myprint.py), which drives the kit's print; read and checked by Lean alone.
import Derived.Test.YtmcnipjfigbkeaaKOpen
import Derived.Test.YtmcnipjfigbkeaaPLeastx2
namespace Go.Proofs.Ytmcnipjfigbkeaa.PLeast
open Go.RowKit Go.Proofs.YtmcnipjfigbkeaaW.PrintWords Go.Proofs.YtmcnipjfigbkeaaW.PrintLast Go.Proofs.YtmcnipjfigbkeaaK
set_option linter.unusedVariables false
/-- THE PURE STATEMENT of klaxon/klaxonlaw01.QuillLeast. -/
def klaxonlaw01_QuillLeast.PureS : Prop := ∀ (y0 : List Int) (y1 : Int) (y2 : Int), (y0.length * 1 ≤ 140737488351232 ∧ ∀ y ∈ y0, (Lit.int .u8 y).wf = true) → (Lit.int .u64 y1).wf = true → (Lit.int .u64 y2).wf = true → klaxonlaw01_QuillLeast.f y0 y1 y2 = some true
end Go.Proofs.Ytmcnipjfigbkeaa.PLeast
