-- Written by a program of this session (wip/myprint.py), which drives the kit's print; read and checked by Lean alone.
import Derived.Test.YtmcnipjfigbkeaaKOpen
import Derived.Test.YtmcnipjfigbkeaaPQuillx2
namespace Go.Proofs.Ytmcnipjfigbkeaa.PQuill
open Go.RowKit Go.Proofs.YtmcnipjfigbkeaaW.PrintWords Go.Proofs.YtmcnipjfigbkeaaW.PrintLast Go.Proofs.YtmcnipjfigbkeaaK
set_option linter.unusedVariables false
/-- THE PURE STATEMENT of klaxon/klaxonlaw01.QuillParts. -/
def klaxonlaw01_QuillParts.PureS : Prop := ∀ (y0 : List Int) (y1 : Int) (y2 : Int) (y3 : Int), (y0.length * 1 ≤ 140737488351232 ∧ ∀ y ∈ y0, (Lit.int .u8 y).wf = true) → (Lit.int .i64 y1).wf = true → (Lit.int .i64 y2).wf = true → (Lit.int .u8 y3).wf = true → klaxonlaw01_QuillParts.f y0 y1 y2 y3 = some true
end Go.Proofs.Ytmcnipjfigbkeaa.PQuill
