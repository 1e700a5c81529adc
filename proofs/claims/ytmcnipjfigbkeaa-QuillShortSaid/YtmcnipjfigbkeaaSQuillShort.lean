-- Written by a program of this session (wip/myprint.py), which drives the kit's print; read and checked by Lean alone.
import Derived.Test.YtmcnipjfigbkeaaKOpen
import Derived.Test.YtmcnipjfigbkeaaPQuillx5
namespace Go.Proofs.Ytmcnipjfigbkeaa.PQuill
open Go.RowKit Go.Proofs.YtmcnipjfigbkeaaW.PrintWords Go.Proofs.YtmcnipjfigbkeaaW.PrintLast Go.Proofs.YtmcnipjfigbkeaaK
set_option linter.unusedVariables false
/-- THE PURE STATEMENT of klaxon/klaxonlaw01.QuillShort. -/
def klaxonlaw01_QuillShort.PureS : Prop := ∀ (y0 : Int) (y1 : ByteArray) (y2 : Int), (Lit.int .u64 y0).wf = true → y1.size ≤ 140737488351232 → (Lit.int .i64 y2).wf = true → ∃ k, klaxonlaw01_QuillShort.f k y0 y1 y2 = some true
end Go.Proofs.Ytmcnipjfigbkeaa.PQuill
