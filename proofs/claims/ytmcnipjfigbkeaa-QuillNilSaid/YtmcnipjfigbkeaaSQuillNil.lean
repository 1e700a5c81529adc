-- Written by a program of this session (wip/myprint.py), which drives the kit's print; read and checked by Lean alone.
import Derived.Test.YtmcnipjfigbkeaaKOpen
import Derived.Test.YtmcnipjfigbkeaaPQuillx5
namespace Go.Proofs.Ytmcnipjfigbkeaa.PQuill
open Go.RowKit Go.Proofs.YtmcnipjfigbkeaaW.PrintWords Go.Proofs.YtmcnipjfigbkeaaW.PrintLast Go.Proofs.YtmcnipjfigbkeaaK
set_option linter.unusedVariables false
/-- THE PURE STATEMENT of klaxon/klaxonlaw01.QuillNil. -/
def klaxonlaw01_QuillNil.PureS : Prop := ∀ (y0 : Int), (Lit.int .i64 y0).wf = true → klaxonlaw01_QuillNil.f y0 = some true
end Go.Proofs.Ytmcnipjfigbkeaa.PQuill
