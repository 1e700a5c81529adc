-- Written by a program of this session (wip/myprint.py), which drives the kit's print; read and checked by Lean alone.
import Derived.Test.YtndeagphchnokaaKOpen
import Derived.Test.YtndeagphchnokaaPPagex3
namespace Go.Proofs.Ytndeagphchnokaa.PPage
open Go.RowKit Go.Proofs.YtndeagphchnokaaW.PrintWords Go.Proofs.YtndeagphchnokaaW.PrintLast Go.Proofs.YtndeagphchnokaaK
set_option linter.unusedVariables false
/-- THE PURE STATEMENT of klaxon/klaxonlaw03.PageRooms. -/
def klaxonlaw03_PageRooms.PureS : Prop := ∀ (y0 : Int) (y1 : Int), (Lit.int .i64 y0).wf = true → (Lit.int .i64 y1).wf = true → ∃ k, klaxonlaw03_PageRooms.f k y0 y1 = some true
end Go.Proofs.Ytndeagphchnokaa.PPage
