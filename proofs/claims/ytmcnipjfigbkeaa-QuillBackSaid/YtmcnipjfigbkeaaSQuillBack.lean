-- Written by a program of this session (wip/myprint.py), which drives the kit's print; read and checked by Lean alone.
import Derived.Test.YtmcnipjfigbkeaaKOpen
import Derived.Test.YtmcnipjfigbkeaaPQuillx4
namespace Go.Proofs.Ytmcnipjfigbkeaa.PQuill
open Go.RowKit Go.Proofs.YtmcnipjfigbkeaaW.PrintWords Go.Proofs.YtmcnipjfigbkeaaW.PrintLast Go.Proofs.YtmcnipjfigbkeaaK
set_option linter.unusedVariables false
/-- THE PURE STATEMENT of klaxon/klaxonlaw01.QuillBack. -/
def klaxonlaw01_QuillBack.PureS : Prop := ∀ (y0 : List Int) (y1 : List Int) (y2 : List ByteArray), (y0.length * 8 ≤ 140737488351232 ∧ ∀ y ∈ y0, (Lit.int .u64 y).wf = true) → (y1.length * 8 ≤ 140737488351232 ∧ ∀ y ∈ y1, (Lit.int .i64 y).wf = true) → (y2.length * 16 ≤ 140737488351232 ∧ ∀ y ∈ y2, y.size ≤ 140737488351232) → ∃ k, klaxonlaw01_QuillBack.f k y0 y1 y2 = some true
end Go.Proofs.Ytmcnipjfigbkeaa.PQuill
