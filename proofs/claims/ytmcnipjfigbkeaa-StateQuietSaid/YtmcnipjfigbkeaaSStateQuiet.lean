-- Written by a program of this session (wip/myprint.py), which drives the kit's print; read and checked by Lean alone.
import Derived.Test.YtmcnipjfigbkeaaKOpen
import Derived.Test.YtmcnipjfigbkeaaPStatex11
namespace Go.Proofs.Ytmcnipjfigbkeaa.PState
open Go.RowKit Go.Proofs.YtmcnipjfigbkeaaW.PrintWords Go.Proofs.YtmcnipjfigbkeaaW.PrintLast Go.Proofs.YtmcnipjfigbkeaaK
set_option linter.unusedVariables false
/-- THE PURE STATEMENT of klaxon/klaxonlaw17.StateQuiet. -/
def klaxonlaw17_StateQuiet.PureS : Prop := ∀ (y0 : Int) (y1 : Int) (y2 : List Int) (y3 : Int), (Lit.int .i64 y0).wf = true → (Lit.int .i64 y1).wf = true → (y2.length * 8 ≤ 140737488351232 ∧ ∀ y ∈ y2, (Lit.int .i64 y).wf = true) → (Lit.int .i64 y3).wf = true → ∃ k, klaxonlaw17_StateQuiet.f k y0 y1 y2 y3 = some true
end Go.Proofs.Ytmcnipjfigbkeaa.PState
