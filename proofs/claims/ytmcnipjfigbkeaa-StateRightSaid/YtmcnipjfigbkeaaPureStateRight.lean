/- The pure statement of the law klaxonlaw17.StateRight: the walk has shown it whole. -/
import Derived.Test.YtmcnipjfigbkeaaSStateRight
namespace Go.Proofs.Ytmcnipjfigbkeaa.Pure
open Go.RowKit Go.Proofs.YtmcnipjfigbkeaaW.PrintWords Go.Proofs.Ytmcnipjfigbkeaa.PRight
theorem StateRight : klaxonlaw17_StateRight.PureS := by
  intro y0 y1 y2 h0 h1 h2
  rfl
end Go.Proofs.Ytmcnipjfigbkeaa.Pure
