/- The pure statement of the law klaxonlaw04.MetaTorn: the walk has shown it whole. -/
import Derived.Test.YteimienhaodfcaaSMetaTorn
namespace Go.Proofs.Yteimienhaodfcaa.Pure
open Go.RowKit Go.Proofs.YteimienhaodfcaaW.PrintWords Go.Proofs.Yteimienhaodfcaa.PMeta
theorem MetaTorn : klaxonlaw04_MetaTorn.PureS := by unfold klaxonlaw04_MetaTorn.PureS; intros; rfl
end Go.Proofs.Yteimienhaodfcaa.Pure
