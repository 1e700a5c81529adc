/- The pure statement of the law klaxonlaw02.DiskArms: the walk has shown it whole. -/
import Derived.Test.YteimienhaodfcaaSDiskArms
namespace Go.Proofs.Yteimienhaodfcaa.Pure
open Go.RowKit Go.Proofs.YteimienhaodfcaaW.PrintWords Go.Proofs.Yteimienhaodfcaa.PDisk
theorem DiskArms : klaxonlaw02_DiskArms.PureS := by unfold klaxonlaw02_DiskArms.PureS; intros; rfl
end Go.Proofs.Yteimienhaodfcaa.Pure
