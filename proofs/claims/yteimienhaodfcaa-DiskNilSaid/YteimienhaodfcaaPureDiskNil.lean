/- The pure statement of the law klaxonlaw02.DiskNil: the walk has shown it whole. -/
import Derived.Test.YteimienhaodfcaaSDiskNil
namespace Go.Proofs.Yteimienhaodfcaa.Pure
open Go.RowKit Go.Proofs.YteimienhaodfcaaW.PrintWords Go.Proofs.Yteimienhaodfcaa.PDisk
theorem DiskNil : klaxonlaw02_DiskNil.PureS := by unfold klaxonlaw02_DiskNil.PureS; intros; rfl
end Go.Proofs.Yteimienhaodfcaa.Pure
