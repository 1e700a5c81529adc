/- The pure statement of the law klaxonlaw04.MetaNil: the walk has shown it whole. -/
import Derived.Test.YteimienhaodfcaaSMetaNil
namespace Go.Proofs.Yteimienhaodfcaa.Pure
open Go.RowKit Go.Proofs.YteimienhaodfcaaW.PrintWords Go.Proofs.Yteimienhaodfcaa.PMeta
theorem MetaNil : klaxonlaw04_MetaNil.PureS := fun _ _ _ _ => rfl
end Go.Proofs.Yteimienhaodfcaa.Pure
