/- The pure statement of the law klaxonlaw03.PageNil: the walk has shown it whole. -/
import Derived.Test.YtndeagphchnokaaSPageNil
namespace Go.Proofs.Ytndeagphchnokaa.Pure
open Go.RowKit Go.Proofs.YtndeagphchnokaaW.PrintWords Go.Proofs.Ytndeagphchnokaa.PPage
theorem PageNil : klaxonlaw03_PageNil.PureS := fun _ _ _ _ _ _ => rfl
end Go.Proofs.Ytndeagphchnokaa.Pure
