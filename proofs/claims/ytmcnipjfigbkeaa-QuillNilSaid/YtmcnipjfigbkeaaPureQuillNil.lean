/- The pure statement of the law klaxonlaw01.QuillNil: the walk has shown it whole. -/
import Derived.Test.YtmcnipjfigbkeaaSQuillNil
namespace Go.Proofs.Ytmcnipjfigbkeaa.Pure
open Go.RowKit Go.Proofs.YtmcnipjfigbkeaaW.PrintWords Go.Proofs.Ytmcnipjfigbkeaa.PQuill
theorem QuillNil : klaxonlaw01_QuillNil.PureS := fun _ _ => rfl
end Go.Proofs.Ytmcnipjfigbkeaa.Pure
