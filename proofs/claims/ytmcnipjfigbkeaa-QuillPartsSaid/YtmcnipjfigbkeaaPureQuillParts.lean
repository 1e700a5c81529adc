/- The pure statement of the law klaxonlaw01.QuillParts: the walk has shown it whole for bytes. -/
import Derived.Test.YtmcnipjfigbkeaaSQuillParts
namespace Go.Proofs.Ytmcnipjfigbkeaa.Pure
open Go.RowKit Go.Proofs.YtmcnipjfigbkeaaW.PrintWords Go.Proofs.Ytmcnipjfigbkeaa.PQuill
theorem wf_u8 {y : Int} (h : (Lit.int .u8 y).wf = true) : 0 ≤ y ∧ y < 256 := by
  simp [Lit.wf, IntKind.min, IntKind.max, IntKind.bits, IntKind.signed] at h; omega
theorem QuillParts : klaxonlaw01_QuillParts.PureS := by
  intro y0 y1 y2 y3 h0 _ _ h3
  unfold klaxonlaw01_QuillParts.f
  rw [if_pos]
  exact ⟨Go.Crc.bytesB_of (fun x hx => wf_u8 (h0.2 x hx)), (wf_u8 h3).1, (wf_u8 h3).2⟩
end Go.Proofs.Ytmcnipjfigbkeaa.Pure
