/- The pure statement of the law klaxonlaw01.QuillLeast: the walk has shown it whole. -/
import Derived.Test.YtmcnipjfigbkeaaSQuillLeast
namespace Go.Proofs.Ytmcnipjfigbkeaa.Pure
open Go.RowKit Go.Proofs.YtmcnipjfigbkeaaW.PrintWords Go.Proofs.Ytmcnipjfigbkeaa.PLeast Go.Proofs.YtmcnipjfigbkeaaK
theorem wf_u8 {y : Int} (h : (Lit.int .u8 y).wf = true) : 0 ≤ y ∧ y < 256 := by
  simp [Lit.wf, IntKind.min, IntKind.max, IntKind.bits, IntKind.signed] at h; omega
theorem wf_u64 {y : Int} (h : (Lit.int .u64 y).wf = true) : 0 ≤ y ∧ y < 18446744073709551616 := by
  simp [Lit.wf, IntKind.min, IntKind.max, IntKind.bits, IntKind.signed] at h; omega
theorem QuillLeast : klaxonlaw01_QuillLeast.PureS := by
  intro y0 y1 y2 h0 h1 h2
  unfold klaxonlaw01_QuillLeast.f
  rw [if_pos]
  exact ⟨List.all_eq_true.mpr (fun x hx => decide_eq_true (wf_u8 (h0.2 x hx))), wf_u64 h1, wf_u64 h2⟩
end Go.Proofs.Ytmcnipjfigbkeaa.Pure
