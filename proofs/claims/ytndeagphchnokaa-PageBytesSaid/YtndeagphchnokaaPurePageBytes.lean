/- The pure statement of the law klaxonlaw03.PageBytes: the walk has shown it whole. -/
import Derived.Test.YtndeagphchnokaaSPageBytes
namespace Go.Proofs.Ytndeagphchnokaa.Pure
open Go.RowKit Go.Proofs.YtndeagphchnokaaW.PrintWords Go.Proofs.Ytndeagphchnokaa.PBytes
theorem wf_u8 {y : Int} (h : (Lit.int .u8 y).wf = true) : 0 ≤ y ∧ y < 256 := by
  simp [Lit.wf, IntKind.min, IntKind.max, IntKind.bits, IntKind.signed] at h; omega
theorem wf_u32 {y : Int} (h : (Lit.int .u32 y).wf = true) : 0 ≤ y ∧ y < 4294967296 := by
  simp [Lit.wf, IntKind.min, IntKind.max, IntKind.bits, IntKind.signed] at h; omega
theorem wf_i64 {y : Int} (h : (Lit.int .i64 y).wf = true) : -9223372036854775808 ≤ y ∧ y ≤ 9223372036854775807 := by
  simp [Lit.wf, IntKind.min, IntKind.max, IntKind.bits, IntKind.signed] at h; omega
theorem PageBytes : klaxonlaw03_PageBytes.PureS := by
  intro y0 y1 y2 h0 h1 h2
  obtain ⟨k1, i1, L1⟩ := h1
  unfold klaxonlaw03_PageBytes.f
  rw [if_pos]
  exact ⟨wf_u8 k1, wf_u32 i1, Go.Crc.bytesB_of (fun x hx => wf_u8 (L1.2 x hx)), Go.Crc.bytesB_of (fun x hx => wf_u8 (h2.2 x hx)), wf_i64 h0⟩
end Go.Proofs.Ytndeagphchnokaa.Pure
