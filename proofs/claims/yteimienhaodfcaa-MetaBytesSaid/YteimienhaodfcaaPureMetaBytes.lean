/- The pure statement of the law klaxonlaw04.MetaBytes: the walk has shown it whole. -/
import Derived.Test.YteimienhaodfcaaSMetaBytes
namespace Go.Proofs.Yteimienhaodfcaa.Pure
open Go.RowKit Go.Proofs.YteimienhaodfcaaW.PrintWords Go.Proofs.Yteimienhaodfcaa.PMeta
theorem wfb_u8 {y : Int} (h : (Lit.int .u8 y).wf = true) : 0 ≤ y ∧ y < 256 := by
  simp [Lit.wf, IntKind.min, IntKind.max, IntKind.bits, IntKind.signed] at h; omega
theorem wfb_u64 {y : Int} (h : (Lit.int .u64 y).wf = true) : 0 ≤ y ∧ y < 18446744073709551616 := by
  simp [Lit.wf, IntKind.min, IntKind.max, IntKind.bits, IntKind.signed] at h; omega
theorem MetaBytes : klaxonlaw04_MetaBytes.PureS := by
  rintro ⟨s, r, k, d⟩ y1 h0 h1
  obtain ⟨hs, _⟩ := h0
  unfold klaxonlaw04_MetaBytes.f
  rw [if_pos]
  exact ⟨wfb_u64 hs, Go.Crc.bytesB_of (fun x hx => wfb_u8 (h1.2 x hx))⟩
end Go.Proofs.Yteimienhaodfcaa.Pure
