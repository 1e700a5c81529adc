-- Written by a program of this session (wip/myprint.py), which drives the kit's print; read and checked by Lean alone.
import Derived.Test.YtndeagphchnokaaKOpen
import Derived.Test.YtndeagphchnokaaPBytesx3
namespace Go.Proofs.Ytndeagphchnokaa.PBytes
open Go.RowKit Go.Proofs.YtndeagphchnokaaW.PrintWords Go.Proofs.YtndeagphchnokaaW.PrintLast Go.Proofs.YtndeagphchnokaaK
set_option linter.unusedVariables false
def SZ25 (y : S25) : Prop := ((Lit.int .u8 y.f0).wf = true) ∧ (((Lit.int .u32 y.f1).wf = true) ∧ ((y.f2.length * 1 ≤ 140737488351232 ∧ ∀ q4 ∈ y.f2, (Lit.int .u8 q4).wf = true)))
theorem opens_T25 : Opens Try.prog k25 SZ25 25 :=
  (opens_struct (fun x : S25 => (x.f0, x.f1, x.f2)) (fun x => ⟨x.1, x.2.1, x.2.2⟩) (fun _ => rfl) (opensL_cons 5 0 1 (opens_int Try.underlying5 (by kernel_rfl)) rfl (opensL_cons 22 1 2 (opens_int Try.underlying22 (by kernel_rfl)) rfl (opensL_one 23 2 (opens_slice Try.underlying23 (by kernel_rfl) (by kernel_rfl) (opens_int Try.underlying5 (by kernel_rfl)))))) Try.underlying25 (by kernel_rfl) rfl).as (fun _ h => h)
/-- THE PURE STATEMENT of klaxon/klaxonlaw03.PageBytes. -/
def klaxonlaw03_PageBytes.PureS : Prop := ∀ (y0 : Int) (y1 : S25) (y2 : List Int), (Lit.int .i64 y0).wf = true → SZ25 y1 → (y2.length * 1 ≤ 140737488351232 ∧ ∀ y ∈ y2, (Lit.int .u8 y).wf = true) → klaxonlaw03_PageBytes.f y0 y1.f0 y1.f1 y1.f2 y2 = some true
end Go.Proofs.Ytndeagphchnokaa.PBytes
