-- Written by a program of this session (wip/myprint.py), which drives the kit's print; read and checked by Lean alone.
import Derived.Test.YtmcnipjfigbkeaaKOpen
import Derived.Test.YtmcnipjfigbkeaaPStatex10
namespace Go.Proofs.Ytmcnipjfigbkeaa.PState
open Go.RowKit Go.Proofs.YtmcnipjfigbkeaaW.PrintWords Go.Proofs.YtmcnipjfigbkeaaW.PrintLast Go.Proofs.YtmcnipjfigbkeaaK
set_option linter.unusedVariables false
def SZ27 (y : S27) : Prop := ((Lit.int .i64 y.f0).wf = true) ∧ (((Lit.int .i64 y.f1).wf = true) ∧ (((Lit.int .i64 y.f2).wf = true) ∧ ((Lit.int .i64 y.f3).wf = true)))
theorem opens_T27 : Opens Try.prog k27 SZ27 27 :=
  (opens_struct (fun x : S27 => (x.f0, x.f1, x.f2, x.f3)) (fun x => ⟨x.1, x.2.1, x.2.2.1, x.2.2.2⟩) (fun _ => rfl) (opensL_cons 2 0 1 (opens_int Try.underlying2 (by kernel_rfl)) rfl (opensL_cons 2 1 2 (opens_int Try.underlying2 (by kernel_rfl)) rfl (opensL_cons 3 2 3 (opens_int Try.underlying3 (by kernel_rfl)) rfl (opensL_one 3 3 (opens_int Try.underlying3 (by kernel_rfl)))))) Try.underlying27 (by kernel_rfl) rfl).as (fun _ h => h)
/-- THE PURE STATEMENT of klaxon/klaxonlaw17.StateHold. -/
def klaxonlaw17_StateHold.PureS : Prop := ∀ (y0 : S27) (y1 : Int) (y2 : List Int) (y3 : Int), SZ27 y0 → (Lit.int .i64 y1).wf = true → (y2.length * 8 ≤ 140737488351232 ∧ ∀ y ∈ y2, (Lit.int .i64 y).wf = true) → (Lit.int .i64 y3).wf = true → ∃ k, klaxonlaw17_StateHold.f k y0.f0 y0.f1 y0.f2 y0.f3 y1 y2 y3 = some true
end Go.Proofs.Ytmcnipjfigbkeaa.PState
