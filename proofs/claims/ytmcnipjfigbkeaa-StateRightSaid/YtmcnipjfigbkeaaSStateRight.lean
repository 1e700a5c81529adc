-- Written by a program of this session (wip/myprint.py), which drives the kit's print; read and checked by Lean alone.
import Derived.Test.YtmcnipjfigbkeaaKOpen
import Derived.Test.YtmcnipjfigbkeaaPRightx6
namespace Go.Proofs.Ytmcnipjfigbkeaa.PRight
open Go.RowKit Go.Proofs.YtmcnipjfigbkeaaW.PrintWords Go.Proofs.YtmcnipjfigbkeaaW.PrintLast Go.Proofs.YtmcnipjfigbkeaaK
set_option linter.unusedVariables false
def SZ23 (y : S23) : Prop := ((Lit.int .i64 y.f0).wf = true) ∧ ((Lit.int .i64 y.f1).wf = true)
theorem opens_T23 : Opens Try.prog k23 SZ23 23 :=
  (opens_struct (fun x : S23 => (x.f0, x.f1)) (fun x => ⟨x.1, x.2⟩) (fun _ => rfl) (opensL_cons 3 0 1 (opens_int Try.underlying3 (by kernel_rfl)) rfl (opensL_one 2 1 (opens_int Try.underlying2 (by kernel_rfl)))) Try.underlying23 (by kernel_rfl) rfl).as (fun _ h => h)
def SZ25 (y : S25) : Prop := ((Lit.int .i64 y.f0).wf = true) ∧ (((Lit.int .i64 y.f1).wf = true) ∧ (((Lit.int .i64 y.f2).wf = true) ∧ (((Lit.int .i64 y.f3).wf = true) ∧ (((Lit.int .i64 y.f4).wf = true) ∧ (SZ23 y.f5)))))
theorem opens_T25 : Opens Try.prog k25 SZ25 25 :=
  (opens_struct (fun x : S25 => (x.f0, x.f1, x.f2, x.f3, x.f4, x.f5)) (fun x => ⟨x.1, x.2.1, x.2.2.1, x.2.2.2.1, x.2.2.2.2.1, x.2.2.2.2.2⟩) (fun _ => rfl) (opensL_cons 3 0 1 (opens_int Try.underlying3 (by kernel_rfl)) rfl (opensL_cons 2 1 2 (opens_int Try.underlying2 (by kernel_rfl)) rfl (opensL_cons 2 2 3 (opens_int Try.underlying2 (by kernel_rfl)) rfl (opensL_cons 2 3 4 (opens_int Try.underlying2 (by kernel_rfl)) rfl (opensL_cons 2 4 5 (opens_int Try.underlying2 (by kernel_rfl)) rfl (opensL_one 23 5 opens_T23)))))) Try.underlying25 (by kernel_rfl) rfl).as (fun _ h => h)
def SZ27 (y : S27) : Prop := ((Lit.int .i64 y.f0).wf = true) ∧ (((Lit.int .i64 y.f1).wf = true) ∧ (((Lit.int .i64 y.f2).wf = true) ∧ ((Lit.int .i64 y.f3).wf = true)))
theorem opens_T27 : Opens Try.prog k27 SZ27 27 :=
  (opens_struct (fun x : S27 => (x.f0, x.f1, x.f2, x.f3)) (fun x => ⟨x.1, x.2.1, x.2.2.1, x.2.2.2⟩) (fun _ => rfl) (opensL_cons 2 0 1 (opens_int Try.underlying2 (by kernel_rfl)) rfl (opensL_cons 2 1 2 (opens_int Try.underlying2 (by kernel_rfl)) rfl (opensL_cons 3 2 3 (opens_int Try.underlying3 (by kernel_rfl)) rfl (opensL_one 3 3 (opens_int Try.underlying3 (by kernel_rfl)))))) Try.underlying27 (by kernel_rfl) rfl).as (fun _ h => h)
def SZ37 (y : S37) : Prop := ((Lit.int .i64 y.f0).wf = true) ∧ (((Lit.int .i64 y.f1).wf = true) ∧ (SZ23 y.f2))
theorem opens_T37 : Opens Try.prog k37 SZ37 37 :=
  (opens_struct (fun x : S37 => (x.f0, x.f1, x.f2)) (fun x => ⟨x.1, x.2.1, x.2.2⟩) (fun _ => rfl) (opensL_cons 2 0 1 (opens_int Try.underlying2 (by kernel_rfl)) rfl (opensL_cons 3 1 2 (opens_int Try.underlying3 (by kernel_rfl)) rfl (opensL_one 23 2 opens_T23))) Try.underlying37 (by kernel_rfl) rfl).as (fun _ h => h)
/-- THE PURE STATEMENT of klaxon/klaxonlaw17.StateRight. -/
def klaxonlaw17_StateRight.PureS : Prop := ∀ (y0 : S25) (y1 : S27) (y2 : List (S37)), SZ25 y0 → SZ27 y1 → (y2.length * 32 ≤ 140737488351232 ∧ ∀ y ∈ y2, SZ37 y) → klaxonlaw17_StateRight.f y0.f0 y0.f1 y0.f2 y0.f3 y0.f4 y0.f5.f0 y0.f5.f1 y1.f0 y1.f1 y1.f2 y1.f3 y2 = some true
end Go.Proofs.Ytmcnipjfigbkeaa.PRight
