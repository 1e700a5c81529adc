/- Acts of law 4, opened. -/
import Derived.Test.YteimienhaodfcaaKMetaS2
import Derived.Test.YteimienhaodfcaaKOpen
import Derived.Test.YteimienhaodfcaaKMetaP
import Derived.Test.YteimienhaodfcaaKMetaT
import Derived.Test.YteimienhaodfcaaKFlow
import Derived.Test.YteimienhaodfcaaKClone
import Derived.Deep.QuietTactic
import Derived.BigQuiet
import Derived.Deep.RegionHeld3
import Derived.Lib.AppendZerosOnto
import Derived.Lib.SliceRun
import Derived.Lib.Walk
namespace Go.Proofs.YteimienhaodfcaaK
open Go.RowKit Go.Proofs.YteimienhaodfcaaW.PrintWords Go.Proofs.YteimienhaodfcaaW.PrintLast Go.Proofs.YteimienhaodfcaaW.PrintMore Go.Crc
open Go.ChangeMaps (setBlock)
attribute [local go_sem] max2_int min2_int max_two min_two
set_option linter.unusedVariables false
set_option linter.unusedSimpArgs false
variable {w w' : World} {X X' S : Nat → Prop} {d sb mb clock : Nat} {es : Array MapEntry} {safe : List Int} {D : Dk}
theorem wf_i64_ {y : Int} (h : (Lit.int .i64 y).wf = true) : -9223372036854775808 ≤ y ∧ y ≤ 9223372036854775807 := by
  simp [Lit.wf, IntKind.min, IntKind.max, IntKind.bits, IntKind.signed] at h; omega
def W64 (k : IntKind) (x : Int) : Prop := (Lit.int k x).wf = true
theorem opens_KT : Opens Try.prog (Kd.iso KT id) (fun t => (Lit.int .i64 t.1).wf = true ∧ (Lit.int .i64 t.2).wf = true) 44 :=
  (opens_struct id id (fun _ => rfl) (opensL_cons 3 0 1 (opens_int Try.underlying3 (by kernel_rfl)) rfl (opensL_one 3 1 (opens_int Try.underlying3 (by kernel_rfl)))) Try.underlying44 (by kernel_rfl) rfl).as (fun _ h => h)
theorem opens_M4 : Opens Try.prog KM4 (fun m => (Lit.int .u64 m.1).wf = true ∧ (Lit.int .i64 m.2.1).wf = true ∧ (Lit.int .i64 m.2.2.1).wf = true ∧ (Lit.int .i64 m.2.2.2).wf = true) 52 :=
  (opens_struct id id (fun _ => rfl) (opensL_cons 50 0 1 (opens_int Try.underlying50 (by kernel_rfl)) rfl (opensL_cons 3 1 2 (opens_int Try.underlying3 (by kernel_rfl)) rfl (opensL_cons 3 2 3 (opens_int Try.underlying3 (by kernel_rfl)) rfl (opensL_one 3 3 (opens_int Try.underlying3 (by kernel_rfl)))))) Try.underlying52 (by kernel_rfl) rfl).as (fun _ h => h)
theorem opens_A4 : Opens Try.prog KA4 (fun a => (Lit.int .i64 a.2.2.1).wf = true ∧ ∀ t ∈ a.2.2.2.2.2, (Lit.int .i64 t.2).wf = true) 71 := by
  have h0 := opens_struct (id : A4 → A4) id (fun _ => rfl) (opensL_cons 3 0 1 (opens_int Try.underlying3 (by kernel_rfl)) rfl (opensL_cons 52 1 5 opens_M4 rfl (opensL_cons 3 5 6 (opens_int Try.underlying3 (by kernel_rfl)) rfl
    (opensL_cons 33 6 7 (opens_slice (B := 1) Try.underlying33 (by kernel_rfl) (by kernel_rfl) (opens_int Try.underlying5 (by kernel_rfl))) rfl (opensL_cons 23 7 8 (opens_slice (B := 8) Try.underlying23 (by kernel_rfl) (by kernel_rfl) (opens_int Try.underlying3 (by kernel_rfl))) rfl
      (opensL_one 24 8 (opens_slice (B := 16) Try.underlying24 (by kernel_rfl) (by kernel_rfl) opens_KT))))))) Try.underlying71 (by kernel_rfl) rfl
  exact h0.as (fun y h => ⟨h.2.2.1, fun t ht => (h.2.2.2.2.2.2 t ht).2⟩)
theorem switches_row (l : List A4) (A : Option Addr) (c : Nat) (W : World) (hr : Kd.C KA4 W A l.length l) (wf : ∀ a ∈ l, (Lit.int .i64 a.2.2.1).wf = true ∧ ∀ t ∈ a.2.2.2.2.2, (Lit.int .i64 t.2).wf = true) :
    Calls Try.prog 12 #[.slice A l.length c] W fun e w' => e = .returned (.bool true) ∧ Below W.heap.size W w' :=
  switches_good A c l W hr (fun a ha => wf_i64_ (wf a ha).1) (fun a ha t ht => wf_i64_ ((wf a ha).2 t ht))
end Go.Proofs.YteimienhaodfcaaK
