/- DiskSafe: the guards, the arguments. -/
import Derived.Test.YteimienhaodfcaaKLive2
import Derived.Test.YteimienhaodfcaaKDSafe2
import Derived.Test.YteimienhaodfcaaKOpen
import Derived.Test.YteimienhaodfcaaKMetaP
import Derived.Test.YteimienhaodfcaaKMetaT
import Derived.Test.YteimienhaodfcaaKFlow
import Derived.Test.YteimienhaodfcaaKClone
import Derived.Deep.QuietTactic
import Derived.BigQuiet
import Derived.Deep.RegionHeld3
import Derived.Lib.AppendZerosOnto
import Derived.Lib.SliceRun
import Derived.Lib.Walk
namespace Go.Proofs.YteimienhaodfcaaK
open Go.RowKit Go.Proofs.YteimienhaodfcaaW.PrintWords Go.Proofs.YteimienhaodfcaaW.PrintLast Go.Proofs.YteimienhaodfcaaW.PrintMore Go.Crc
open Go.ChangeMaps (setBlock)
attribute [local go_sem] max2_int min2_int max_two min_two
set_option linter.unusedVariables false
set_option linter.unusedSimpArgs false
variable {w w' : World} {X X' S : Nat → Prop} {d sb mb clock : Nat} {es : Array MapEntry} {safe : List Int} {D : Dk}
set_option maxHeartbeats 8000000 in
set_option maxRecDepth 100000 in
theorem safe_bad (P1 P2 P3 P4 : Option Addr) (c1 c2 c3 c4 : Nat) (l more : List A2) (keep : List Int) (torn : List (Int × Int)) (w : World) (hr1 : Kd.C KA2 w P1 l.length l) (hr2 : Kd.C KA2 w P2 more.length more) (hz1 : ∀ a ∈ l, a.2.2.1.length ≤ 140737488351232 ∧ a.2.2.2.1.length ≤ 140737488351232 ∧ a.2.2.2.2.length ≤ 140737488351232) (hz2 : ∀ a ∈ more, a.2.2.1.length ≤ 140737488351232 ∧ a.2.2.2.1.length ≤ 140737488351232 ∧ a.2.2.2.2.length ≤ 140737488351232) (h : 150 < keep.length ∨ 150 < torn.length) :
    Calls Try.prog 3 #[.slice P1 l.length c1, .slice P2 more.length c2, .slice P3 keep.length c3, .slice P4 torn.length c4] w fun e w' => e = .returned (.bool true) ∧ Below w.heap.size w w' := by
  have HR1 := Aside0.mk hr1; have HR2 := Aside0.mk hr2; have HH := Aside0.mk h; have HZ1 := Aside0.mk hz1; have HZ2 := Aside0.mk hz2
  clear hr1 hr2 h hz1 hz2
  go_enter Try.func3, Try.ntmps3
  go_wp2_with fail
  refine (huge2_calls P1 c1 l w HR1.out HZ1.out).mono ?_
  rintro e w1 ⟨⟨b, rfl, _⟩, hd1⟩
  have HB1 := Aside0.mk hd1.below
  clear hd1
  cases b with
  | true =>
    go_wp2_with fail
    refine (live2_calls _).mono ?_
    rintro e w2 ⟨rfl, hb2⟩
    have HB2 := Aside0.mk (below_step HB1.out hb2)
    clear hb2
    go_wp2_with fail
    go_ret
    exact ⟨rfl, HB2.out⟩
  | false =>
  go_wp2_with fail
  refine (huge2_calls P2 c2 more w1 (Kd.C_below HR2.out HB1.out) HZ2.out).mono ?_
  rintro e w2 ⟨⟨b, rfl, _⟩, hd2⟩
  have HB2 := Aside0.mk (below_step HB1.out hd2.below)
  clear hd2
  cases b with
  | true =>
    go_wp2_with fail
    refine (live2_calls _).mono ?_
    rintro e w2 ⟨rfl, hb2⟩
    have HB2 := Aside0.mk (below_step HB2.out hb2)
    clear hb2
    go_wp2_with fail
    go_ret
    exact ⟨rfl, HB2.out⟩
  | false =>
  by_cases h3 : 150 < keep.length
  · have d3 : decide (150 < (keep.length : Int)) = true := decide_eq_true (by omega)
    go_wp2_with fail
    refine (live2_calls _).mono ?_
    rintro e w2 ⟨rfl, hb2⟩
    have HB2 := Aside0.mk (below_step HB2.out hb2)
    clear hb2
    go_wp2_with fail
    go_ret
    exact ⟨rfl, HB2.out⟩
  · have d3 : decide (150 < (keep.length : Int)) = false := decide_eq_false (by omega)
    have d4 : decide (150 < (torn.length : Int)) = true := decide_eq_true (by have := HH.out; omega)
    clear h3
    go_wp2_with fail
    refine (live2_calls _).mono ?_
    rintro e w2 ⟨rfl, hb2⟩
    have HB2 := Aside0.mk (below_step HB2.out hb2)
    clear hb2
    go_wp2_with fail
    go_ret
    exact ⟨rfl, HB2.out⟩
theorem opens2_KT : Opens Try.prog (Kd.iso KT id) (fun t => (Lit.int .i64 t.1).wf = true ∧ (Lit.int .i64 t.2).wf = true) 44 :=
  (opens_struct id id (fun _ => rfl) (opensL_cons 3 0 1 (opens_int Try.underlying3 (by kernel_rfl)) rfl (opensL_one 3 1 (opens_int Try.underlying3 (by kernel_rfl)))) Try.underlying44 (by kernel_rfl) rfl).as (fun _ h => h)
theorem opens_A2 : Opens Try.prog KA2 (fun a => (a.2.2.1.length * 1 ≤ 140737488351232 ∧ ∀ y ∈ a.2.2.1, (Lit.int .u8 y).wf = true) ∧ a.2.2.2.1.length * 8 ≤ 140737488351232 ∧ a.2.2.2.2.length * 16 ≤ 140737488351232) 35 := by
  have h0 := opens_struct (id : A2 → A2) id (fun _ => rfl) (opensL_cons 3 0 1 (opens_int Try.underlying3 (by kernel_rfl)) rfl (opensL_cons 3 1 2 (opens_int Try.underlying3 (by kernel_rfl)) rfl
    (opensL_cons 33 2 3 (opens_slice (B := 1) Try.underlying33 (by kernel_rfl) (by kernel_rfl) (opens_int Try.underlying5 (by kernel_rfl))) rfl (opensL_cons 23 3 4 (opens_slice (B := 8) Try.underlying23 (by kernel_rfl) (by kernel_rfl) (opens_int Try.underlying3 (by kernel_rfl))) rfl
      (opensL_one 24 4 (opens_slice (B := 16) Try.underlying24 (by kernel_rfl) (by kernel_rfl) opens2_KT)))))) Try.underlying35 (by kernel_rfl) rfl
  exact h0.as (fun y h => ⟨h.2.2.1, h.2.2.2.1.1, h.2.2.2.2.1⟩)
theorem wf3_i64 {y : Int} (h : (Lit.int .i64 y).wf = true) : -9223372036854775808 ≤ y ∧ y ≤ 9223372036854775807 := by
  simp [Lit.wf, IntKind.min, IntKind.max, IntKind.bits, IntKind.signed] at h; omega
theorem wf3_u8 {y : Int} (h : (Lit.int .u8 y).wf = true) : 0 ≤ y ∧ y < 256 := by
  simp [Lit.wf, IntKind.min, IntKind.max, IntKind.bits, IntKind.signed] at h; omega
theorem safe_row (P1 P2 P3 P4 : Option Addr) (c1 c2 c3 c4 : Nat) (l more : List A2) (keep : List Int) (torn : List (Int × Int)) (w : World) (hr1 : Kd.C KA2 w P1 l.length l) (hr2 : Kd.C KA2 w P2 more.length more) (hr3 : Kd.C (Kd.int .i64) w P3 keep.length keep) (hr4 : KT.C w P4 torn.length torn)
    (w1 : ∀ a ∈ l, (a.2.2.1.length * 1 ≤ 140737488351232 ∧ ∀ y ∈ a.2.2.1, (Lit.int .u8 y).wf = true) ∧ a.2.2.2.1.length * 8 ≤ 140737488351232 ∧ a.2.2.2.2.length * 16 ≤ 140737488351232) (w2 : ∀ a ∈ more, (a.2.2.1.length * 1 ≤ 140737488351232 ∧ ∀ y ∈ a.2.2.1, (Lit.int .u8 y).wf = true) ∧ a.2.2.2.1.length * 8 ≤ 140737488351232 ∧ a.2.2.2.2.length * 16 ≤ 140737488351232) (w4 : ∀ t ∈ torn, (Lit.int .i64 t.1).wf = true ∧ (Lit.int .i64 t.2).wf = true) :
    Calls Try.prog 3 #[.slice P1 l.length c1, .slice P2 more.length c2, .slice P3 keep.length c3, .slice P4 torn.length c4] w fun e w' => e = .returned (.bool true) ∧ Below w.heap.size w w' := by
  have hz : ∀ {x : List A2}, (∀ a ∈ x, (a.2.2.1.length * 1 ≤ 140737488351232 ∧ ∀ y ∈ a.2.2.1, (Lit.int .u8 y).wf = true) ∧ a.2.2.2.1.length * 8 ≤ 140737488351232 ∧ a.2.2.2.2.length * 16 ≤ 140737488351232) → ∀ a ∈ x, a.2.2.1.length ≤ 140737488351232 ∧ a.2.2.2.1.length ≤ 140737488351232 ∧ a.2.2.2.2.length ≤ 140737488351232 := fun h a ha => by
    have := h a ha
    exact ⟨by omega, by omega, by omega⟩
  by_cases h : 150 < keep.length ∨ 150 < torn.length
  · exact safe_bad P1 P2 P3 P4 c1 c2 c3 c4 l more keep torn w hr1 hr2 (hz w1) (hz w2) h
  · exact safe_good P1 P2 P3 P4 c1 c2 c3 c4 l more keep torn w hr1 hr2 hr3 hr4 (hz w1) (hz w2) (fun a ha x hx => wf3_u8 ((w1 a ha).1.2 x hx)) (fun a ha x hx => wf3_u8 ((w2 a ha).1.2 x hx)) (fun t ht => wf3_i64 (w4 t ht).2) (by omega) (by omega)
end Go.Proofs.YteimienhaodfcaaK
