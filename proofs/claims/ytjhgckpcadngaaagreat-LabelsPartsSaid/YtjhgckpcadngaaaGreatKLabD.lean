/- Labels: SortStableFunc below 20. -/
import Derived.Test.YtjhgckpcadngaaaGreatPLAx0
import Derived.Test.YtjhgckpcadngaaaGreatPLAx1
import Derived.Test.YtjhgckpcadngaaaGreatPLAx2
import Derived.Test.YtjhgckpcadngaaaGreatPLAx3
import Derived.Test.YtjhgckpcadngaaaGreatKFlow3
import Derived.Test.YtjhgckpcadngaaaGreatKEv
import Derived.Test.YtjhgckpcadngaaaGreatKOpen
import Derived.Lib.SlBytesConst
import Derived.Lib.Bytes
import Derived.Deep.RegionWith
import Derived.Deep.QuietTactic
import Derived.Deep.RegionHeld3
import Derived.BigQuiet
import Derived.Lib.Strings
import Derived.Lib.Slices
import Derived.Lib.Walk
import Derived.Lib.Bytealg
import Derived.Tactics
import Derived.Tactics2
import Derived.Defers
import Derived.Laws.Pointers
import Derived.Laws.LoneSync
import Derived.RegionTactic
import Derived.RegionCalls
import Derived.ChangeAlike
import Derived.Test.YtjhgckpcadngaaaGreatKLabA
import Derived.Test.YtjhgckpcadngaaaGreatKLabB
import Derived.Test.YtjhgckpcadngaaaGreatKLabC
import Derived.Test.YtjhgckpcadngaaaGreatKFrm
namespace Go.Proofs.YtjhgckpcadngaaaGreatK
open Go.RowKit Go.Proofs.YtjhgckpcadngaaaGreatW.PrintWords Go.Proofs.YtjhgckpcadngaaaGreatW.PrintLast Go.Proofs.YtjhgckpcadngaaaGreatW.PrintMore
open Go.Proofs.YtjhgckpcadngaaaGreat.PLA Go.Proofs.YtjhgckpcadngaaaGreat
attribute [local go_sem] max2_int min2_int max_two min_two max_three min_three max_four min_four
set_option linter.unusedVariables false
set_option linter.unusedSimpArgs false
set_option maxHeartbeats 1000000 in
set_option maxRecDepth 100000 in
theorem stable_calls (g cap : Nat) (L0 : List S47) (n : Nat) (hn : n = L0.length) (hn2 : n < 20) (w : World) (h : RowL w g L0) :
    Calls Tryz.prog 61 #[.slice (some ⟨g, 0, none⟩) n cap, .int .i64 n, .func (.func 41) #[] #[]] w fun e w' => e = .returned (.tuple #[]) ∧ RowL w' g (insr (n - 1) L0) ∧ Frm (fun k => k = g) w w' := by
  have HI := Aside0.mk (ins_calls g cap L0 n hn (by omega) w h)
  have d1 : ¬ ((20 : Int) ≤ (n : Int)) := by omega
  have d2 : ¬ ((20 : Int) < (n : Int)) := by omega
  have e1 : decide ((20 : Int) ≤ (n : Int)) = false := decide_eq_false d1
  have e2 : decide ((20 : Int) < (n : Int)) = false := decide_eq_false d2
  clear h hn
  go_enter Tryz.func61, Tryz.ntmps61
  go_wp2_with fail
  go_loopw [7, 8] (fun a b wr => a = .int .i64 0 ∧ b = .int .i64 20 ∧ Aside0 (wr = w)) (fun _ _ _ => 0)
  case atStart => exact ⟨rfl, rfl, ⟨rfl⟩⟩
  case round =>
    obtain ⟨rfl, rfl, HW⟩ := hrel
    have hw := HW.out
    subst hw
    go_wp2_with fail
    refine (HI.out).mono ?_
    rintro e w2 ⟨rfl, hr, hf⟩
    have HR := Aside0.mk hr; have HF := Aside0.mk hf
    clear hr hf
    go_wp2_with fail
    go_loopw [6, 7, 8, 9] (fun a b c d wr => a = .int .i64 20 ∧ Aside0 (wr = w2)) (fun _ _ _ _ _ => 0)
    case atStart => exact ⟨rfl, ⟨rfl⟩⟩
    case round =>
      obtain ⟨rfl, HW2⟩ := hrel
      have hw2 := HW2.out
      subst hw2
      go_wp2_with fail
      go_end0
      exact ⟨rfl, HR.out, HF.out⟩
set_option maxHeartbeats 1000000 in
set_option maxRecDepth 100000 in
theorem sortstable_calls (g cap : Nat) (L0 : List S47) (n : Nat) (hn : n = L0.length) (hn2 : n < 20) (w : World) (h : RowL w g L0) :
    Calls Tryz.prog 40 #[.slice (some ⟨g, 0, none⟩) n cap, .func (.func 41) #[] #[]] w fun e w' => e = .returned (.tuple #[]) ∧ RowL w' g (insr (n - 1) L0) ∧ Frm (fun k => k = g) w w' := by
  have HI := Aside0.mk (stable_calls g cap L0 n hn hn2 w h)
  clear h hn
  go_enter Tryz.func40, Tryz.ntmps40
  go_wp2_with fail
  refine (HI.out).mono ?_
  rintro e w2 ⟨rfl, hr, hf⟩
  have HR := Aside0.mk hr; have HF := Aside0.mk hf
  clear hr hf
  go_wp2_with fail
  go_end0
  exact ⟨rfl, HR.out, HF.out⟩
end Go.Proofs.YtjhgckpcadngaaaGreatK
