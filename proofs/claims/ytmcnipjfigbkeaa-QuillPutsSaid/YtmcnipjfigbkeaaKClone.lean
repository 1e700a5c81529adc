/- Bytes copied: slices.Clone, walked. -/
import Derived.Test.YtmcnipjfigbkeaaProg
import Derived.Below
import Derived.Deep.Draws
import Derived.Deep.AppendLies
import Derived.Maps.AppendAt
import Derived.OwnWalk
import Derived.Laws.BytesArg
import Derived.Laws.MakeOwn
import Derived.Laws.OwnMore
import Derived.Deep.OwnRows
import Derived.Tactics
import Derived.Lib.ConvBytes
import Derived.Laws.Slices
import Derived.WalkKit
import Derived.KernelRfl
import Derived.RowKit3
import Derived.Deep.LoopGhost
import Derived.Deep.QuietTactic
import Derived.BigQuiet
import Derived.WideLaws
import Derived.Deep.DeepCutAuto
import Derived.Deep.CutBlock
import Derived.Deep.RegionHeld3
import Derived.Laws.Rows
import Derived.Lib.AppendStr
import Derived.ArgAppend
import Derived.Laws.IdiomCopy
import Derived.OrdersHeld
import Derived.Laws.BitsLemmas
import Derived.RowKit
import Derived.Test.YtmcnipjfigbkeaaWWords
import Derived.Test.YtmcnipjfigbkeaaWLast
import Derived.Test.YtmcnipjfigbkeaaWTab
import Derived.Test.YtmcnipjfigbkeaaWFour
import Derived.Test.YtmcnipjfigbkeaaWQPut
import Derived.Test.YtmcnipjfigbkeaaWApart
import Derived.Test.YtmcnipjfigbkeaaWArr
import Derived.Test.YtmcnipjfigbkeaaWZeros
import Derived.Test.YtmcnipjfigbkeaaWFoot
import Derived.Test.YtmcnipjfigbkeaaWKept
import Derived.Test.YtmcnipjfigbkeaaWShare
import Derived.Test.YtmcnipjfigbkeaaWN
import Derived.Test.YtmcnipjfigbkeaaWFootNe
import Derived.Test.YtmcnipjfigbkeaaWAt
import Derived.Test.YtmcnipjfigbkeaaWEqStruct
import Derived.Test.YtmcnipjfigbkeaaWRepsOne
import Derived.Test.YtmcnipjfigbkeaaWInv
import Derived.Test.YtmcnipjfigbkeaaWInvWords
import Derived.Test.YtmcnipjfigbkeaaWGuard
import Derived.Test.YtmcnipjfigbkeaaWNEv
import Derived.Test.YtmcnipjfigbkeaaWMore
namespace Go.Proofs.YtmcnipjfigbkeaaK.Cl
open Go.RowKit Go.Proofs.YtmcnipjfigbkeaaW.PrintWords Go.Proofs.YtmcnipjfigbkeaaW.PrintLast Go.Proofs.YtmcnipjfigbkeaaW.PrintMore
attribute [local go_sem] max2_int min2_int max_two min_two max_three min_three max_four min_four
set_option linter.unusedVariables false
set_option linter.unusedSimpArgs false
theorem info_u8 : (Try.prog.info? 5).map (fun i => (i.zero, i.size, i.bytes)) = some (some (.int .u8 0), 1, 1) := by kernel_rfl
theorem eql_nil (c : Nat) (w : World) : (binOp .eql 50 (.slice none 0 c) (.slice none 0 0)).run Try.prog w = .ok (.bool true) w := by kernel_rfl
theorem eql_some (ad : Addr) (n c : Nat) (w : World) : (binOp .eql 50 (.slice (some ad) n c) (.slice none 0 0)).run Try.prog w = .ok (.bool false) w := by kernel_rfl
set_option maxHeartbeats 400000 in
set_option maxRecDepth 100000 in
theorem clone_calls (A : Option Addr) (c : Nat) (l : List Int) (w : World) (hr : Kd.C (Kd.int .u8) w A l.length l) (hl : l.length < 140737488355328) :
    Calls Try.prog 61 #[.slice A l.length c] w fun e w' => ∃ v0_ : Value, e = .returned v0_ ∧ Kd.R (Kd.int .u8) 5 w' w.heap.size (fun _ => True) v0_ l ∧ Below w.heap.size w w' := by
  rcases A with _ | ad
  · obtain rfl : l = [] := by
      rcases Nat.eq_zero_or_pos l.length with h | h
      · exact List.eq_nil_of_length_eq_zero h
      · obtain ⟨ad, e, _⟩ := hr.2.2 h; cases e
    have e1 := eql_nil
    go_enter Try.func61, Try.ntmps61
    go_wp2
    go_ret
    exact ⟨_, rfl, Kd.R_nil _ _ _ _ _, Below.refl _ _⟩
  · have HR := Aside0.mk hr; have HL := Aside0.mk hl
    clear hr hl
    have e1 := eql_some
    have HO : Aside0 (Kd.R (Kd.int .u8) 5 (w.alloc (.cells #[] 5)) w.heap.size (fun _ => True) (.slice (some ⟨w.heap.size, 0, none⟩) 0 0) []) := ⟨⟨fun _ _ => trivial, [], ⟨rfl, .inr ⟨w.heap.size, 0, #[], rfl, Nat.le_refl _, blk_new w _, Nat.le_refl _, by simp [maxLen], rfl, rfl⟩⟩, Reps.none _ _⟩⟩
    have HR2 := Aside0.mk (Kd.C_alloc HR.out (.cells #[] 5))
    have HB := Aside0.mk (below_alloc (Below.refl w.heap.size w) (.cells #[] 5))
    go_enter Try.func61, Try.ntmps61
    go_wp2_with ((with_reducible refine gate_builtin (b := .append) (xs := #[.tmp 5, .tmp 6]) rfl ?_); at_builtin; refine Kd.R_append_rows (Kd.int .u8) (Rr := fun (x : Int) (c : List Value) => c = [.int .u8 x]) (w0 := w) w.heap.size rfl (.tmp 5) (.tmp 6) 50 5 (.int .u8 0) 1 rfl Try.underlying50 info_u8 rfl (by decide) (by omega) (.slice (some ⟨w.heap.size, 0, none⟩) 0 0) [] l (some ad) l.length c (fun _ => True) (fun _ => False) rfl rfl ?HO HR2.out (fun _ _ h => h) (fun _ hk => hk.elim) (fun _ _ => trivial) ?HB ?hbase ?hl ?_; (case HO => exact HO.out); (case HB => exact HB.out); (case hbase => exact HB.out.size); (case hl => have := HL.out; simp; omega); intro v1 w1 hr hb hg hat; have n0_ := Aside0.mk hr; have n1_ := Aside0.mk hb; clear hr hb hg hat)
    go_ret
    exact ⟨_, rfl, by simpa using n0_.out, n1_.out⟩
end Go.Proofs.YtmcnipjfigbkeaaK.Cl
