/- Numbers as bytes. -/
import Derived.Test.YtmcnipjfigbkeaaProg
import Derived.Below
import Derived.Deep.Draws
import Derived.Deep.AppendLies
import Derived.Maps.AppendAt
import Derived.OwnWalk
import Derived.Laws.BytesArg
import Derived.Laws.MakeOwn
import Derived.Laws.OwnMore
import Derived.Deep.OwnRows
import Derived.Tactics
import Derived.Lib.ConvBytes
import Derived.Laws.Slices
import Derived.WalkKit
import Derived.KernelRfl
import Derived.RowKit3
import Derived.Deep.LoopGhost
import Derived.Deep.QuietTactic
import Derived.BigQuiet
import Derived.WideLaws
import Derived.Deep.DeepCutAuto
import Derived.Deep.CutBlock
import Derived.Deep.RegionHeld3
import Derived.Laws.Rows
import Derived.Lib.AppendStr
import Derived.ArgAppend
import Derived.Laws.IdiomCopy
import Derived.OrdersHeld
import Derived.Laws.BitsLemmas
import Derived.RowKit
import Derived.Test.YtmcnipjfigbkeaaWWords
import Derived.Test.YtmcnipjfigbkeaaWLast
import Derived.Test.YtmcnipjfigbkeaaWTab
import Derived.Test.YtmcnipjfigbkeaaWFour
import Derived.Test.YtmcnipjfigbkeaaWQPut
import Derived.Test.YtmcnipjfigbkeaaWApart
import Derived.Test.YtmcnipjfigbkeaaWArr
import Derived.Test.YtmcnipjfigbkeaaWZeros
import Derived.Test.YtmcnipjfigbkeaaWFoot
import Derived.Test.YtmcnipjfigbkeaaWKept
import Derived.Test.YtmcnipjfigbkeaaWShare
import Derived.Test.YtmcnipjfigbkeaaWN
import Derived.Test.YtmcnipjfigbkeaaWFootNe
import Derived.Test.YtmcnipjfigbkeaaWAt
import Derived.Test.YtmcnipjfigbkeaaWEqStruct
import Derived.Test.YtmcnipjfigbkeaaWRepsOne
import Derived.Test.YtmcnipjfigbkeaaWInv
import Derived.Test.YtmcnipjfigbkeaaWInvWords
import Derived.Test.YtmcnipjfigbkeaaWGuard
import Derived.Test.YtmcnipjfigbkeaaWNEv
import Derived.Test.YtmcnipjfigbkeaaWMore
namespace Go.Proofs.YtmcnipjfigbkeaaK
open Go.RowKit Go.Proofs.YtmcnipjfigbkeaaW.PrintWords Go.Proofs.YtmcnipjfigbkeaaW.PrintLast Go.Proofs.YtmcnipjfigbkeaaW.PrintMore
attribute [local go_sem] max2_int min2_int max_two min_two max_three min_three max_four min_four
set_option linter.unusedVariables false
set_option linter.unusedSimpArgs false
def digF : Nat → Int → List Int → List Int
  | 0, _, acc => acc
  | k + 1, n, acc => if 0 < n then digF k (n / 128) ((128 + n % 128) :: acc) else acc
theorem or128 (x : Int) (h0 : 0 ≤ x) (h1 : x < 128) : Go.bits .or .u8 128 x = 128 + x := by
  have : ∀ k : Nat, k < 128 → Go.bits .or .u8 128 (k : Int) = 128 + (k : Int) := by decide +kernel
  obtain ⟨k, rfl⟩ := Int.eq_ofNat_of_zero_le h0
  exact this k (by omega)
theorem wrap64_id' {a : Int} (h0 : -9223372036854775808 ≤ a) (h1 : a ≤ 9223372036854775807) : wrap64 a = a := by unfold wrap64; omega
end Go.Proofs.YtmcnipjfigbkeaaK
