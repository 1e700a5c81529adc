/- Strings of bytes. -/
import Derived.Test.YteimienhaodfcaaKLive2
import Derived.Test.YteimienhaodfcaaKLX
import Derived.Test.YteimienhaodfcaaKMetaP
import Derived.Test.YteimienhaodfcaaKMetaT
import Derived.Test.YteimienhaodfcaaKFlow
import Derived.Test.YteimienhaodfcaaKClone
import Derived.Deep.QuietTactic
import Derived.BigQuiet
import Derived.Deep.RegionHeld3
import Derived.Lib.AppendZerosOnto
import Derived.Lib.SliceRun
import Derived.Lib.Walk
namespace Go.Proofs.YteimienhaodfcaaK
open Go.RowKit Go.Proofs.YteimienhaodfcaaW.PrintWords Go.Proofs.YteimienhaodfcaaW.PrintLast Go.Proofs.YteimienhaodfcaaW.PrintMore Go.Crc
open Go.ChangeMaps (setBlock)
attribute [local go_sem] max2_int min2_int max_two min_two
set_option linter.unusedVariables false
set_option linter.unusedSimpArgs false
variable {w w' : World} {X X' S : Nat → Prop} {d sb mb clock : Nat} {es : Array MapEntry} {safe : List Int} {D : Dk}
theorem strNums_size (a : List Int) : (strOfNums a).size = a.length := by
  simp [strOfNums, ByteArray.size]
theorem strNums_append (a b : List Int) : strOfNums (a ++ b) = strOfNums a ++ strOfNums b := by
  apply ByteArray.ext
  simp [strOfNums]
theorem strNums_data (l : List Int) : (strOfNums l).data.toList = l.map (fun n => UInt8.ofNat n.toNat) := by simp [strOfNums]
theorem bytesOf_str (l : List Int) (h : Bytes l) : bytesOf (strOfNums l) = l := by
  have := nums_bytes_ l h
  unfold bytesOf strOfNums
  unfold Lib.bytesOf at this
  simpa using this
theorem bt_str (l : List Int) (hl : Bytes l) (i : Int) : bt (strOfNums l) i = rd l i := by rw [← rd_bytesOf, bytesOf_str l hl]
theorem idx_str (l : List Int) (hl : Bytes l) (i : Nat) (hi : i < l.length) (W : World) : (Instr.index 9 (.string (strOfNums l)) (.int .i64 (i : Int))).run Try.prog W = .ok (.int .u8 (rd l i)) W := by
  have hsz := strNums_size l
  rw [run_index_string _ _ _ _ _ Try.underlying9, dif_pos ⟨by omega, by omega⟩, ← bt_str l hl, ← bt_at _ _ (by simp only [Int.toNat_natCast]; omega)]
theorem slice_str (l : List Int) (i j : Nat) (hij : i ≤ j) (hj : j ≤ l.length) (W : World) : (Instr.slice 9 (.string (strOfNums l)) (some (.int .i64 (i : Int))) (some (.int .i64 (j : Int))) none).run Try.prog W = .ok (.string (strOfNums ((l.take j).drop i))) W := by
  have hsz := strNums_size l
  rw [run_slice_string_if _ _ _ _ _ _ _ Try.underlying9, if_pos ⟨by omega, by omega⟩, if_pos ⟨by omega, by omega⟩]
  congr 2
  apply ByteArray.ext
  apply Array.toList_inj.mp
  rw [Int.toNat_natCast, Int.toNat_natCast, Lib.extract_data, strNums_data, strNums_data, List.map_drop, List.map_take, List.drop_take]
theorem slice_from (l : List Int) (i : Nat) (hi : i ≤ l.length) (W : World) : (Instr.slice 9 (.string (strOfNums l)) (some (.int .i64 (i : Int))) none none).run Try.prog W = .ok (.string (strOfNums (l.drop i))) W := by
  have hsz := strNums_size l
  rw [run_slice_string_from_if _ _ _ _ _ Try.underlying9, if_pos ⟨by omega, by omega⟩]
  congr 2
  apply ByteArray.ext
  apply Array.toList_inj.mp
  rw [Int.toNat_natCast, Lib.extract_data, strNums_data, strNums_data, List.map_drop, hsz, List.take_of_length_le (by simp)]
theorem slice_to (l : List Int) (j : Nat) (hj : j ≤ l.length) (W : World) : (Instr.slice 9 (.string (strOfNums l)) none (some (.int .i64 (j : Int))) none).run Try.prog W = .ok (.string (strOfNums (l.take j))) W := by
  have hsz := strNums_size l
  rw [run_slice_string_to_if _ _ _ _ _ Try.underlying9, if_pos ⟨by omega, by omega⟩]
  congr 2
  apply ByteArray.ext
  apply Array.toList_inj.mp
  rw [Int.toNat_natCast, Lib.extract_data, strNums_data, strNums_data, List.map_take, List.drop_zero, Nat.sub_zero]
end Go.Proofs.YteimienhaodfcaaK
