/- The sum of bytes: quill.Mark, walked. -/
import Derived.Test.YtmcnipjfigbkeaaProg
import Derived.Below
import Derived.Deep.Draws
import Derived.Deep.AppendLies
import Derived.Maps.AppendAt
import Derived.OwnWalk
import Derived.Laws.BytesArg
import Derived.Laws.MakeOwn
import Derived.Laws.OwnMore
import Derived.Deep.OwnRows
import Derived.Tactics
import Derived.Lib.ConvBytes
import Derived.Laws.Slices
import Derived.WalkKit
import Derived.KernelRfl
import Derived.RowKit3
import Derived.Deep.LoopGhost
import Derived.Deep.QuietTactic
import Derived.BigQuiet
import Derived.WideLaws
import Derived.Deep.DeepCutAuto
import Derived.Deep.CutBlock
import Derived.Deep.RegionHeld3
import Derived.Laws.Rows
import Derived.Lib.AppendStr
import Derived.ArgAppend
import Derived.Laws.IdiomCopy
import Derived.OrdersHeld
import Derived.Laws.BitsLemmas
import Derived.RowKit
import Derived.Test.YtmcnipjfigbkeaaWWords
import Derived.Test.YtmcnipjfigbkeaaWLast
import Derived.Test.YtmcnipjfigbkeaaWTab
import Derived.Test.YtmcnipjfigbkeaaWFour
import Derived.Test.YtmcnipjfigbkeaaWQPut
import Derived.Test.YtmcnipjfigbkeaaWApart
import Derived.Test.YtmcnipjfigbkeaaWArr
import Derived.Test.YtmcnipjfigbkeaaWZeros
import Derived.Test.YtmcnipjfigbkeaaWFoot
import Derived.Test.YtmcnipjfigbkeaaWKept
import Derived.Test.YtmcnipjfigbkeaaWShare
import Derived.Test.YtmcnipjfigbkeaaWN
import Derived.Test.YtmcnipjfigbkeaaWFootNe
import Derived.Test.YtmcnipjfigbkeaaWAt
import Derived.Test.YtmcnipjfigbkeaaWEqStruct
import Derived.Test.YtmcnipjfigbkeaaWRepsOne
import Derived.Test.YtmcnipjfigbkeaaWInv
import Derived.Test.YtmcnipjfigbkeaaWInvWords
import Derived.Test.YtmcnipjfigbkeaaWGuard
import Derived.Test.YtmcnipjfigbkeaaWNEv
import Derived.Test.YtmcnipjfigbkeaaWMore
import Derived.Test.YtmcnipjfigbkeaaKCrc
namespace Go.Proofs.YtmcnipjfigbkeaaK
open Go.RowKit Go.Proofs.YtmcnipjfigbkeaaW.PrintWords Go.Proofs.YtmcnipjfigbkeaaW.PrintLast Go.Proofs.YtmcnipjfigbkeaaW.PrintMore
attribute [local go_sem] max2_int min2_int max_two min_two max_three min_three max_four min_four
set_option linter.unusedVariables false
set_option linter.unusedSimpArgs false
open Go.Crc
theorem at_row {w : World} {A : Option Addr} {n : Nat} {xs : List (List Int)} (h : Kd.C (Kd.slice 5 (Kd.int .u8)) w A n xs) (i : Nat) (h1 : i < n) : ∃ ad A0 c0, A = some ad ∧ w.cell? (ad.add i) = some (.slice A0 (xs.getD i []).length c0) ∧ (xs.getD i []).length ≤ c0 ∧ (Kd.int .u8).C w A0 (xs.getD i []).length (xs.getD i []) := by
  obtain ⟨ad, c, e, _, hK, hc0⟩ := Kd.C_get h ([] : List Int) i (by omega) (by omega)
  have hc : ∀ j u, c[j]? = some u → w.cell? (ad.add ((i : Int).toNat * 1 + j)) = some u := hc0
  obtain ⟨A0, c0, rfl, l0, g0⟩ := hK
  exact ⟨ad, A0, c0, e, by have hq := hc 0 _ rfl; rwa [Nat.mul_one, Nat.add_zero] at hq, l0, g0⟩
theorem rd_take (l : List Int) (i : Nat) (h : i < l.length) : l.take (i + 1) = l.take i ++ [rd l i] := by
  rw [List.take_add_one]
  congr 1
  simp [rd, h]
theorem rd_in (l : List Int) (i : Nat) (h : i < l.length) : rd l i ∈ l := by
  have : rd l i = l[i] := by simp [rd, h]
  rw [this]; exact List.getElem_mem h
set_option maxHeartbeats 400000 in
set_option maxRecDepth 100000 in
theorem mark_calls (A0 : Option Addr) (n c0 : Nat) (rows : List (List Int)) (w : World) (hr0 : Kd.C (Kd.slice 5 (Kd.int .u8)) w A0 n rows) (hc0 : n ≤ c0) (hn : n = rows.length) (hby : ∀ l ∈ rows, Bytes l) :
    Calls Try.prog 37 #[.slice A0 n c0] w fun e w' => e = .returned (.int .u32 (crc rows.flatten)) ∧ Drawn0 w w' := by
  have HR0 := Aside0.mk hr0
  have hN : n ≤ 9223372036854775807 := hr0.2.1
  clear hr0
  go_enter Try.func37, Try.ntmps37
  go_wp2
  go_loopg [3, 11] n (fun kq v3 v11 w' => ∃ (m i : Nat), v3 = .int .u32 m ∧ v11 = .int .i64 i ∧ Aside0 (m = from_ 4294967295 (rows.take i).flatten ∧ i ≤ n ∧ kq = n - i) ∧ Drawn0 w w')
  case atStart => exact ⟨4294967295, 0, rfl, rfl, ⟨by simp [from_, nat, run], by omega, by omega⟩, Drawn0.refl _⟩
  case round =>
    obtain ⟨m, i, rfl, rfl, HI, ⟨m1, rfl⟩⟩ := hrel
    have hi0 : i ≤ n := HI.out.2.1
    by_cases hi : i < n
    · have hd : decide ((i : Int) < (n : Int)) = true := decide_eq_true (by omega)
      have hrow : Bytes (rows.getD i []) := hby _ (getD_mem rows i (by omega))
      have hgt := getD_take rows i (by omega)
      obtain ⟨ad, A1, c1, e1, hx1, hl1, hr1⟩ := at_row HR0.out i hi
      subst e1
      generalize hrr : rows.getD i [] = row at *
      have HR1 := Aside0.mk hr1
      have hlt : row.length ≤ 9223372036854775807 := hr1.2.1
      have hm : m < 4294967296 := by rw [HI.out.1]; exact from_lt _ _ (by decide)
      have HROW := Aside0.mk hrow
      have HGT := Aside0.mk hgt
      clear hr1 hgt hrow hrr
      have h0i : (0 : Int) ≤ (i : Int) := by omega
      have h1i : (i : Int) < (n : Int) := by omega
      go_wp2
      go_loopg [3, 17] row.length (fun kq v3 v17 w' => ∃ (m2 j : Nat), v3 = .int .u32 m2 ∧ v17 = .int .i64 j ∧ Aside0 (m2 = from_ m (row.take j) ∧ j ≤ row.length ∧ kq = row.length - j) ∧ Drawn0 w w')
      case atStart => exact ⟨m, 0, rfl, rfl, ⟨by simp [from_, nat, run], by omega, by omega⟩, by repeat (first | exact Drawn0.refl _ | apply Drawn0.step)⟩
      case round =>
        clear hx1
        obtain ⟨m2, j, rfl, rfl, HJ, ⟨m3, rfl⟩⟩ := hrel
        have hj0 : j ≤ row.length := HJ.out.2.1
        by_cases hj : j < row.length
        · have hd2 : decide ((j : Int) < (row.length : Int)) = true := decide_eq_true (by omega)
          obtain ⟨ad2, e2, hx2⟩ := Kd.at_int HR1.out (j : Int) (by omega) (by omega)
          subst e2
          rw [show ((j : Int)).toNat = j by omega] at hx2
          have hm2 : m2 < 4294967296 := by rw [HJ.out.1]; exact from_lt _ _ hm
          obtain ⟨b0, b1⟩ := HROW.out _ (rd_in row j hj)
          have h0j : (0 : Int) ≤ (j : Int) := by omega
          have h1j : (j : Int) < (row.length : Int) := by omega
          have hmod : rd row (j : Int) % 4294967296 = rd row (j : Int) := by omega
          have hxr : Go.bits .xor .u32 (m2 : Int) (rd row (j : Int)) = ((m2 ^^^ (rd row (j : Int)).toNat : Nat) : Int) := by
            have := u32_xor_nat m2 (rd row (j : Int)).toNat hm2 (by omega)
            rwa [Int.toNat_of_nonneg b0] at this
          go_wp2
          go_loopg [3, 25] 8 (fun kq v3 v25 w' => ∃ (m4 t : Nat), v3 = .int .u32 m4 ∧ v25 = .int .i64 t ∧ Aside0 (m4 = steps t (m2 ^^^ (rd row (j : Int)).toNat) ∧ t ≤ 8 ∧ kq = 8 - t) ∧ Drawn0 w w')
          case atStart => exact ⟨m2 ^^^ (rd row (j : Int)).toNat, 0, by first | rfl | rw [hxr] | (rw [hmod, hxr]) | simp [hmod, hxr], rfl, ⟨rfl, by omega, by omega⟩, by repeat (first | exact Drawn0.refl _ | apply Drawn0.step)⟩
          case round =>
            clear hx2
            obtain ⟨m4, t, rfl, rfl, HT, ⟨m5, rfl⟩⟩ := hrel
            have ht0 : t ≤ 8 := HT.out.2.1
            have hm4 : m4 < 4294967296 := by rw [HT.out.1]; exact steps_lt _ _ (xor_lt hm2 (by omega))
            by_cases ht : t < 8
            · have hd3 : decide ((t : Int) < 8) = true := decide_eq_true (by omega)
              have ha := and1 m4 hm4
              have hxp := xorP (m4 / 2) (by omega)
              have hdiv : ((m4 / 2 : Nat) : Int) = (m4 : Int) / 2 := by omega
              rw [hdiv] at hxp
              by_cases hb : m4 % 2 = 1
              · have hb2 : decide (0 < Go.bits .and .u32 (m4 : Int) 1) = true := by rw [ha, hb]; rfl
                go_wp2
                go_roundg (8 - (t + 1))
                case measure => have := HT.out.2.2; omega
                case rel => exact ⟨(m4 / 2) ^^^ poly, t + 1, by first | rfl | rw [hxp], by first | rfl | simp, ⟨by rw [steps_succ, ← HT.out.1, stp, if_pos hb], by omega, rfl⟩, by repeat (first | exact Drawn0.refl _ | apply Drawn0.step)⟩
              · have hb2 : decide (0 < Go.bits .and .u32 (m4 : Int) 1) = false := by rw [ha, show m4 % 2 = 0 by omega]; rfl
                go_wp2
                go_roundg (8 - (t + 1))
                case measure => have := HT.out.2.2; omega
                case rel => exact ⟨m4 / 2, t + 1, by first | rfl | rw [hdiv] | simp, by first | rfl | simp, ⟨by rw [steps_succ, ← HT.out.1, stp, if_neg hb], by omega, rfl⟩, by repeat (first | exact Drawn0.refl _ | apply Drawn0.step)⟩
            · have hd3 : decide ((t : Int) < 8) = false := decide_eq_false (by omega)
              obtain rfl : t = 8 := by omega
              have h4 := HT.out.1
              rw [← from_one m2 _ b0 b1, HJ.out.1, ← from_append, ← rd_take row j hj] at h4
              go_wp2
              go_roundg (row.length - (j + 1))
              case measure => have := HJ.out.2.2; omega
              case rel => exact ⟨m4, j + 1, rfl, by first | rfl | simp, ⟨h4, by omega, rfl⟩, by repeat (first | exact Drawn0.refl _ | apply Drawn0.step)⟩
        · have hd2 : decide ((j : Int) < (row.length : Int)) = false := decide_eq_false (by omega)
          obtain rfl : j = row.length := by omega
          have h4 := HJ.out.1
          rw [List.take_length, HI.out.1, ← from_append, ← HGT.out] at h4
          go_wp2
          go_roundg (n - (i + 1))
          case measure => have := HI.out.2.2; omega
          case rel => exact ⟨m2, i + 1, rfl, by first | rfl | simp, ⟨h4, by omega, rfl⟩, by repeat (first | exact Drawn0.refl _ | apply Drawn0.step)⟩
    · have hd : decide ((i : Int) < (n : Int)) = false := decide_eq_false (by omega)
      obtain rfl : i = n := by omega
      have h4 := HI.out.1
      rw [hn, List.take_length] at h4
      subst h4
      clear HI
      go_wp2
      go_ret
      exact ⟨rfl, by repeat (first | exact Drawn0.refl _ | apply Drawn0.step)⟩
/-- A literal row of rows is read. -/
theorem lit_rows (w : World) (T : Nat) (vs : List (Option Addr × Nat × List Int)) (hl : vs.length ≤ 9223372036854775807) (h : ∀ p ∈ vs, Kd.C (Kd.int .u8) w p.1 p.2.2.length p.2.2 ∧ p.2.2.length ≤ p.2.1) :
    Kd.C (Kd.slice 5 (Kd.int .u8)) (w.alloc (.cells (vs.map fun p => Value.slice p.1 p.2.2.length p.2.1).toArray T)) (some ⟨w.heap.size, 0, none⟩) vs.length (vs.map (·.2.2)) := by
  refine ⟨by simp, hl, fun _ => ⟨_, rfl, fun j p hj => ?_⟩⟩
  rw [List.getElem?_map] at hj
  obtain ⟨q, hq, rfl⟩ := Option.map_eq_some_iff.mp hj
  obtain ⟨h1, h2⟩ := h q (List.mem_of_getElem? hq)
  refine ⟨[.slice q.1 q.2.2.length q.2.1], rfl, ⟨q.1, q.2.1, rfl, h2, Kd.C_alloc h1 _⟩, fun i u hu => ?_⟩
  obtain rfl : i = 0 := by
    rcases i with _ | i
    · rfl
    · simp at hu
  obtain rfl : u = _ := by simpa using hu.symm
  have e : (Addr.add ⟨w.heap.size, 0, none⟩ (j * 1 + 0)) = ⟨w.heap.size, j, none⟩ := by
    by_cases h0 : j = 0 <;> simp [Addr.add, h0]
  show (w.alloc _).cell? (Addr.add ⟨w.heap.size, 0, none⟩ (j * 1 + 0)) = _
  rw [e, blk_cell (blk_new w _) j]
  simp [hq]
/-- A part of a block of numbers is read. -/
theorem blk_reads {w : World} {g t : Nat} {cs : Array Value} (hb : w.heap[g]? = some (.cells cs t (0, 0))) (k : IntKind) (l : List Int) (hc : cs.toList = l.map (.int k)) (hs : l.length ≤ 9223372036854775807) (o n : Nat) (hn : o + n ≤ l.length) :
    Kd.C (Kd.int k) w (some ⟨g, o, none⟩) n ((l.drop o).take n) := by
  refine ⟨by rw [List.length_take, List.length_drop]; omega, by omega, fun _ => ⟨_, rfl, fun j p hj => ⟨[.int k p], rfl, rfl, fun i u hu => ?_⟩⟩⟩
  obtain rfl : i = 0 := by
    rcases i with _ | i
    · rfl
    · simp at hu
  obtain rfl : u = .int k p := by simpa using hu.symm
  have e : (Addr.add ⟨g, o, none⟩ (j * (Kd.int k).sz + 0)) = ⟨g, o + j, none⟩ := by
    show Addr.add _ (j * 1 + 0) = _
    simp [Addr.add]
  rw [e, blk_cell hb]
  have hj2 : j < n := by
    have := (List.getElem?_eq_some_iff.1 hj).1
    rw [List.length_take] at this; omega
  rw [List.getElem?_take_of_lt hj2, List.getElem?_drop] at hj
  rw [← Array.getElem?_toList, hc, List.getElem?_map, hj]; rfl
theorem lit_row1 (w : World) (T : Nat) (A : Option Addr) (n c : Nat) (l : List Int) (hr : Kd.C (Kd.int .u8) w A n l) (hc : n ≤ c) :
    Kd.C (Kd.slice 5 (Kd.int .u8)) (w.alloc (.cells #[.slice A n c] T)) (some ⟨w.heap.size, 0, none⟩) 1 [l] := by
  obtain rfl := hr.1
  refine lit_rows w T [(A, c, l)] (by simp) ?_
  intro p hp
  obtain rfl : p = (A, c, l) := by simpa using hp
  exact ⟨hr, hc⟩
end Go.Proofs.YtmcnipjfigbkeaaK
