-- Written by a program of this session (wip/myprint.py), which drives the kit's print; read and checked by Lean alone.
import Derived.Test.YteimienhaodfcaaProg
import Derived.Below
import Derived.Deep.Draws
import Derived.Deep.AppendLies
import Derived.Maps.AppendAt
import Derived.OwnWalk
import Derived.Laws.BytesArg
import Derived.Laws.MakeOwn
import Derived.Laws.OwnMore
import Derived.Deep.OwnRows
import Derived.Tactics
import Derived.Lib.ConvBytes
import Derived.Laws.Slices
import Derived.WalkKit
import Derived.KernelRfl
import Derived.RowKit3
import Derived.Deep.LoopGhost
import Derived.Deep.QuietTactic
import Derived.BigQuiet
import Derived.WideLaws
import Derived.Deep.DeepCutAuto
import Derived.Deep.CutBlock
import Derived.Deep.RegionHeld3
import Derived.Laws.Rows
import Derived.Lib.AppendStr
import Derived.ArgAppend
import Derived.Laws.IdiomCopy
import Derived.OrdersHeld
import Derived.Laws.BitsLemmas
import Derived.RowKit
import Derived.Test.YteimienhaodfcaaKAppStr
import Derived.Test.YteimienhaodfcaaKClone
import Derived.Test.YteimienhaodfcaaKCrc
import Derived.Test.YteimienhaodfcaaKEv
import Derived.Test.YteimienhaodfcaaKFlow
import Derived.Test.YteimienhaodfcaaKLive4
import Derived.Test.YteimienhaodfcaaKMark
import Derived.Test.YteimienhaodfcaaKMetaP
import Derived.Test.YteimienhaodfcaaKPlan
import Derived.Test.YteimienhaodfcaaWWords
import Derived.Test.YteimienhaodfcaaWLast
import Derived.Test.YteimienhaodfcaaWTab
import Derived.Test.YteimienhaodfcaaWFour
import Derived.Test.YteimienhaodfcaaWQPut
import Derived.Test.YteimienhaodfcaaWApart
import Derived.Test.YteimienhaodfcaaWArr
import Derived.Test.YteimienhaodfcaaWZeros
import Derived.Test.YteimienhaodfcaaWFoot
import Derived.Test.YteimienhaodfcaaWKept
import Derived.Test.YteimienhaodfcaaWShare
import Derived.Test.YteimienhaodfcaaWN
import Derived.Test.YteimienhaodfcaaWFootNe
import Derived.Test.YteimienhaodfcaaWAt
import Derived.Test.YteimienhaodfcaaWEqStruct
import Derived.Test.YteimienhaodfcaaWRepsOne
import Derived.Test.YteimienhaodfcaaWInv
import Derived.Test.YteimienhaodfcaaWInvWords
import Derived.Test.YteimienhaodfcaaWGuard
import Derived.Test.YteimienhaodfcaaWNEv
import Derived.Test.YteimienhaodfcaaWMore
namespace Go.Proofs.Yteimienhaodfcaa.PMeta
open Go.RowKit Go.Proofs.YteimienhaodfcaaW.PrintWords Go.Proofs.YteimienhaodfcaaW.PrintLast Go.Proofs.YteimienhaodfcaaW.PrintMore
attribute [local go_sem] max2_int min2_int max_two min_two max_three min_three max_four min_four   -- for this text's walks alone
set_option linter.unusedVariables false
set_option linter.unusedSimpArgs false



def errW : Option Int → Value
  | none => .nilIface
  | some c => .iface 0 (.int .i64 c)
theorem errW_none : errW none = .nilIface := rfl
theorem errW_some (c : Int) : errW (some c) = .iface 0 (.int .i64 c) := rfl

theorem info5 : (Try.prog.info? 5).map (fun i => (i.zero, i.size, i.bytes)) = some (some (.int .u8 0), 1, 1) := by kernel_rfl
-- the values' own types
/-! #### struct type 52 -/
structure S52 where
  f0 : Int
  f1 : Int
  f2 : Int
  f3 : Int
def z52 : S52 := ⟨(0 : Int), (0 : Int), (0 : Int), (0 : Int)⟩
def k52 : Kd S52 := Kd.iso (Kd.pair (Kd.int .u64) (Kd.pair (Kd.int .i64) (Kd.pair (Kd.int .i64) (Kd.int .i64)))) (fun x : S52 => (x.f0, x.f1, x.f2, x.f3))
theorem k52_open {w : World} {x : S52} {cs : List Value} (h : k52.K w x cs) : cs = [.int .u64 x.f0, .int .i64 x.f1, .int .i64 x.f2, .int .i64 x.f3] := by
  obtain ⟨_, _, rfl, rfl, ⟨_, _, rfl, rfl, ⟨_, _, rfl, rfl, rfl⟩⟩⟩ := h
  exact rfl
theorem k52_openM {w : World} {base : Nat} {ok : Nat → Prop} {x : S52} {cs : List Value} (h : k52.M w base ok x cs) : cs = [.int .u64 x.f0, .int .i64 x.f1, .int .i64 x.f2, .int .i64 x.f3] := by
  obtain ⟨_, _, rfl, rfl, ⟨_, _, rfl, rfl, ⟨_, _, rfl, rfl, rfl⟩⟩⟩ := h
  exact rfl
theorem k52_mk (w : World) (x : S52)  : k52.K w x [.int .u64 x.f0, .int .i64 x.f1, .int .i64 x.f2, .int .i64 x.f3] := ⟨[.int .u64 x.f0], [.int .i64 x.f1, .int .i64 x.f2, .int .i64 x.f3], rfl, rfl, ⟨[.int .i64 x.f1], [.int .i64 x.f2, .int .i64 x.f3], rfl, rfl, ⟨[.int .i64 x.f2], [.int .i64 x.f3], rfl, rfl, rfl⟩⟩⟩
theorem k52_mkM (w : World) (base : Nat) (ok : Nat → Prop) (x : S52)  : k52.M w base ok x [.int .u64 x.f0, .int .i64 x.f1, .int .i64 x.f2, .int .i64 x.f3] := ⟨[.int .u64 x.f0], [.int .i64 x.f1, .int .i64 x.f2, .int .i64 x.f3], rfl, rfl, ⟨[.int .i64 x.f1], [.int .i64 x.f2, .int .i64 x.f3], rfl, rfl, ⟨[.int .i64 x.f2], [.int .i64 x.f3], rfl, rfl, rfl⟩⟩⟩
def rd_T52 (xs : List S52) (i : Int) : S52 := xs.getD i.toNat z52
theorem at_T52 {w : World} {A : Option Addr} {n : Nat} {xs : List S52} (h : Kd.C k52 w A n xs) (i : Int) (h0 : 0 ≤ i) (h1 : i < n) : ∃ ad , A = some ad ∧ w.cell? (ad.add (i.toNat * 4)) = some (.int .u64 (rd_T52 xs i).f0) ∧ w.cell? ⟨(ad.add (i.toNat * 4)).block, (ad.add (i.toNat * 4)).off + 1, none⟩ = some (.int .i64 (rd_T52 xs i).f1) ∧ w.cell? ⟨(ad.add (i.toNat * 4)).block, (ad.add (i.toNat * 4)).off + 2, none⟩ = some (.int .i64 (rd_T52 xs i).f2) ∧ w.cell? ⟨(ad.add (i.toNat * 4)).block, (ad.add (i.toNat * 4)).off + 3, none⟩ = some (.int .i64 (rd_T52 xs i).f3) := by
  obtain ⟨ad, c, e, _, hK, hc0⟩ := Kd.C_get h z52 i h0 h1
  have hc : ∀ j u, c[j]? = some u → w.cell? (ad.add (i.toNat * 4 + j)) = some u := hc0
  obtain rfl := k52_open hK
  exact ⟨ad, e, hc 0 _ rfl, by rw [← add_field _ _ 1 (by omega)]; exact hc 1 _ rfl, by rw [← add_field _ _ 2 (by omega)]; exact hc 2 _ rfl, by rw [← add_field _ _ 3 (by omega)]; exact hc 3 _ rfl⟩

def rd_L4 (xs : List (List Int)) (i : Int) : (List Int) := xs.getD i.toNat ([] : List Int)
theorem at_L4 {w : World} {A : Option Addr} {n : Nat} {xs : List (List Int)} (h : Kd.C (Kd.slice 5 (Kd.int .u8)) w A n xs) (i : Int) (h0 : 0 ≤ i) (h1 : i < n) : ∃ ad A0 c0, A = some ad ∧ w.cell? (ad.add i.toNat) = some (.slice A0 (rd_L4 xs i).length c0) ∧ (rd_L4 xs i).length ≤ c0 ∧ (Kd.int .u8).C w A0 (rd_L4 xs i).length (rd_L4 xs i) := by
  obtain ⟨ad, c, e, _, hK, hc0⟩ := Kd.C_get h ([] : List Int) i h0 h1
  have hc : ∀ j u, c[j]? = some u → w.cell? (ad.add (i.toNat * 1 + j)) = some u := hc0
  obtain ⟨A0, c0, rfl, l0, g0⟩ := hK
  exact ⟨ad, A0, c0, e, by have hq := hc 0 _ rfl; rwa [Nat.mul_one, Nat.add_zero] at hq, l0, g0⟩

end Go.Proofs.Yteimienhaodfcaa.PMeta

namespace Go.Proofs.Yteimienhaodfcaa.PMeta
open Go.RowKit Go.Proofs.YteimienhaodfcaaW.PrintWords Go.Proofs.YteimienhaodfcaaW.PrintLast Go.Proofs.YteimienhaodfcaaW.PrintMore
attribute [local go_sem] max2_int min2_int max_two min_two max_three min_three max_four min_four   -- for this text's walks alone
set_option linter.unusedVariables false
set_option linter.unusedSimpArgs false

-- NOT PRINTED: function 16 (disk_New)

-- NOT PRINTED: function 57 (disk_Disk_begin)

-- NOT PRINTED: function 63 (disk_Disk_at)

-- NOT PRINTED: function 58 (disk_Disk_settle)

-- NOT PRINTED: function 19 (disk_Disk_Sync)

-- NOT PRINTED: function 22 (disk_Disk_Crash)

/-! ### klaxonlaw04_num: function 33 -/
def klaxonlaw04_num.f (a0 : Int) : Option (Int) := some a0
set_option maxHeartbeats 8000000 in
set_option maxRecDepth 100000 in
theorem klaxonlaw04_num.calls (a0 : Int) (r : Int) (w : World) (h : klaxonlaw04_num.f a0 = some r) :
    Calls Try.prog 33 #[.int .i64 a0] w fun e w' => e = .returned (.int .i64 r) ∧ Drawn0 w w' := by
  have H : (some a0) = some r := h
  clear h
  obtain rfl := Option.some.inj H
  go_enter Try.func33, Try.ntmps33
  go_wp2
  go_ret
  exact ⟨by first | rfl | (simp; done) | (simp [*]; done), by repeat (first | exact Drawn0.refl _ | apply Drawn0.step)⟩

-- NOT PRINTED: function 56 (disk_Disk_has)

-- NOT PRINTED: function 62 (slices_Clone_byte_byte)

-- NOT PRINTED: function 21 (disk_Disk_Read)

-- NOT PRINTED: function 68 (meta_fields)

-- NOT PRINTED: function 71 (meta_field_lay)

-- NOT PRINTED: function 72 (quill_Mark)


/-! ### meta_Put: function 31 -/
open Go.Proofs.YteimienhaodfcaaK
def meta_Put.f (a0_0 : Int) (a0_1 : Int) (a0_2 : Int) (a0_3 : Int) : Option (List Int) := if 0 ≤ a0_0 ∧ a0_0 < 18446744073709551616 then some (metaOf a0_0 a0_1 a0_2 a0_3) else none
theorem meta_Put.calls (a0_0 : Int) (a0_1 : Int) (a0_2 : Int) (a0_3 : Int) (r : List Int) (w : World) (h : meta_Put.f a0_0 a0_1 a0_2 a0_3 = some r) :
    Calls Try.prog 31 #[.agg #[.int .u64 a0_0, .int .i64 a0_1, .int .i64 a0_2, .int .i64 a0_3]] w fun e w' => ∃ v0_ : Value, e = .returned v0_ ∧ Kd.R (Kd.int .u8) 5 w' w.heap.size (fun _ => True) v0_ r ∧ Below w.heap.size w w' := by
  unfold meta_Put.f at h
  by_cases hc : 0 ≤ a0_0 ∧ a0_0 < 18446744073709551616
  · rw [if_pos hc] at h
    obtain rfl := Option.some.inj h
    refine (mput_calls a0_0 a0_1 a0_2 a0_3 w hc).mono ?_
    rintro e w' ⟨g, rfl, hg, hb, hw⟩
    have hR := R_of_blk (ok := fun _ => True) hb hg trivial (by rw [metaB_length]; unfold maxLen; decide)
    rw [metaB_length] at hR
    exact ⟨_, rfl, hR, hw⟩
  · rw [if_neg hc] at h; cases h

-- NOT PRINTED: function 69 (meta_field_told)


/-! ### meta_Get: function 29 -/
open Go.Proofs.YteimienhaodfcaaK
def meta_Get.f (l0 : List Int) : Option (Int × Int × Int × Int × Int) := if Go.Crc.bytesB l0 = true then some (getM l0) else none
theorem meta_Get.calls (A0 : Option Addr) (c0 : Nat) (l0 : List Int) (r1 : Int) (r2 : Int) (r3 : Int) (r4 : Int) (r5 : Int) (w : World) (hr0 : Kd.C (Kd.int .u8) w A0 l0.length l0) (hc0 : l0.length ≤ c0) (h : meta_Get.f l0 = some (r1, r2, r3, r4, r5)) :
    Calls Try.prog 29 #[.slice A0 l0.length c0] w fun e w' => e = .returned (.tuple #[.agg #[.int .u64 r1, .int .i64 r2, .int .i64 r3, .int .i64 r4], .int .i64 r5]) ∧ Below w.heap.size w w' := by
  unfold meta_Get.f at h
  by_cases hc : Go.Crc.bytesB l0 = true
  · rw [if_pos hc] at h
    have e := Option.some.inj h
    refine (mget_calls A0 c0 l0 w hr0 hc0 (Go.Crc.bytesB_ok hc)).mono ?_
    rintro e' w' ⟨he, hw⟩
    rw [e] at he
    exact ⟨he, hw⟩
  · rw [if_neg hc] at h; cases h

-- NOT PRINTED: function 26 (disk_Disk_Sectors)

-- NOT PRINTED: function 27 (disk_Disk_Size)

-- NOT PRINTED: function 79 (page_Room)

-- NOT PRINTED: function 47 (page_Count)

-- NOT PRINTED: function 34 (meta_Best)

-- NOT PRINTED: function 84 (slices_Grow_byte_byte)

-- NOT PRINTED: function 55 (slices_Concat_byte_byte)

-- NOT PRINTED: function 18 (disk_Disk_Write)

-- NOT PRINTED: function 35 (meta_Write)


/-! ### klaxonlaw04_live: function 28 -/
open Go.Proofs.YteimienhaodfcaaK
def klaxonlaw04_live.f : Option Bool := some true
theorem klaxonlaw04_live.calls (r : Bool) (w : World) (h : klaxonlaw04_live.f = some r) :
    Calls Try.prog 28 #[] w fun e w' => e = .returned (.bool r) ∧ Below w.heap.size w w' := by
  obtain rfl : true = r := Option.some.inj h
  exact live4_calls w

/-! ### klaxonref04_big: function 73 -/
def klaxonref04_big.l0 : Nat → List Int → Int → Int → Option (List Int)
  | 0, _, _, _ => none
  | k + 1, x0, x1, x7 => if x7 ≥ 0 then (if 0 ≤ (IntKind.u64.wrap (wrap64 (8 * x7))) then (if x0.length < 140737488355328 then (klaxonref04_big.l0 k (x0 ++ [(shr .u64 x1 (IntKind.u64.wrap (wrap64 (8 * x7)))) % 256]) x1 (wrap64 (x7 - 1))) else (none)) else (none)) else (some x0)
def klaxonref04_big.f (k : Nat) (l0 : List Int) (a1 : Int) (a2 : Int) : Option (List Int) := klaxonref04_big.l0 k l0 a1 (wrap64 (a2 - 1))
theorem klaxonref04_big.mono_l : ∀ k, (∀ y0 y1 y2, LeO (klaxonref04_big.l0 k y0 y1 y2) (klaxonref04_big.l0 (k + 1) y0 y1 y2))
  | 0 => fun _ _ _ r h => by simp [klaxonref04_big.l0] at h
  | k + 1 => by
    have ih0 := klaxonref04_big.mono_l k
    · intro y0 y1 y2
      unfold klaxonref04_big.l0
      repeat' first
      | (with_reducible exact ih0 _ _ _)
      | (with_reducible exact LeO.refl _)
      | (with_reducible exact LeO.none _)
      | (with_reducible refine LeO.ite ?_ ?_)
      | (with_reducible refine LeO.bind ?_ (fun _ => ?_))
      | exact ih0 _ _ _
      | exact LeO.none _
      | refine LeO.ite ?_ ?_
      | refine LeO.bind ?_ (fun _ => ?_)
theorem klaxonref04_big.mono : ∀ a0 a1 a2 k, LeO (klaxonref04_big.f k a0 a1 a2) (klaxonref04_big.f (k + 1) a0 a1 a2) := by
  intro a0 a1 a2 k
  have ih0 := klaxonref04_big.mono_l k
  unfold klaxonref04_big.f
  repeat' first
      | (with_reducible exact ih0 _ _ _)
      | (with_reducible exact LeO.refl _)
      | (with_reducible exact LeO.none _)
      | (with_reducible refine LeO.ite ?_ ?_)
      | (with_reducible refine LeO.bind ?_ (fun _ => ?_))
      | exact ih0 _ _ _
      | exact LeO.none _
      | refine LeO.ite ?_ ?_
      | refine LeO.bind ?_ (fun _ => ?_)
set_option maxHeartbeats 8000000 in
set_option maxRecDepth 100000 in
theorem klaxonref04_big.calls (k : Nat) (P0_ : Nat → Prop) (u9000_ : Value) (l0 : List Int) (a1 : Int) (a2 : Int) (r : List Int) (w0 w : World) (hB : Below w0.heap.size w0 w) (ho0 : Kd.R (Kd.int .u8) 5 w w0.heap.size P0_ u9000_ l0) (h : klaxonref04_big.f k l0 a1 a2 = some r) :
    Calls Try.prog 73 #[u9000_, .int .u64 a1, .int .i64 a2] w fun e w' => ∃ v0_ : Value, e = .returned (v0_) ∧ Kd.R (Kd.int .u8) 5 w' w0.heap.size (fun k_ => (P0_ k_ ∨ w.heap.size ≤ k_)) v0_ r ∧ Below w0.heap.size w0 w' ∧ Kept w w' (fun k_ => P0_ k_) := by
  have HO0 := Aside0.mk (show Kd.R (Kd.int .u8) 5 w w0.heap.size (fun k_ => (P0_ k_ ∨ w.heap.size ≤ k_)) u9000_ l0 from Kd.R_mono ho0 (fun k_ hk => (.inl hk)))
  have HK := Aside0.mk (Kept.refl w (fun k_ => P0_ k_))
  have HW0 := Aside0.mk hB.size
  have HB := Aside0.mk hB
  clear hB
  have H : (klaxonref04_big.l0 k l0 a1 (wrap64 (a2 - 1))) = some r := h
  clear h
  have H' := Aside0.mk H
  clear H
  go_enter Try.func73, Try.ntmps73
  go_wp2
  go_loopg [0, 7] k (fun kq v0 v7 w' => ∃ (x0_1 : List Int) (x7_1 : Int), v7 = .int .i64 x7_1 ∧ Aside0 (klaxonref04_big.l0 kq x0_1 a1 x7_1 = some r) ∧ Aside0 (kq ≤ k) ∧ Aside0 (Kd.R (Kd.int .u8) 5 w' w0.heap.size (fun k_ => (P0_ k_ ∨ w.heap.size ≤ k_)) v0 x0_1) ∧ Aside0 (Kept w w' (fun k_ => P0_ k_)) ∧ Aside0 (Below w0.heap.size w0 w'))
  case atStart => exact ⟨(l0), (wrap64 (a2 - 1)), (by first | rfl | (simp; done) | (simp [*]; done)), H', ⟨Nat.le_refl _⟩, ⟨by (with_reducible repeat (first | apply Kd.R_alloc | apply Kd.R_drewN | apply Kd.R_drew)); exact HO0.out⟩, ⟨by repeat (first | (with_reducible first | exact HK.out | apply Kept.alloc | apply Kept.drewN | apply Kept.drew) | exact HK.out)⟩, ⟨by repeat (first | (with_reducible first | exact HB.out | apply below_alloc | apply pw_below_drewN | apply below_drew1) | exact HB.out)⟩⟩
  case round =>
    clear H'
    try clear p2
    obtain ⟨x0_1, x7_1, rfl, HA, HK1, HO_0, HK, HB⟩ := hrel
    cases gk with
    | zero => exact absurd HA.out (by simp [klaxonref04_big.l0])
    | succ k1 =>
      have H := HA.out
      clear HA
      simp only [klaxonref04_big.l0] at H
      by_cases c4 : x7_1 ≥ 0
      · rw [if_pos c4] at H
        have c4b0 : decide (0 ≤ x7_1) = true := decide_eq_true c4
        clear c4
        obtain ⟨ji5, hji5⟩ : ∃ j_ : Int, (IntKind.u64.wrap (wrap64 (8 * x7_1))) = j_ := ⟨_, rfl⟩
        replace H : (if 0 ≤ (ji5) then (if x0_1.length < 140737488355328 then (klaxonref04_big.l0 k1 (x0_1 ++ [(shr .u64 a1 (ji5)) % 256]) a1 (wrap64 (x7_1 - 1))) else (none)) else (none)) = some r := by first | (rw [hji5] at H; exact H) | (simp only [hji5] at H ⊢; exact H)
        by_cases c6 : 0 ≤ (ji5)
        · rw [if_pos c6] at H
          have c6b0 := eq_true c6
          have c6b1 : decide (0 ≤ (ji5)) = true := decide_eq_true c6
          clear c6
          obtain ⟨ji7, hji7⟩ : ∃ j_ : Int, (shr .u64 a1 (ji5)) = j_ := ⟨_, rfl⟩
          replace H : (if x0_1.length < 140737488355328 then (klaxonref04_big.l0 k1 (x0_1 ++ [(ji7) % 256]) a1 (wrap64 (x7_1 - 1))) else (none)) = some r := by first | (rw [hji7] at H; exact H) | (simp only [hji7] at H ⊢; exact H)
          have hji7_ : (a1 / 2 ^ min (ji5).toNat 64) = ji7 := hji7
          have hji7z : (ji5) ≤ 64 → (a1 / 2 ^ (ji5).toNat) = ji7 := shr_small hji7
          by_cases c8 : x0_1.length < 140737488355328
          · rw [if_pos c8] at H
            have LMc8 := Aside0.mk c8
            clear c8
            obtain ⟨y102, hy102⟩ : ∃ y_ : List Int, y_ = (x0_1 ++ [(ji7) % 256]) := ⟨_, rfl⟩
            replace H : (klaxonref04_big.l0 k1 y102 a1 (wrap64 (x7_1 - 1))) = some r := by first | (rw [hy102]; with_reducible exact H) | (have H2_ := (Option.bind_some _ _).symm.trans H; rw [hy102]; with_reducible exact H2_) | (have H2_ := (Option.bind_some _ _).symm.trans H; with_reducible exact H2_) | with_reducible exact H | (rw [hy102]; exact H) | exact H
            have Ny102 := Aside0.mk hy102
            clear hy102
            have H' := Aside0.mk H
            clear H
            go_wp2_with (first | ((with_reducible refine gate_builtin (b := .append) (xs := #[.tmp 14, .tmp 21]) rfl ?_); at_builtin; refine Kd.R_append (Kd.int .u8) (w0 := w0) w0.heap.size rfl (.tmp 14) (.tmp 21) 33 5 (.int .u8 0) 1 rfl Try.underlying33 info5 rfl (by decide) (by omega) u0 x0_1 ((ji7) % 256) [.int .u8 ((ji7) % 256)] (fun k_ => (P0_ k_ ∨ w.heap.size ≤ k_)) (fun _ => False) rfl rfl ?aP (fun _ hk => hk.elim) ?aF ?aO ?aB ?aS ?aL ?_; (case aP => exact rfl); (case aB => exact (by repeat (first | (with_reducible first | exact HB.out | apply below_alloc | apply pw_below_drewN | apply below_drew1) | exact HB.out))); (case aF => exact (fun k_ hk => (.inr (Nat.le_trans (by first | exact HK.out.1 | exact (show Kept w _ (fun k_ => P0_ k_) from by repeat (first | (with_reducible first | exact HK.out | apply Kept.alloc | apply Kept.drewN | apply Kept.drew) | exact HK.out)).1) hk)))); (case aO => exact (by (with_reducible repeat (first | apply Kd.R_alloc | apply Kd.R_drewN | apply Kd.R_drew)); exact HO_0.out)); (case aS => exact (below_size (by repeat (first | (with_reducible first | exact HB.out | apply below_alloc | apply pw_below_drewN | apply below_drew1) | exact HB.out)))); (case aL => have := LMc8.out; omega); intro v103 w9 ho hb hg hat; rw [← Ny102.out] at ho; have n0_ := Aside0.mk (hb); have n1_ := Aside0.mk (Kept.of_grown (S := (fun k_ => P0_ k_)) hg (by repeat (first | (with_reducible first | exact HK.out | apply Kept.alloc | apply Kept.drewN | apply Kept.drew) | exact HK.out)) (fun k_ e_ => (HO_0.out.1 k_ e_))); have n2_ := Aside0.mk (ho); clear HB; clear HK; clear HO_0; have HB := n0_; have HK := n1_; have HO104 := n2_; clear n0_ n1_ n2_; clear ho hb hg hat))
            go_roundg k1
            case measure => have := HK1.out; omega
            case rel => exact ⟨(y102), (wrap64 (x7_1 - 1)), (by first | rfl | (simp; done) | (simp [*]; done)), H', ⟨by have := HK1.out; omega⟩, ⟨by (with_reducible repeat (first | apply Kd.R_alloc | apply Kd.R_drewN | apply Kd.R_drew)); exact HO104.out⟩, ⟨by repeat (first | (with_reducible first | exact HK.out | apply Kept.alloc | apply Kept.drewN | apply Kept.drew) | exact HK.out)⟩, ⟨by repeat (first | (with_reducible first | exact HB.out | apply below_alloc | apply pw_below_drewN | apply below_drew1) | exact HB.out)⟩⟩
          · rw [if_neg c8] at H
            exact absurd H (by simp)
        · rw [if_neg c6] at H
          exact absurd H (by simp)
      · rw [if_neg c4] at H
        have c4b0 : decide (0 ≤ x7_1) = false := decide_eq_false c4
        clear c4
        obtain rfl := Option.some.inj H
        go_wp2
        go_ret
        exact ⟨_, by first | rfl | (simp [errW_none, errW_some] <;> rfl) | (simp [*, errW_none, errW_some] <;> rfl), by (with_reducible repeat (first | apply Kd.R_alloc | apply Kd.R_drewN | apply Kd.R_drew)); exact HO_0.out, by repeat (first | (with_reducible first | exact HB.out | apply below_alloc | apply pw_below_drewN | apply below_drew1) | exact HB.out), by repeat (first | (with_reducible first | exact HK.out | apply Kept.alloc | apply Kept.drewN | apply Kept.drew) | exact HK.out)⟩

/-! ### klaxonref01_Crc: function 74 -/
mutual
def klaxonref01_Crc.l0 : Nat → List Int → Int → Int → Option (Int)
  | 0, _, _, _ => none
  | k + 1, x0, x3, x4 => if x4 < (x0.length : Int) then (klaxonref01_Crc.l1 k x0 x3 x4 0) else (some x3)
def klaxonref01_Crc.l1 : Nat → List Int → Int → Int → Int → Option (Int)
  | 0, _, _, _, _ => none
  | k + 1, x0, x3, x4, x5 => if x5 < 8 then (if 0 ≤ x4 then (if x4 < (x0.length : Int) then (if 0 ≤ (IntKind.u64.wrap (x5)) then (if (Go.bits .and .u32 (Go.bits .xor .u32 x3 (shr .u32 ((rd x0 x4) % 4294967296) (IntKind.u64.wrap (x5)))) 1) = 1 then (klaxonref01_Crc.l1 k x0 (Go.bits .xor .u32 (x3 / 2) 3945912366) x4 (wrap64 (x5 + 1))) else (klaxonref01_Crc.l1 k x0 (x3 / 2) x4 (wrap64 (x5 + 1)))) else (none)) else (none)) else (none)) else (klaxonref01_Crc.l0 k x0 x3 (wrap64 (x4 + 1)))
end
def klaxonref01_Crc.f (k : Nat) (l0 : List Int) : Option (Int) := klaxonref01_Crc.l0 k l0 4294967295 0
theorem klaxonref01_Crc.mono_l : ∀ k, (∀ y0 y1 y2, LeO (klaxonref01_Crc.l0 k y0 y1 y2) (klaxonref01_Crc.l0 (k + 1) y0 y1 y2)) ∧ (∀ y0 y1 y2 y3, LeO (klaxonref01_Crc.l1 k y0 y1 y2 y3) (klaxonref01_Crc.l1 (k + 1) y0 y1 y2 y3))
  | 0 => ⟨fun _ _ _ r h => by simp [klaxonref01_Crc.l0] at h, fun _ _ _ _ r h => by simp [klaxonref01_Crc.l1] at h⟩
  | k + 1 => by
    obtain ⟨ih0, ih1⟩ := klaxonref01_Crc.mono_l k
    refine ⟨?_, ?_⟩
    · intro y0 y1 y2
      unfold klaxonref01_Crc.l0
      repeat' first
      | (with_reducible exact ih0 _ _ _)
      | (with_reducible exact ih1 _ _ _ _)
      | (with_reducible exact LeO.refl _)
      | (with_reducible exact LeO.none _)
      | (with_reducible refine LeO.ite ?_ ?_)
      | (with_reducible refine LeO.bind ?_ (fun _ => ?_))
      | exact ih0 _ _ _
      | exact ih1 _ _ _ _
      | exact LeO.none _
      | refine LeO.ite ?_ ?_
      | refine LeO.bind ?_ (fun _ => ?_)
    · intro y0 y1 y2 y3
      unfold klaxonref01_Crc.l1
      repeat' first
      | (with_reducible exact ih0 _ _ _)
      | (with_reducible exact ih1 _ _ _ _)
      | (with_reducible exact LeO.refl _)
      | (with_reducible exact LeO.none _)
      | (with_reducible refine LeO.ite ?_ ?_)
      | (with_reducible refine LeO.bind ?_ (fun _ => ?_))
      | exact ih0 _ _ _
      | exact ih1 _ _ _ _
      | exact LeO.none _
      | refine LeO.ite ?_ ?_
      | refine LeO.bind ?_ (fun _ => ?_)
theorem klaxonref01_Crc.mono : ∀ a0 k, LeO (klaxonref01_Crc.f k a0) (klaxonref01_Crc.f (k + 1) a0) := by
  intro a0 k
  obtain ⟨ih0, ih1⟩ := klaxonref01_Crc.mono_l k
  unfold klaxonref01_Crc.f
  repeat' first
      | (with_reducible exact ih0 _ _ _)
      | (with_reducible exact ih1 _ _ _ _)
      | (with_reducible exact LeO.refl _)
      | (with_reducible exact LeO.none _)
      | (with_reducible refine LeO.ite ?_ ?_)
      | (with_reducible refine LeO.bind ?_ (fun _ => ?_))
      | exact ih0 _ _ _
      | exact ih1 _ _ _ _
      | exact LeO.none _
      | refine LeO.ite ?_ ?_
      | refine LeO.bind ?_ (fun _ => ?_)
set_option maxHeartbeats 8000000 in
set_option maxRecDepth 100000 in
theorem klaxonref01_Crc.calls (k : Nat) (A0 : Option Addr) (c0 : Nat) (l0 : List Int) (r : Int) (w : World) (hr0 : Kd.C (Kd.int .u8) w A0 l0.length l0) (hc0 : l0.length ≤ c0) (h : klaxonref01_Crc.f k l0 = some r) :
    Calls Try.prog 74 #[.slice A0 l0.length c0] w fun e w' => e = .returned (.int .u32 r) ∧ Drawn0 w w' := by
  have HR0 := Aside0.mk hr0
  have HC0 := Aside0.mk hc0
  clear hr0 hc0
  have H : (klaxonref01_Crc.l0 k l0 4294967295 0) = some r := h
  clear h
  have H' := Aside0.mk H
  clear H
  go_enter Try.func74, Try.ntmps74
  go_wp2
  go_loopg [3, 4] k (fun kq v3 v4 w' => ∃ (x3_1 : Int) (x4_1 : Int), v3 = .int .u32 x3_1 ∧ v4 = .int .i64 x4_1 ∧ Aside0 (klaxonref01_Crc.l0 kq l0 x3_1 x4_1 = some r) ∧ Aside0 (kq ≤ k) ∧ Drawn0 w w')
  case atStart => exact ⟨(4294967295), (0), (by first | rfl | (simp; done) | (simp [*]; done)), (by first | rfl | (simp; done) | (simp [*]; done)), H', ⟨Nat.le_refl _⟩, by repeat (first | exact Drawn0.refl _ | apply Drawn0.step)⟩
  case round =>
    clear H'
    obtain ⟨x3_1, x4_1, rfl, rfl, HA, HK1, ⟨m1, rfl⟩⟩ := hrel
    cases gk with
    | zero => exact absurd HA.out (by simp [klaxonref01_Crc.l0])
    | succ k1 =>
      have H := HA.out
      clear HA
      simp only [klaxonref01_Crc.l0] at H
      by_cases c2 : x4_1 < (l0.length : Int)
      · rw [if_pos c2] at H
        have c2b0 : decide (x4_1 < (l0.length : Int)) = true := decide_eq_true c2
        clear c2
        have H' := Aside0.mk H
        clear H
        go_wp2
        go_loopg [3, 5] k1 (fun kq v3 v5 w' => ∃ (x3_2 : Int) (x5_2 : Int), v3 = .int .u32 x3_2 ∧ v5 = .int .i64 x5_2 ∧ Aside0 (klaxonref01_Crc.l1 kq l0 x3_2 x4_1 x5_2 = some r) ∧ Aside0 (kq ≤ k1) ∧ Drawn0 w w')
        case atStart => exact ⟨(x3_1), (0), (by first | rfl | (simp; done) | (simp [*]; done)), (by first | rfl | (simp; done) | (simp [*]; done)), H', ⟨Nat.le_refl _⟩, by repeat (first | exact Drawn0.refl _ | apply Drawn0.step)⟩
        case round =>
          clear H'
          try clear c2
          try clear c2b0
          try clear p2
          obtain ⟨x3_2, x5_2, rfl, rfl, HA, HK2, ⟨m2, rfl⟩⟩ := hrel
          cases gk with
          | zero => exact absurd HA.out (by simp [klaxonref01_Crc.l1])
          | succ k2 =>
            have H := HA.out
            clear HA
            simp only [klaxonref01_Crc.l1] at H
            by_cases c3 : x5_2 < 8
            · rw [if_pos c3] at H
              have c3b0 : decide (x5_2 < 8) = true := decide_eq_true c3
              clear c3
              by_cases c4 : 0 ≤ x4_1
              · rw [if_pos c4] at H
                have c4b0 : decide (0 ≤ x4_1) = true := decide_eq_true c4
                clear c4
                by_cases c5 : x4_1 < (l0.length : Int)
                · rw [if_pos c5] at H
                  have c5b0 : decide (x4_1 < (l0.length : Int)) = true := decide_eq_true c5
                  clear c5
                  obtain ⟨ji6, hji6⟩ : ∃ j_ : Int, (IntKind.u64.wrap (x5_2)) = j_ := ⟨_, rfl⟩
                  replace H : (if 0 ≤ (ji6) then (if (Go.bits .and .u32 (Go.bits .xor .u32 x3_2 (shr .u32 ((rd l0 x4_1) % 4294967296) (ji6))) 1) = 1 then (klaxonref01_Crc.l1 k2 l0 (Go.bits .xor .u32 (x3_2 / 2) 3945912366) x4_1 (wrap64 (x5_2 + 1))) else (klaxonref01_Crc.l1 k2 l0 (x3_2 / 2) x4_1 (wrap64 (x5_2 + 1)))) else (none)) = some r := by first | (rw [hji6] at H; exact H) | (simp only [hji6] at H ⊢; exact H)
                  by_cases c7 : 0 ≤ (ji6)
                  · rw [if_pos c7] at H
                    have c7b0 := eq_true c7
                    have c7b1 : decide (0 ≤ (ji6)) = true := decide_eq_true c7
                    clear c7
                    obtain ⟨ji8, hji8⟩ : ∃ j_ : Int, (shr .u32 ((rd l0 x4_1) % 4294967296) (ji6)) = j_ := ⟨_, rfl⟩
                    replace H : (if (Go.bits .and .u32 (Go.bits .xor .u32 x3_2 (ji8)) 1) = 1 then (klaxonref01_Crc.l1 k2 l0 (Go.bits .xor .u32 (x3_2 / 2) 3945912366) x4_1 (wrap64 (x5_2 + 1))) else (klaxonref01_Crc.l1 k2 l0 (x3_2 / 2) x4_1 (wrap64 (x5_2 + 1)))) = some r := by first | (rw [hji8] at H; exact H) | (simp only [hji8] at H ⊢; exact H)
                    have hji8_ : (((rd l0 x4_1) % 4294967296) / 2 ^ min (ji6).toNat 32) = ji8 := hji8
                    have hji8z : (ji6) ≤ 32 → (((rd l0 x4_1) % 4294967296) / 2 ^ (ji6).toNat) = ji8 := shr_small hji8
                    by_cases c9 : (Go.bits .and .u32 (Go.bits .xor .u32 x3_2 (ji8)) 1) = 1
                    · rw [if_pos c9] at H
                      have c9b0 : ((Go.bits .and .u32 (Go.bits .xor .u32 x3_2 (ji8)) 1) == 1) = true := beq_iff_eq.mpr c9
                      have c9b1 : ((Go.bits .and .u32 (Go.bits .xor .u32 x3_2 (ji8)) 1) != 1) = false := bne_eq_false_iff_eq.mpr c9
                      clear c9
                      have H' := Aside0.mk H
                      clear H
                      have p105 : 0 ≤ (x4_1 : Int) := of_decide_eq_true (by first | (with_reducible assumption) | assumption)
                      have q105 : x4_1 < (l0.length : Int) := of_decide_eq_true (by first | (with_reducible assumption) | assumption)
                      obtain ⟨ad105, e105, hx105_0⟩ := Kd.at_int HR0.out x4_1 p105 q105
                      cases e105
                      replace p105 := eq_true p105
                      replace q105 := eq_true q105
                      go_wp2
                      go_roundg k2
                      case measure => have := HK1.out; have := HK2.out; omega
                      case rel => exact ⟨(Go.bits .xor .u32 (x3_2 / 2) 3945912366), (wrap64 (x5_2 + 1)), (by first | rfl | (simp; done) | (simp [*]; done)), (by first | rfl | (simp; done) | (simp [*]; done)), H', ⟨by have := HK1.out; have := HK2.out; omega⟩, by repeat (first | exact Drawn0.refl _ | apply Drawn0.step)⟩
                    · rw [if_neg c9] at H
                      have c9b0 : ((Go.bits .and .u32 (Go.bits .xor .u32 x3_2 (ji8)) 1) == 1) = false := beq_eq_false_iff_ne.mpr c9
                      have c9b1 : ((Go.bits .and .u32 (Go.bits .xor .u32 x3_2 (ji8)) 1) != 1) = true := bne_iff_ne.mpr c9
                      have H' := Aside0.mk H
                      clear H
                      have p105 : 0 ≤ (x4_1 : Int) := of_decide_eq_true (by first | (with_reducible assumption) | assumption)
                      have q105 : x4_1 < (l0.length : Int) := of_decide_eq_true (by first | (with_reducible assumption) | assumption)
                      obtain ⟨ad105, e105, hx105_0⟩ := Kd.at_int HR0.out x4_1 p105 q105
                      cases e105
                      replace p105 := eq_true p105
                      replace q105 := eq_true q105
                      go_wp2
                      go_roundg k2
                      case measure => have := HK1.out; have := HK2.out; omega
                      case rel => exact ⟨(x3_2 / 2), (wrap64 (x5_2 + 1)), (by first | rfl | (simp; done) | (simp [*]; done)), (by first | rfl | (simp; done) | (simp [*]; done)), H', ⟨by have := HK1.out; have := HK2.out; omega⟩, by repeat (first | exact Drawn0.refl _ | apply Drawn0.step)⟩
                  · rw [if_neg c7] at H
                    exact absurd H (by simp)
                · rw [if_neg c5] at H
                  exact absurd H (by simp)
              · rw [if_neg c4] at H
                exact absurd H (by simp)
            · rw [if_neg c3] at H
              have c3b0 : decide (x5_2 < 8) = false := decide_eq_false c3
              clear c3
              have H' := Aside0.mk H
              clear H
              go_wp2
              go_roundg k2
              case measure => have := HK1.out; have := HK2.out; omega
              case rel => exact ⟨(x3_2), (wrap64 (x4_1 + 1)), (by first | rfl | (simp; done) | (simp [*]; done)), (by first | rfl | (simp; done) | (simp [*]; done)), H', ⟨by have := HK1.out; have := HK2.out; omega⟩, by repeat (first | exact Drawn0.refl _ | apply Drawn0.step)⟩
      · rw [if_neg c2] at H
        have c2b0 : decide (x4_1 < (l0.length : Int)) = false := decide_eq_false c2
        clear c2
        obtain rfl := Option.some.inj H
        go_wp2
        go_ret
        exact ⟨by first | rfl | (simp; done) | (simp [*]; done), by repeat (first | exact Drawn0.refl _ | apply Drawn0.step)⟩

/-! ### klaxonref04_Put: function 32 -/
def klaxonref04_Put.f (k : Nat) (a0_0 : Int) (a0_1 : Int) (a0_2 : Int) (a0_3 : Int) : Option (ByteArray) := (klaxonref04_big.f k ([] : List Int) a0_0 8).bind fun t107 => ((klaxonref04_big.f k t107 (IntKind.u64.wrap (a0_1)) 4).bind fun t110 => ((klaxonref04_big.f k t110 (IntKind.u64.wrap (a0_2)) 8).bind fun t113 => ((klaxonref04_big.f k t113 (IntKind.u64.wrap (a0_3)) 4).bind fun t116 => ((klaxonref01_Crc.f k t116).bind fun t119 => ((klaxonref04_big.f k t116 (IntKind.u64.wrap (t119)) 4).bind fun t120 => ((klaxonref04_big.f k t120 a0_0 8).bind fun t123 => (some (strOfNums t123))))))))
theorem klaxonref04_Put.mono : ∀ a0 a1 a2 a3 k, LeO (klaxonref04_Put.f k a0 a1 a2 a3) (klaxonref04_Put.f (k + 1) a0 a1 a2 a3) := by
  intro a0 a1 a2 a3 k
  unfold klaxonref04_Put.f
  repeat' first
      | (with_reducible exact klaxonref01_Crc.mono _ _)
      | (with_reducible exact klaxonref04_big.mono _ _ _ _)
      | (with_reducible exact LeO.refl _)
      | (with_reducible exact LeO.none _)
      | (with_reducible refine LeO.ite ?_ ?_)
      | (with_reducible refine LeO.bind ?_ (fun _ => ?_))
      | exact klaxonref01_Crc.mono _ _
      | exact klaxonref04_big.mono _ _ _ _
      | exact LeO.none _
      | refine LeO.ite ?_ ?_
      | refine LeO.bind ?_ (fun _ => ?_)
set_option maxHeartbeats 8000000 in
set_option maxRecDepth 100000 in
theorem klaxonref04_Put.calls (k : Nat) (a0_0 : Int) (a0_1 : Int) (a0_2 : Int) (a0_3 : Int) (r : ByteArray) (w : World) (h : klaxonref04_Put.f k a0_0 a0_1 a0_2 a0_3 = some r) :
    Calls Try.prog 32 #[.agg #[.int .u64 a0_0, .int .i64 a0_1, .int .i64 a0_2, .int .i64 a0_3]] w fun e w' => e = .returned (.string r) ∧ Below w.heap.size w w' := by
  have hu52 := Try.underlying52
  have HB := Aside0.mk (Below.refl w.heap.size w)
  have H : ((klaxonref04_big.f k ([] : List Int) a0_0 8).bind fun t107 => ((klaxonref04_big.f k t107 (IntKind.u64.wrap (a0_1)) 4).bind fun t110 => ((klaxonref04_big.f k t110 (IntKind.u64.wrap (a0_2)) 8).bind fun t113 => ((klaxonref04_big.f k t113 (IntKind.u64.wrap (a0_3)) 4).bind fun t116 => ((klaxonref01_Crc.f k t116).bind fun t119 => ((klaxonref04_big.f k t116 (IntKind.u64.wrap (t119)) 4).bind fun t120 => ((klaxonref04_big.f k t120 a0_0 8).bind fun t123 => (some (strOfNums t123))))))))) = some r := h
  clear h
  replace H := Option.bind_eq_some_iff.mp H
  obtain ⟨t107, A20, H⟩ := H
  replace H : ((klaxonref04_big.f k t107 (IntKind.u64.wrap (a0_1)) 4).bind fun t110 => ((klaxonref04_big.f k t110 (IntKind.u64.wrap (a0_2)) 8).bind fun t113 => ((klaxonref04_big.f k t113 (IntKind.u64.wrap (a0_3)) 4).bind fun t116 => ((klaxonref01_Crc.f k t116).bind fun t119 => ((klaxonref04_big.f k t116 (IntKind.u64.wrap (t119)) 4).bind fun t120 => ((klaxonref04_big.f k t120 a0_0 8).bind fun t123 => (some (strOfNums t123)))))))) = some r := H
  have A2 := Aside0.mk A20
  clear A20
  replace H := Option.bind_eq_some_iff.mp H
  obtain ⟨t110, A30, H⟩ := H
  replace H : ((klaxonref04_big.f k t110 (IntKind.u64.wrap (a0_2)) 8).bind fun t113 => ((klaxonref04_big.f k t113 (IntKind.u64.wrap (a0_3)) 4).bind fun t116 => ((klaxonref01_Crc.f k t116).bind fun t119 => ((klaxonref04_big.f k t116 (IntKind.u64.wrap (t119)) 4).bind fun t120 => ((klaxonref04_big.f k t120 a0_0 8).bind fun t123 => (some (strOfNums t123))))))) = some r := H
  have A3 := Aside0.mk A30
  clear A30
  replace H := Option.bind_eq_some_iff.mp H
  obtain ⟨t113, A40, H⟩ := H
  replace H : ((klaxonref04_big.f k t113 (IntKind.u64.wrap (a0_3)) 4).bind fun t116 => ((klaxonref01_Crc.f k t116).bind fun t119 => ((klaxonref04_big.f k t116 (IntKind.u64.wrap (t119)) 4).bind fun t120 => ((klaxonref04_big.f k t120 a0_0 8).bind fun t123 => (some (strOfNums t123)))))) = some r := H
  have A4 := Aside0.mk A40
  clear A40
  replace H := Option.bind_eq_some_iff.mp H
  obtain ⟨t116, A50, H⟩ := H
  replace H : ((klaxonref01_Crc.f k t116).bind fun t119 => ((klaxonref04_big.f k t116 (IntKind.u64.wrap (t119)) 4).bind fun t120 => ((klaxonref04_big.f k t120 a0_0 8).bind fun t123 => (some (strOfNums t123))))) = some r := H
  have A5 := Aside0.mk A50
  clear A50
  replace H := Option.bind_eq_some_iff.mp H
  obtain ⟨t119, A60, H⟩ := H
  replace H : ((klaxonref04_big.f k t116 (IntKind.u64.wrap (t119)) 4).bind fun t120 => ((klaxonref04_big.f k t120 a0_0 8).bind fun t123 => (some (strOfNums t123)))) = some r := H
  have A6 := Aside0.mk A60
  clear A60
  replace H := Option.bind_eq_some_iff.mp H
  obtain ⟨t120, A70, H⟩ := H
  replace H : ((klaxonref04_big.f k t120 a0_0 8).bind fun t123 => (some (strOfNums t123))) = some r := H
  have A7 := Aside0.mk A70
  clear A70
  replace H := Option.bind_eq_some_iff.mp H
  obtain ⟨t123, A80, H⟩ := H
  replace H : (some (strOfNums t123)) = some r := H
  have A8 := Aside0.mk A80
  clear A80
  obtain rfl := Option.some.inj H
  go_enter Try.func32, Try.ntmps32
  go_wp2_with (first | ((with_reducible refine gate_dst (N := 1) rfl ?_); refine box_event ?hg (N := 1) ?hd (cs := #[.int .u64 a0_0, .int .i64 a0_1, .int .i64 a0_2, .int .i64 a0_3]) (t := 52) ?hr ?_; (case hd => rfl); (case hg => rfl); (case hr => first | (go_simp; done) | (go_simp; rfl)); intro gb106 hg w9 hbox hb; have n0_ := Aside0.mk (below_step (by repeat (first | (with_reducible first | exact HB.out | apply below_alloc | apply pw_below_drewN | apply below_drew1) | exact HB.out)) hb); have n1_ := Aside0.mk (hbox); have n2_ := Aside0.mk ((by rw [hg]; exact (below_size (by repeat (first | (with_reducible first | exact HB.out | apply below_alloc | apply pw_below_drewN | apply below_drew1) | exact HB.out))) : w.heap.size ≤ gb106)); have n3_ := Aside0.mk ((by rw [hg]; exact (below_size (by repeat (first | (with_reducible first | exact HB.out | apply below_alloc | apply pw_below_drewN | apply below_drew1) | exact HB.out))) : w.heap.size ≤ gb106)); clear HB; have HB := n0_; have BK106 := n1_; have GW106 := n2_; have GE106 := n3_; clear n0_ n1_ n2_ n3_; clear hb hbox hg; have hcz10_0 : w9.cell? ⟨gb106, 0, none⟩ = some (.int .u64 a0_0) := (blk_cell BK106.out 0).trans rfl; have hcz10_1 : w9.cell? ⟨gb106, 1, none⟩ = some (.int .i64 a0_1) := (blk_cell BK106.out 1).trans rfl; have hcz10_2 : w9.cell? ⟨gb106, 2, none⟩ = some (.int .i64 a0_2) := (blk_cell BK106.out 2).trans rfl; have hcz10_3 : w9.cell? ⟨gb106, 3, none⟩ = some (.int .i64 a0_3) := (blk_cell BK106.out 3).trans rfl; have hfz10_0 := blk_frozen BK106.out 0; have hfz10_1 := blk_frozen BK106.out 1; have hfz10_2 := blk_frozen BK106.out 2; have hfz10_3 := blk_frozen BK106.out 3) | ((with_reducible refine gate_callee (f := 73) rfl ?_); refine goesL_ (some 6) rfl rfl Try.func73 (by kernel_rfl) rfl #[.slice none 0 0, .int .u64 a0_0, .int .i64 8] rfl (by (try simp only [List.map_toArray, List.map_cons, List.map_nil]); first | done | rfl | (simp only [List.length_drop, List.length_take]; rfl)) ?_; (refine (klaxonref04_big.calls k (fun k_ => some k_ = (.slice none 0 0 : Value).ownBlock) (.slice none 0 0) ([] : List Int) a0_0 8 t107 w _ ?side1 ?side2 A2.out).mono ?_); (case side1 => repeat (first | (with_reducible first | exact HB.out | apply below_alloc | apply pw_below_drewN | apply below_drew1 | refine below_set ?_ GE106.out) | exact HB.out)); (case side2 => exact Kd.R_nil _ _ _ _ _); rintro e w11 ⟨v108, rfl, ho0, hb, hkp⟩; refine ⟨_, rfl, ?_⟩; have n0_ := Aside0.mk (blk_kept (by (with_reducible repeat (first | refine blk_drewN ?_ _ | refine blk_drew ?_ | refine blk_alloc ?_ _)); exact BK106.out) hkp (fun hs_ => (fun e_ => by simp [Value.ownBlock] at e_) hs_)); have n1_ := Aside0.mk (Kd.R_mono (ok' := fun k_ => True) ho0 (fun k_ hk_ => trivial)); have n2_ := Aside0.mk (hb); clear BK106; clear HB; have BK106 := n0_; have HO109 := n1_; have HB := n2_; clear n0_ n1_ n2_; (try clear hb); (try clear hkp); (try clear ho0); have hcz12_0 : w11.cell? ⟨gb106, 0, none⟩ = some (.int .u64 a0_0) := (blk_cell BK106.out 0).trans rfl; have hcz12_1 : w11.cell? ⟨gb106, 1, none⟩ = some (.int .i64 a0_1) := (blk_cell BK106.out 1).trans rfl; have hcz12_2 : w11.cell? ⟨gb106, 2, none⟩ = some (.int .i64 a0_2) := (blk_cell BK106.out 2).trans rfl; have hcz12_3 : w11.cell? ⟨gb106, 3, none⟩ = some (.int .i64 a0_3) := (blk_cell BK106.out 3).trans rfl; have hfz12_0 := blk_frozen BK106.out 0; have hfz12_1 := blk_frozen BK106.out 1; have hfz12_2 := blk_frozen BK106.out 2; have hfz12_3 := blk_frozen BK106.out 3; obtain ⟨Ao13, co13, eo13⟩ := Kd.R_slice HO109.out; subst eo13) | ((with_reducible refine gate_callee (f := 73) rfl ?_); refine goesL_ (some 11) rfl rfl Try.func73 (by kernel_rfl) rfl #[.slice Ao13 t107.length co13, .int .u64 (IntKind.u64.wrap (a0_1)), .int .i64 4] rfl (by (try simp only [List.map_toArray, List.map_cons, List.map_nil]); first | done | rfl | (simp only [List.length_drop, List.length_take]; rfl)) ?_; (with_reducible refine (klaxonref04_big.calls k (fun k_ => some k_ = (.slice Ao13 t107.length co13 : Value).ownBlock) (.slice Ao13 t107.length co13) t107 (IntKind.u64.wrap (a0_1)) 4 t110 w _ ?side1 ?side2 A3.out).mono ?_); (case side1 => repeat (first | (with_reducible first | exact HB.out | apply below_alloc | apply pw_below_drewN | apply below_drew1 | refine below_set ?_ GE106.out) | exact HB.out)); (case side2 => exact Kd.R_tight rfl HO109.out); rintro e w14 ⟨v111, rfl, ho0, hb, hkp⟩; refine ⟨_, rfl, ?_⟩; have n0_ := Aside0.mk (blk_kept (by (with_reducible repeat (first | refine blk_drewN ?_ _ | refine blk_drew ?_ | refine blk_alloc ?_ _)); exact BK106.out) hkp (fun hs_ => (fun e_ => (Kd.R_ne HO109.out BK106.out (by decide)) e_) hs_)); have n1_ := Aside0.mk (Kd.R_mono (ok' := fun k_ => True) ho0 (fun k_ hk_ => trivial)); have n2_ := Aside0.mk (hb); clear BK106; clear HB; clear HO109; have BK106 := n0_; have HO112 := n1_; have HB := n2_; clear n0_ n1_ n2_; (try clear hb); (try clear hkp); (try clear ho0); have hcz15_0 : w14.cell? ⟨gb106, 0, none⟩ = some (.int .u64 a0_0) := (blk_cell BK106.out 0).trans rfl; have hcz15_1 : w14.cell? ⟨gb106, 1, none⟩ = some (.int .i64 a0_1) := (blk_cell BK106.out 1).trans rfl; have hcz15_2 : w14.cell? ⟨gb106, 2, none⟩ = some (.int .i64 a0_2) := (blk_cell BK106.out 2).trans rfl; have hcz15_3 : w14.cell? ⟨gb106, 3, none⟩ = some (.int .i64 a0_3) := (blk_cell BK106.out 3).trans rfl; have hfz15_0 := blk_frozen BK106.out 0; have hfz15_1 := blk_frozen BK106.out 1; have hfz15_2 := blk_frozen BK106.out 2; have hfz15_3 := blk_frozen BK106.out 3; obtain ⟨Ao16, co16, eo16⟩ := Kd.R_slice HO112.out; subst eo16) | ((with_reducible refine gate_callee (f := 73) rfl ?_); refine goesL_ (some 16) rfl rfl Try.func73 (by kernel_rfl) rfl #[.slice Ao16 t110.length co16, .int .u64 (IntKind.u64.wrap (a0_2)), .int .i64 8] rfl (by (try simp only [List.map_toArray, List.map_cons, List.map_nil]); first | done | rfl | (simp only [List.length_drop, List.length_take]; rfl)) ?_; (with_reducible refine (klaxonref04_big.calls k (fun k_ => some k_ = (.slice Ao16 t110.length co16 : Value).ownBlock) (.slice Ao16 t110.length co16) t110 (IntKind.u64.wrap (a0_2)) 8 t113 w _ ?side1 ?side2 A4.out).mono ?_); (case side1 => repeat (first | (with_reducible first | exact HB.out | apply below_alloc | apply pw_below_drewN | apply below_drew1 | refine below_set ?_ GE106.out) | exact HB.out)); (case side2 => exact Kd.R_tight rfl HO112.out); rintro e w17 ⟨v114, rfl, ho0, hb, hkp⟩; refine ⟨_, rfl, ?_⟩; have n0_ := Aside0.mk (blk_kept (by (with_reducible repeat (first | refine blk_drewN ?_ _ | refine blk_drew ?_ | refine blk_alloc ?_ _)); exact BK106.out) hkp (fun hs_ => (fun e_ => (Kd.R_ne HO112.out BK106.out (by decide)) e_) hs_)); have n1_ := Aside0.mk (Kd.R_mono (ok' := fun k_ => True) ho0 (fun k_ hk_ => trivial)); have n2_ := Aside0.mk (hb); clear BK106; clear HB; clear HO112; have BK106 := n0_; have HO115 := n1_; have HB := n2_; clear n0_ n1_ n2_; (try clear hb); (try clear hkp); (try clear ho0); have hcz18_0 : w17.cell? ⟨gb106, 0, none⟩ = some (.int .u64 a0_0) := (blk_cell BK106.out 0).trans rfl; have hcz18_1 : w17.cell? ⟨gb106, 1, none⟩ = some (.int .i64 a0_1) := (blk_cell BK106.out 1).trans rfl; have hcz18_2 : w17.cell? ⟨gb106, 2, none⟩ = some (.int .i64 a0_2) := (blk_cell BK106.out 2).trans rfl; have hcz18_3 : w17.cell? ⟨gb106, 3, none⟩ = some (.int .i64 a0_3) := (blk_cell BK106.out 3).trans rfl; have hfz18_0 := blk_frozen BK106.out 0; have hfz18_1 := blk_frozen BK106.out 1; have hfz18_2 := blk_frozen BK106.out 2; have hfz18_3 := blk_frozen BK106.out 3; obtain ⟨Ao19, co19, eo19⟩ := Kd.R_slice HO115.out; subst eo19) | ((with_reducible refine gate_callee (f := 73) rfl ?_); refine goesL_ (some 21) rfl rfl Try.func73 (by kernel_rfl) rfl #[.slice Ao19 t113.length co19, .int .u64 (IntKind.u64.wrap (a0_3)), .int .i64 4] rfl (by (try simp only [List.map_toArray, List.map_cons, List.map_nil]); first | done | rfl | (simp only [List.length_drop, List.length_take]; rfl)) ?_; (with_reducible refine (klaxonref04_big.calls k (fun k_ => some k_ = (.slice Ao19 t113.length co19 : Value).ownBlock) (.slice Ao19 t113.length co19) t113 (IntKind.u64.wrap (a0_3)) 4 t116 w _ ?side1 ?side2 A5.out).mono ?_); (case side1 => repeat (first | (with_reducible first | exact HB.out | apply below_alloc | apply pw_below_drewN | apply below_drew1 | refine below_set ?_ GE106.out) | exact HB.out)); (case side2 => exact Kd.R_tight rfl HO115.out); rintro e w20 ⟨v117, rfl, ho0, hb, hkp⟩; refine ⟨_, rfl, ?_⟩; have n0_ := Aside0.mk (blk_kept (by (with_reducible repeat (first | refine blk_drewN ?_ _ | refine blk_drew ?_ | refine blk_alloc ?_ _)); exact BK106.out) hkp (fun hs_ => (fun e_ => (Kd.R_ne HO115.out BK106.out (by decide)) e_) hs_)); have n1_ := Aside0.mk (Kd.R_mono (ok' := fun k_ => True) ho0 (fun k_ hk_ => trivial)); have n2_ := Aside0.mk (hb); clear BK106; clear HB; clear HO115; have BK106 := n0_; have HO118 := n1_; have HB := n2_; clear n0_ n1_ n2_; (try clear hb); (try clear hkp); (try clear ho0); obtain ⟨Ao21, co21, eo21⟩ := Kd.R_slice HO118.out; subst eo21) | ((with_reducible refine gate_callee (f := 74) rfl ?_); refine goesL_ (some 24) rfl rfl Try.func74 (by kernel_rfl) rfl #[.slice Ao21 t116.length co21] rfl (by (try simp only [List.map_toArray, List.map_cons, List.map_nil]); first | done | rfl | (simp only [List.length_drop, List.length_take]; rfl)) ?_; (with_reducible refine (klaxonref01_Crc.calls k _ _ t116 t119 _ ?side1 ?side2 A6.out).mono ?_); (case side1 => repeat (first | exact (Kd.R_reads' HO118.out).2.2 | (with_reducible refine Kd.C_alloc ?_ _) | (with_reducible refine Kd.C_drewN ?_ _) | (with_reducible refine Kd.C_drew ?_))); (case side2 => exact (Kd.R_reads' HO118.out).2.1); rintro e w' ⟨rfl, ⟨nd, rfl⟩⟩; refine ⟨_, rfl, ?_⟩) | ((with_reducible refine gate_callee (f := 73) rfl ?_); refine goesL_ (some 26) rfl rfl Try.func73 (by kernel_rfl) rfl #[.slice Ao21 t116.length co21, .int .u64 (IntKind.u64.wrap (t119)), .int .i64 4] rfl (by (try simp only [List.map_toArray, List.map_cons, List.map_nil]); first | done | rfl | (simp only [List.length_drop, List.length_take]; rfl)) ?_; (with_reducible refine (klaxonref04_big.calls k (fun k_ => some k_ = (.slice Ao21 t116.length co21 : Value).ownBlock) (.slice Ao21 t116.length co21) t116 (IntKind.u64.wrap (t119)) 4 t120 w _ ?side1 ?side2 A7.out).mono ?_); (case side1 => repeat (first | (with_reducible first | exact HB.out | apply below_alloc | apply pw_below_drewN | apply below_drew1 | refine below_set ?_ GE106.out) | exact HB.out)); (case side2 => exact Kd.R_tight rfl HO118.out); rintro e w22 ⟨v121, rfl, ho0, hb, hkp⟩; refine ⟨_, rfl, ?_⟩; have n0_ := Aside0.mk (blk_kept (by (with_reducible repeat (first | refine blk_drewN ?_ _ | refine blk_drew ?_ | refine blk_alloc ?_ _)); exact BK106.out) hkp (fun hs_ => (fun e_ => (Kd.R_ne HO118.out BK106.out (by decide)) e_) hs_)); have n1_ := Aside0.mk (Kd.R_mono (ok' := fun k_ => True) ho0 (fun k_ hk_ => trivial)); have n2_ := Aside0.mk (hb); clear BK106; clear HB; clear HO118; have BK106 := n0_; have HO122 := n1_; have HB := n2_; clear n0_ n1_ n2_; (try clear hb); (try clear hkp); (try clear ho0); have hcz23_0 : w22.cell? ⟨gb106, 0, none⟩ = some (.int .u64 a0_0) := (blk_cell BK106.out 0).trans rfl; have hcz23_1 : w22.cell? ⟨gb106, 1, none⟩ = some (.int .i64 a0_1) := (blk_cell BK106.out 1).trans rfl; have hcz23_2 : w22.cell? ⟨gb106, 2, none⟩ = some (.int .i64 a0_2) := (blk_cell BK106.out 2).trans rfl; have hcz23_3 : w22.cell? ⟨gb106, 3, none⟩ = some (.int .i64 a0_3) := (blk_cell BK106.out 3).trans rfl; have hfz23_0 := blk_frozen BK106.out 0; have hfz23_1 := blk_frozen BK106.out 1; have hfz23_2 := blk_frozen BK106.out 2; have hfz23_3 := blk_frozen BK106.out 3; obtain ⟨Ao24, co24, eo24⟩ := Kd.R_slice HO122.out; subst eo24) | ((with_reducible refine gate_callee (f := 73) rfl ?_); refine goesL_ (some 30) rfl rfl Try.func73 (by kernel_rfl) rfl #[.slice Ao24 t120.length co24, .int .u64 a0_0, .int .i64 8] rfl (by (try simp only [List.map_toArray, List.map_cons, List.map_nil]); first | done | rfl | (simp only [List.length_drop, List.length_take]; rfl)) ?_; (with_reducible refine (klaxonref04_big.calls k (fun k_ => some k_ = (.slice Ao24 t120.length co24 : Value).ownBlock) (.slice Ao24 t120.length co24) t120 a0_0 8 t123 w _ ?side1 ?side2 A8.out).mono ?_); (case side1 => repeat (first | (with_reducible first | exact HB.out | apply below_alloc | apply pw_below_drewN | apply below_drew1 | refine below_set ?_ GE106.out) | exact HB.out)); (case side2 => exact Kd.R_tight rfl HO122.out); rintro e w25 ⟨v124, rfl, ho0, hb, hkp⟩; refine ⟨_, rfl, ?_⟩; have n0_ := Aside0.mk (blk_kept (by (with_reducible repeat (first | refine blk_drewN ?_ _ | refine blk_drew ?_ | refine blk_alloc ?_ _)); exact BK106.out) hkp (fun hs_ => (fun e_ => (Kd.R_ne HO122.out BK106.out (by decide)) e_) hs_)); have n1_ := Aside0.mk (Kd.R_mono (ok' := fun k_ => True) ho0 (fun k_ hk_ => trivial)); have n2_ := Aside0.mk (hb); clear BK106; clear HB; clear HO122; have BK106 := n0_; have HO125 := n1_; have HB := n2_; clear n0_ n1_ n2_; (try clear hb); (try clear hkp); (try clear ho0); have hcv26 := own_string (P := Try.prog) Try.underlying33 Try.underlying5 Try.underlying9 (Kd.own_of_R HO125.out)))
  go_ret
  exact ⟨by first | rfl | (simp [errW_none, errW_some] <;> rfl) | (simp [*, errW_none, errW_some] <;> rfl), by repeat (first | (with_reducible first | exact HB.out | apply below_alloc | apply pw_below_drewN | apply below_drew1 | refine below_set ?_ GE106.out) | exact HB.out)⟩

/-! ### klaxonref04_told: function 70 -/
def klaxonref04_told.l0 : Nat → ByteArray → Int → Int → Option (Int)
  | 0, _, _, _ => none
  | k + 1, x0, x3, x4 => if x4 < (x0.size : Int) then (if 0 ≤ x4 then (klaxonref04_told.l0 k x0 (Go.bits .or .u64 (IntKind.u64.wrap (x3 * 256)) (IntKind.u64.wrap (bt x0 x4))) (wrap64 (x4 + 1))) else (none)) else (some x3)
def klaxonref04_told.f (k : Nat) (a0 : ByteArray) : Option (Int) := klaxonref04_told.l0 k a0 0 0
theorem klaxonref04_told.mono_l : ∀ k, (∀ y0 y1 y2, LeO (klaxonref04_told.l0 k y0 y1 y2) (klaxonref04_told.l0 (k + 1) y0 y1 y2))
  | 0 => fun _ _ _ r h => by simp [klaxonref04_told.l0] at h
  | k + 1 => by
    have ih0 := klaxonref04_told.mono_l k
    · intro y0 y1 y2
      unfold klaxonref04_told.l0
      repeat' first
      | (with_reducible exact ih0 _ _ _)
      | (with_reducible exact LeO.refl _)
      | (with_reducible exact LeO.none _)
      | (with_reducible refine LeO.ite ?_ ?_)
      | (with_reducible refine LeO.bind ?_ (fun _ => ?_))
      | exact ih0 _ _ _
      | exact LeO.none _
      | refine LeO.ite ?_ ?_
      | refine LeO.bind ?_ (fun _ => ?_)
theorem klaxonref04_told.mono : ∀ a0 k, LeO (klaxonref04_told.f k a0) (klaxonref04_told.f (k + 1) a0) := by
  intro a0 k
  have ih0 := klaxonref04_told.mono_l k
  unfold klaxonref04_told.f
  repeat' first
      | (with_reducible exact ih0 _ _ _)
      | (with_reducible exact LeO.refl _)
      | (with_reducible exact LeO.none _)
      | (with_reducible refine LeO.ite ?_ ?_)
      | (with_reducible refine LeO.bind ?_ (fun _ => ?_))
      | exact ih0 _ _ _
      | exact LeO.none _
      | refine LeO.ite ?_ ?_
      | refine LeO.bind ?_ (fun _ => ?_)
set_option maxHeartbeats 8000000 in
set_option maxRecDepth 100000 in
theorem klaxonref04_told.calls (k : Nat) (a0 : ByteArray) (r : Int) (w : World) (h : klaxonref04_told.f k a0 = some r) :
    Calls Try.prog 70 #[.string a0] w fun e w' => e = .returned (.int .u64 r) ∧ Drawn0 w w' := by
  have H : (klaxonref04_told.l0 k a0 0 0) = some r := h
  clear h
  have H' := Aside0.mk H
  clear H
  go_enter Try.func70, Try.ntmps70
  go_wp2
  go_loopg [3, 4] k (fun kq v3 v4 w' => ∃ (x3_1 : Int) (x4_1 : Int), v3 = .int .u64 x3_1 ∧ v4 = .int .i64 x4_1 ∧ Aside0 (klaxonref04_told.l0 kq a0 x3_1 x4_1 = some r) ∧ Aside0 (kq ≤ k) ∧ Drawn0 w w')
  case atStart => exact ⟨(0), (0), (by first | rfl | (simp; done) | (simp [*]; done)), (by first | rfl | (simp; done) | (simp [*]; done)), H', ⟨Nat.le_refl _⟩, by repeat (first | exact Drawn0.refl _ | apply Drawn0.step)⟩
  case round =>
    clear H'
    obtain ⟨x3_1, x4_1, rfl, rfl, HA, HK1, ⟨m1, rfl⟩⟩ := hrel
    cases gk with
    | zero => exact absurd HA.out (by simp [klaxonref04_told.l0])
    | succ k1 =>
      have H := HA.out
      clear HA
      simp only [klaxonref04_told.l0] at H
      by_cases c2 : x4_1 < (a0.size : Int)
      · rw [if_pos c2] at H
        have c2b0 : decide (x4_1 < (a0.size : Int)) = true := decide_eq_true c2
        clear c2
        by_cases c3 : 0 ≤ x4_1
        · rw [if_pos c3] at H
          have c3b0 : decide (0 ≤ x4_1) = true := decide_eq_true c3
          clear c3
          have H' := Aside0.mk H
          clear H
          have p4 : 0 ≤ (x4_1 : Int) := of_decide_eq_true (by first | (with_reducible assumption) | assumption)
          have q4 : x4_1 < (a0.size : Int) := of_decide_eq_true (by first | (with_reducible assumption) | assumption)
          have hx4 := bt_at a0 x4_1
          replace p4 := eq_true p4
          replace q4 := eq_true q4
          go_wp2
          go_roundg k1
          case measure => have := HK1.out; omega
          case rel => exact ⟨(Go.bits .or .u64 (IntKind.u64.wrap (x3_1 * 256)) (IntKind.u64.wrap (bt a0 x4_1))), (wrap64 (x4_1 + 1)), (by first | rfl | (simp; done) | (simp [*]; done)), (by first | rfl | (simp; done) | (simp [*]; done)), H', ⟨by have := HK1.out; omega⟩, by repeat (first | exact Drawn0.refl _ | apply Drawn0.step)⟩
        · rw [if_neg c3] at H
          exact absurd H (by simp)
      · rw [if_neg c2] at H
        have c2b0 : decide (x4_1 < (a0.size : Int)) = false := decide_eq_false c2
        clear c2
        obtain rfl := Option.some.inj H
        go_wp2
        go_ret
        exact ⟨by first | rfl | (simp; done) | (simp [*]; done), by repeat (first | exact Drawn0.refl _ | apply Drawn0.step)⟩

end Go.Proofs.Yteimienhaodfcaa.PMeta

namespace Go.Proofs.Yteimienhaodfcaa.PMeta
open Go.RowKit Go.Proofs.YteimienhaodfcaaW.PrintWords Go.Proofs.YteimienhaodfcaaW.PrintLast Go.Proofs.YteimienhaodfcaaW.PrintMore
attribute [local go_sem] max2_int min2_int max_two min_two max_three min_three max_four min_four   -- for this text's walks alone
set_option linter.unusedVariables false
set_option linter.unusedSimpArgs false

/-! ### klaxonref04_Get: function 30 -/
mutual
def klaxonref04_Get.l0 : Nat → ByteArray → Int → Option (Int × Int × Int × Int × Int)
  | 0, _, _ => none
  | k + 1, x0, x4 => if x4 < (x0.size : Int) then (if 0 ≤ x4 then (if (bt x0 x4) = 0 then (klaxonref04_Get.l0 k x0 (wrap64 (x4 + 1))) else (some (0, 0, 0, 0, 40))) else (none)) else (if 8 ≤ 12 then (if 12 ≤ (x0.size : Int) then ((klaxonref04_told.f k (x0.extract 8 12)).bind fun t127 => (if 12 ≤ 20 then (if 20 ≤ (x0.size : Int) then ((klaxonref04_told.f k (x0.extract 12 20)).bind fun t128 => (if 20 ≤ 24 then (if 24 ≤ (x0.size : Int) then ((klaxonref04_told.f k (x0.extract 20 24)).bind fun t129 => (if t127 > 16384 then (klaxonref04_Get.j1 k x0 t127 t128 t129 true) else (if t128 > 2147483647 then (klaxonref04_Get.j1 k x0 t127 t128 t129 true) else (klaxonref04_Get.j1 k x0 t127 t128 t129 (decide (t129 > 64)))))) else (none)) else (none))) else (none)) else (none))) else (none)) else (none))
def klaxonref04_Get.j1 : Nat → ByteArray → Int → Int → Int → Bool → Option (Int × Int × Int × Int × Int)
  | 0, _, _, _, _, _ => none
  | k + 1, x0, x5, x6, x7, x42 => if x42 = true then (some (0, 0, 0, 0, 40)) else (if 0 ≤ 8 then (if 8 ≤ (x0.size : Int) then ((klaxonref04_told.f k (x0.extract 0 8)).bind fun t130 => (if t130 = 0 then (klaxonref04_Get.j2 k true t130 (wrap64 (x5)) (wrap64 (x6)) (wrap64 (x7))) else ((klaxonref04_Put.f k t130 (wrap64 (x5)) (wrap64 (x6)) (wrap64 (x7))).bind fun t132 => (if 0 ≤ 36 then (if 36 ≤ (x0.size : Int) then (klaxonref04_Get.j2 k (t132.toList != (x0.extract 0 36).toList) t130 (wrap64 (x5)) (wrap64 (x6)) (wrap64 (x7))) else (none)) else (none))))) else (none)) else (none))
def klaxonref04_Get.j2 : Nat → Bool → Int → Int → Int → Int → Option (Int × Int × Int × Int × Int)
  | 0, _, _, _, _, _ => none
  | k + 1, x63, x132000, x132001, x132002, x132003 => if x63 = true then (some (0, 0, 0, 0, 40)) else (some (x132000, x132001, x132002, x132003, 0))
end
def klaxonref04_Get.f (k : Nat) (a0 : ByteArray) : Option (Int × Int × Int × Int × Int) := if (a0.size : Int) < 36 then (some (0, 0, 0, 0, 40)) else (klaxonref04_Get.l0 k a0 36)
theorem klaxonref04_Get.mono_l : ∀ k, (∀ y0 y1, LeO (klaxonref04_Get.l0 k y0 y1) (klaxonref04_Get.l0 (k + 1) y0 y1)) ∧ (∀ y0 y1 y2 y3 y4, LeO (klaxonref04_Get.j1 k y0 y1 y2 y3 y4) (klaxonref04_Get.j1 (k + 1) y0 y1 y2 y3 y4)) ∧ (∀ y0 y1 y2 y3 y4, LeO (klaxonref04_Get.j2 k y0 y1 y2 y3 y4) (klaxonref04_Get.j2 (k + 1) y0 y1 y2 y3 y4))
  | 0 => ⟨fun _ _ r h => by simp [klaxonref04_Get.l0] at h, fun _ _ _ _ _ r h => by simp [klaxonref04_Get.j1] at h, fun _ _ _ _ _ r h => by simp [klaxonref04_Get.j2] at h⟩
  | k + 1 => by
    obtain ⟨ih0, ih1, ih2⟩ := klaxonref04_Get.mono_l k
    refine ⟨?_, ?_, ?_⟩
    · intro y0 y1
      unfold klaxonref04_Get.l0
      repeat' first
      | (with_reducible exact ih0 _ _)
      | (with_reducible exact ih1 _ _ _ _ _)
      | (with_reducible exact ih2 _ _ _ _ _)
      | (with_reducible exact klaxonref04_Put.mono _ _ _ _ _)
      | (with_reducible exact klaxonref04_told.mono _ _)
      | (with_reducible exact LeO.refl _)
      | (with_reducible exact LeO.none _)
      | (with_reducible refine LeO.ite ?_ ?_)
      | (with_reducible refine LeO.bind ?_ (fun _ => ?_))
      | exact ih0 _ _
      | exact ih1 _ _ _ _ _
      | exact ih2 _ _ _ _ _
      | exact klaxonref04_Put.mono _ _ _ _ _
      | exact klaxonref04_told.mono _ _
      | exact LeO.none _
      | refine LeO.ite ?_ ?_
      | refine LeO.bind ?_ (fun _ => ?_)
    · intro y0 y1 y2 y3 y4
      unfold klaxonref04_Get.j1
      repeat' first
      | (with_reducible exact ih0 _ _)
      | (with_reducible exact ih1 _ _ _ _ _)
      | (with_reducible exact ih2 _ _ _ _ _)
      | (with_reducible exact klaxonref04_Put.mono _ _ _ _ _)
      | (with_reducible exact klaxonref04_told.mono _ _)
      | (with_reducible exact LeO.refl _)
      | (with_reducible exact LeO.none _)
      | (with_reducible refine LeO.ite ?_ ?_)
      | (with_reducible refine LeO.bind ?_ (fun _ => ?_))
      | exact ih0 _ _
      | exact ih1 _ _ _ _ _
      | exact ih2 _ _ _ _ _
      | exact klaxonref04_Put.mono _ _ _ _ _
      | exact klaxonref04_told.mono _ _
      | exact LeO.none _
      | refine LeO.ite ?_ ?_
      | refine LeO.bind ?_ (fun _ => ?_)
    · intro y0 y1 y2 y3 y4
      unfold klaxonref04_Get.j2
      repeat' first
      | (with_reducible exact ih0 _ _)
      | (with_reducible exact ih1 _ _ _ _ _)
      | (with_reducible exact ih2 _ _ _ _ _)
      | (with_reducible exact klaxonref04_Put.mono _ _ _ _ _)
      | (with_reducible exact klaxonref04_told.mono _ _)
      | (with_reducible exact LeO.refl _)
      | (with_reducible exact LeO.none _)
      | (with_reducible refine LeO.ite ?_ ?_)
      | (with_reducible refine LeO.bind ?_ (fun _ => ?_))
      | exact ih0 _ _
      | exact ih1 _ _ _ _ _
      | exact ih2 _ _ _ _ _
      | exact klaxonref04_Put.mono _ _ _ _ _
      | exact klaxonref04_told.mono _ _
      | exact LeO.none _
      | refine LeO.ite ?_ ?_
      | refine LeO.bind ?_ (fun _ => ?_)
theorem klaxonref04_Get.mono : ∀ a0 k, LeO (klaxonref04_Get.f k a0) (klaxonref04_Get.f (k + 1) a0) := by
  intro a0 k
  obtain ⟨ih0, ih1, ih2⟩ := klaxonref04_Get.mono_l k
  unfold klaxonref04_Get.f
  repeat' first
      | (with_reducible exact ih0 _ _)
      | (with_reducible exact ih1 _ _ _ _ _)
      | (with_reducible exact ih2 _ _ _ _ _)
      | (with_reducible exact klaxonref04_Put.mono _ _ _ _ _)
      | (with_reducible exact klaxonref04_told.mono _ _)
      | (with_reducible exact LeO.refl _)
      | (with_reducible exact LeO.none _)
      | (with_reducible refine LeO.ite ?_ ?_)
      | (with_reducible refine LeO.bind ?_ (fun _ => ?_))
      | exact ih0 _ _
      | exact ih1 _ _ _ _ _
      | exact ih2 _ _ _ _ _
      | exact klaxonref04_Put.mono _ _ _ _ _
      | exact klaxonref04_told.mono _ _
      | exact LeO.none _
      | refine LeO.ite ?_ ?_
      | refine LeO.bind ?_ (fun _ => ?_)
def klaxonref04_Get.T8 : Bool × List (List Nat × List Nat) := (true, [([], []), ([0], [0]), ([1], [1]), ([], []), ([3], [3]), ([4, 2], [4]), ([], []), ([6], [6]), ([7, 5], [7]), ([2, 8, 0, 1, 2], [2]), ([5, 9, 0, 1, 2, 3, 4, 5, 9], [5]), ([8, 10, 0, 1, 2, 3, 4, 5, 6, 7, 8, 9, 10], [8])])
def klaxonref04_Get.B8 : List Nat := [0, 1, 3, 0, 8, 31, 0, 64, 255, 511, 1023, 2047]
theorem klaxonref04_Get.tab8 : rtab .any (opsOf Try.f30 8) = klaxonref04_Get.T8 := by kernel_rfl
theorem klaxonref04_Get.bits8 : waitsOk klaxonref04_Get.T8.2 klaxonref04_Get.B8 = true := by kernel_rfl
def klaxonref04_Get.T12 : Bool × List (List Nat × List Nat) := (true, [([], []), ([0], [0]), ([1], [1]), ([2], [2]), ([3], [3]), ([4, 3, 3], [3, 4]), ([3], [3]), ([6, 3], [3, 6]), ([5, 7, 3], [3, 5, 7]), ([3, 8], [3, 8])])
def klaxonref04_Get.B12 : List Nat := [0, 1, 3, 7, 15, 31, 15, 79, 255, 511]
theorem klaxonref04_Get.tab12 : rtab .any (opsOf Try.f30 12) = klaxonref04_Get.T12 := by kernel_rfl
theorem klaxonref04_Get.bits12 : waitsOk klaxonref04_Get.T12.2 klaxonref04_Get.B12 = true := by kernel_rfl
set_option maxHeartbeats 8000000 in
set_option maxRecDepth 100000 in
theorem klaxonref04_Get.calls (k : Nat) (a0 : ByteArray) (r1 : Int) (r2 : Int) (r3 : Int) (r4 : Int) (r5 : Int) (w : World) (h : klaxonref04_Get.f k a0 = some (r1, r2, r3, r4, r5)) :
    Calls Try.prog 30 #[.string a0] w fun e w' => e = .returned (.tuple #[.agg #[.int .u64 r1, .int .i64 r2, .int .i64 r3, .int .i64 r4], .int .i64 r5]) ∧ Below w.heap.size w w' := by
  have hu52 := Try.underlying52
  have HB := Aside0.mk (Below.refl w.heap.size w)
  have H : (if (a0.size : Int) < 36 then (some (0, 0, 0, 0, 40)) else (klaxonref04_Get.l0 k a0 36)) = some (r1, r2, r3, r4, r5) := h
  clear h
  by_cases c2 : (a0.size : Int) < 36
  · rw [if_pos c2] at H
    have c2b0 : decide ((a0.size : Int) < 36) = true := decide_eq_true c2
    have c2b1 : decide (a0.size < 36) = true := decide_eq_true (by omega)
    clear c2
    simp only [Option.some.injEq, Prod.mk.injEq] at H
    obtain ⟨rfl, rfl, rfl, rfl, rfl⟩ := H
    go_enter Try.func30, Try.ntmps30
    go_wp2_with (first | ((with_reducible refine gate_dst (N := 2) rfl ?_); refine box_event ?hg (N := 2) ?hd (cs := #[.int .u64 0, .int .i64 0, .int .i64 0, .int .i64 0]) (t := 52) ?hr ?_; (case hd => rfl); (case hg => rfl); (case hr => first | (go_simp; done) | (go_simp; rfl)); intro gb126 hg w3 hbox hb; have n0_ := Aside0.mk (below_step (by repeat (first | (with_reducible first | exact HB.out | apply below_alloc | apply pw_below_drewN | apply below_drew1) | exact HB.out)) hb); have n1_ := Aside0.mk (hbox); have n2_ := Aside0.mk ((by rw [hg]; exact (below_size (by repeat (first | (with_reducible first | exact HB.out | apply below_alloc | apply pw_below_drewN | apply below_drew1) | exact HB.out))) : w.heap.size ≤ gb126)); have n3_ := Aside0.mk ((by rw [hg]; exact (below_size (by repeat (first | (with_reducible first | exact HB.out | apply below_alloc | apply pw_below_drewN | apply below_drew1) | exact HB.out))) : w.heap.size ≤ gb126)); clear HB; have HB := n0_; have BK126 := n1_; have GW126 := n2_; have GE126 := n3_; clear n0_ n1_ n2_ n3_; clear hb hbox hg; have hcz4_0 : w3.cell? ⟨gb126, 0, none⟩ = some (.int .u64 0) := (blk_cell BK126.out 0).trans rfl; have hcz4_1 : w3.cell? ⟨gb126, 1, none⟩ = some (.int .i64 0) := (blk_cell BK126.out 1).trans rfl; have hcz4_2 : w3.cell? ⟨gb126, 2, none⟩ = some (.int .i64 0) := (blk_cell BK126.out 2).trans rfl; have hcz4_3 : w3.cell? ⟨gb126, 3, none⟩ = some (.int .i64 0) := (blk_cell BK126.out 3).trans rfl; have hfz4_0 := blk_frozen BK126.out 0; have hfz4_1 := blk_frozen BK126.out 1; have hfz4_2 := blk_frozen BK126.out 2; have hfz4_3 := blk_frozen BK126.out 3))
    refine bodyPost_ret (results_ct rfl _ _ gb126 52 #[.int .u64 0, .int .i64 0, .int .i64 0, .int .i64 0] (0, 0) _ rfl (by (with_reducible repeat (first | refine blk_drewN ?_ _ | refine blk_drew ?_ | refine blk_alloc ?_ _)); refine blk_put (cs := #[.int .u64 0, .int .i64 0, .int .i64 0, .int .i64 0]) ?_ 3 _ rfl; (with_reducible repeat (first | refine blk_drewN ?_ _ | refine blk_drew ?_ | refine blk_alloc ?_ _)); refine blk_put (cs := #[.int .u64 0, .int .i64 0, .int .i64 0, .int .i64 0]) ?_ 2 _ rfl; (with_reducible repeat (first | refine blk_drewN ?_ _ | refine blk_drew ?_ | refine blk_alloc ?_ _)); refine blk_put (cs := #[.int .u64 0, .int .i64 0, .int .i64 0, .int .i64 0]) ?_ 1 _ rfl; (with_reducible repeat (first | refine blk_drewN ?_ _ | refine blk_drew ?_ | refine blk_alloc ?_ _)); refine blk_put (cs := #[.int .u64 0, .int .i64 0, .int .i64 0, .int .i64 0]) ?_ 0 _ rfl; (with_reducible repeat (first | refine blk_drewN ?_ _ | refine blk_drew ?_ | refine blk_alloc ?_ _)); exact BK126.out) Try.underlying52 rfl (by kernel_rfl)) rfl ?_
    exact ⟨by first | rfl | (simp [errW_none, errW_some] <;> rfl) | (simp [*, errW_none, errW_some] <;> rfl), by repeat (first | (with_reducible first | exact HB.out | apply below_alloc | apply pw_below_drewN | apply below_drew1 | refine below_set ?_ GE126.out) | exact HB.out)⟩
  · rw [if_neg c2] at H
    have c2b0 : decide ((a0.size : Int) < 36) = false := decide_eq_false c2
    have c2b1 : decide (a0.size < 36) = false := decide_eq_false (by omega)
    clear c2
    have H' := Aside0.mk H
    clear H
    go_enter Try.func30, Try.ntmps30
    go_wp2_with (first | ((with_reducible refine gate_dst (N := 2) rfl ?_); refine box_event ?hg (N := 2) ?hd (cs := #[.int .u64 0, .int .i64 0, .int .i64 0, .int .i64 0]) (t := 52) ?hr ?_; (case hd => rfl); (case hg => rfl); (case hr => first | (go_simp; done) | (go_simp; rfl)); intro gb126 hg w5 hbox hb; have n0_ := Aside0.mk (below_step (by repeat (first | (with_reducible first | exact HB.out | apply below_alloc | apply pw_below_drewN | apply below_drew1) | exact HB.out)) hb); have n1_ := Aside0.mk (hbox); have n2_ := Aside0.mk ((by rw [hg]; exact (below_size (by repeat (first | (with_reducible first | exact HB.out | apply below_alloc | apply pw_below_drewN | apply below_drew1) | exact HB.out))) : w.heap.size ≤ gb126)); have n3_ := Aside0.mk ((by rw [hg]; exact (below_size (by repeat (first | (with_reducible first | exact HB.out | apply below_alloc | apply pw_below_drewN | apply below_drew1) | exact HB.out))) : w.heap.size ≤ gb126)); clear HB; have HB := n0_; have BK126 := n1_; have GW126 := n2_; have GE126 := n3_; clear n0_ n1_ n2_ n3_; clear hb hbox hg))
    go_loopg [4] k (fun kq v4 w' => ∃ (x4_1 : Int) (x127000_1 : Int) (x127001_1 : Int) (x127002_1 : Int) (x127003_1 : Int), v4 = .int .i64 x4_1 ∧ Aside0 (klaxonref04_Get.l0 kq a0 x4_1 = some (r1, r2, r3, r4, r5)) ∧ Aside0 (kq ≤ k) ∧ Aside0 (w'.heap[gb126]? = some (.cells #[.int .u64 x127000_1, .int .i64 x127001_1, .int .i64 x127002_1, .int .i64 x127003_1] 52 (0, 0))) ∧ Aside0 (Below w.heap.size w w'))
    case atStart => exact ⟨(36), (0), (0), (0), (0), (by first | rfl | (simp; done) | (simp [*]; done)), H', ⟨Nat.le_refl _⟩, ⟨by (with_reducible repeat (first | refine blk_drewN ?_ _ | refine blk_drew ?_ | refine blk_alloc ?_ _)); exact BK126.out⟩, ⟨by repeat (first | (with_reducible first | exact HB.out | apply below_alloc | apply pw_below_drewN | apply below_drew1 | refine below_set ?_ GE126.out) | exact HB.out)⟩⟩
    case round =>
      clear H'
      try clear c2
      try clear c2b0
      try clear c2b1
      try clear p2
      try clear c3
      try clear hcz4_0
      try clear hcz4_1
      try clear hcz4_2
      try clear hcz4_3
      try clear hfz4_0
      try clear hfz4_1
      try clear hfz4_2
      try clear hfz4_3
      obtain ⟨x4_1, x127000_1, x127001_1, x127002_1, x127003_1, rfl, HA, HK1, BK126, HB⟩ := hrel
      cases gk with
      | zero => exact absurd HA.out (by simp [klaxonref04_Get.l0])
      | succ k1 =>
        have H := HA.out
        clear HA
        simp only [klaxonref04_Get.l0] at H
        by_cases c6 : x4_1 < (a0.size : Int)
        · rw [if_pos c6] at H
          have c6b0 : decide (x4_1 < (a0.size : Int)) = true := decide_eq_true c6
          clear c6
          by_cases c7 : 0 ≤ x4_1
          · rw [if_pos c7] at H
            have c7b0 : decide (0 ≤ x4_1) = true := decide_eq_true c7
            clear c7
            by_cases c9 : (bt a0 x4_1) = 0
            · rw [if_pos c9] at H
              have c9b0 : ((bt a0 x4_1) == 0) = true := beq_iff_eq.mpr c9
              have c9b1 : ((bt a0 x4_1) != 0) = false := bne_eq_false_iff_eq.mpr c9
              clear c9
              have H' := Aside0.mk H
              clear H
              have p8 : 0 ≤ (x4_1 : Int) := of_decide_eq_true (by first | (with_reducible assumption) | assumption)
              have q8 : x4_1 < (a0.size : Int) := of_decide_eq_true (by first | (with_reducible assumption) | assumption)
              have hx8 := bt_at a0 x4_1
              replace p8 := eq_true p8
              replace q8 := eq_true q8
              go_wp2
              go_roundg k1
              case measure => have := HK1.out; omega
              case rel => exact ⟨(wrap64 (x4_1 + 1)), (x127000_1), (x127001_1), (x127002_1), (x127003_1), (by first | rfl | (simp; done) | (simp [*]; done)), H', ⟨by have := HK1.out; omega⟩, ⟨by (with_reducible repeat (first | refine blk_drewN ?_ _ | refine blk_drew ?_ | refine blk_alloc ?_ _)); exact BK126.out⟩, ⟨by repeat (first | (with_reducible first | exact HB.out | apply below_alloc | apply pw_below_drewN | apply below_drew1 | refine below_set ?_ GE126.out) | exact HB.out)⟩⟩
            · rw [if_neg c9] at H
              have c9b0 : ((bt a0 x4_1) == 0) = false := beq_eq_false_iff_ne.mpr c9
              have c9b1 : ((bt a0 x4_1) != 0) = true := bne_iff_ne.mpr c9
              simp only [Option.some.injEq, Prod.mk.injEq] at H
              obtain ⟨rfl, rfl, rfl, rfl, rfl⟩ := H
              have p8 : 0 ≤ (x4_1 : Int) := of_decide_eq_true (by first | (with_reducible assumption) | assumption)
              have q8 : x4_1 < (a0.size : Int) := of_decide_eq_true (by first | (with_reducible assumption) | assumption)
              have hx8 := bt_at a0 x4_1
              replace p8 := eq_true p8
              replace q8 := eq_true q8
              have hcz10_0 : wr.cell? ⟨gb126, 0, none⟩ = some (.int .u64 x127000_1) := (blk_cell BK126.out 0).trans rfl
              have hcz10_1 : wr.cell? ⟨gb126, 1, none⟩ = some (.int .i64 x127001_1) := (blk_cell BK126.out 1).trans rfl
              have hcz10_2 : wr.cell? ⟨gb126, 2, none⟩ = some (.int .i64 x127002_1) := (blk_cell BK126.out 2).trans rfl
              have hcz10_3 : wr.cell? ⟨gb126, 3, none⟩ = some (.int .i64 x127003_1) := (blk_cell BK126.out 3).trans rfl
              have hfz10_0 := blk_frozen BK126.out 0
              have hfz10_1 := blk_frozen BK126.out 1
              have hfz10_2 := blk_frozen BK126.out 2
              have hfz10_3 := blk_frozen BK126.out 3
              go_wp2
              refine bodyPost_ret (results_ct rfl _ _ gb126 52 #[.int .u64 0, .int .i64 0, .int .i64 0, .int .i64 0] (0, 0) _ rfl (by (with_reducible repeat (first | refine blk_drewN ?_ _ | refine blk_drew ?_ | refine blk_alloc ?_ _)); refine blk_put (cs := #[.int .u64 0, .int .i64 0, .int .i64 0, .int .i64 x127003_1]) ?_ 3 _ rfl; (with_reducible repeat (first | refine blk_drewN ?_ _ | refine blk_drew ?_ | refine blk_alloc ?_ _)); refine blk_put (cs := #[.int .u64 0, .int .i64 0, .int .i64 x127002_1, .int .i64 x127003_1]) ?_ 2 _ rfl; (with_reducible repeat (first | refine blk_drewN ?_ _ | refine blk_drew ?_ | refine blk_alloc ?_ _)); refine blk_put (cs := #[.int .u64 0, .int .i64 x127001_1, .int .i64 x127002_1, .int .i64 x127003_1]) ?_ 1 _ rfl; (with_reducible repeat (first | refine blk_drewN ?_ _ | refine blk_drew ?_ | refine blk_alloc ?_ _)); refine blk_put (cs := #[.int .u64 x127000_1, .int .i64 x127001_1, .int .i64 x127002_1, .int .i64 x127003_1]) ?_ 0 _ rfl; (with_reducible repeat (first | refine blk_drewN ?_ _ | refine blk_drew ?_ | refine blk_alloc ?_ _)); exact BK126.out) Try.underlying52 rfl (by kernel_rfl)) rfl ?_
              exact ⟨by first | rfl | (simp [errW_none, errW_some] <;> rfl) | (simp [*, errW_none, errW_some] <;> rfl), by repeat (first | (with_reducible first | exact HB.out | apply below_alloc | apply pw_below_drewN | apply below_drew1 | refine below_set ?_ GE126.out) | exact HB.out)⟩
          · rw [if_neg c7] at H
            exact absurd H (by simp)
        · rw [if_neg c6] at H
          have c6b0 : decide (x4_1 < (a0.size : Int)) = false := decide_eq_false c6
          clear c6
          by_cases c11 : 8 ≤ 12
          · rw [if_pos c11] at H
            have c11b0 := eq_true c11
            have c11b1 : decide (8 ≤ 12) = true := decide_eq_true c11
            clear c11
            by_cases c12 : 12 ≤ (a0.size : Int)
            · rw [if_pos c12] at H
              have c12b0 := eq_true c12
              have c12b1 : decide (12 ≤ (a0.size : Int)) = true := decide_eq_true c12
              clear c12
              replace H := Option.bind_eq_some_iff.mp H
              obtain ⟨t127, A130, H⟩ := H
              replace H : (if 12 ≤ 20 then (if 20 ≤ (a0.size : Int) then ((klaxonref04_told.f k1 (a0.extract 12 20)).bind fun t128 => (if 20 ≤ 24 then (if 24 ≤ (a0.size : Int) then ((klaxonref04_told.f k1 (a0.extract 20 24)).bind fun t129 => (if t127 > 16384 then (klaxonref04_Get.j1 k1 a0 t127 t128 t129 true) else (if t128 > 2147483647 then (klaxonref04_Get.j1 k1 a0 t127 t128 t129 true) else (klaxonref04_Get.j1 k1 a0 t127 t128 t129 (decide (t129 > 64)))))) else (none)) else (none))) else (none)) else (none)) = some (r1, r2, r3, r4, r5) := H
              have A13 := Aside0.mk A130
              clear A130
              by_cases c14 : 12 ≤ 20
              · rw [if_pos c14] at H
                have c14b0 := eq_true c14
                have c14b1 : decide (12 ≤ 20) = true := decide_eq_true c14
                clear c14
                by_cases c15 : 20 ≤ (a0.size : Int)
                · rw [if_pos c15] at H
                  have c15b0 := eq_true c15
                  have c15b1 : decide (20 ≤ (a0.size : Int)) = true := decide_eq_true c15
                  clear c15
                  replace H := Option.bind_eq_some_iff.mp H
                  obtain ⟨t128, A160, H⟩ := H
                  replace H : (if 20 ≤ 24 then (if 24 ≤ (a0.size : Int) then ((klaxonref04_told.f k1 (a0.extract 20 24)).bind fun t129 => (if t127 > 16384 then (klaxonref04_Get.j1 k1 a0 t127 t128 t129 true) else (if t128 > 2147483647 then (klaxonref04_Get.j1 k1 a0 t127 t128 t129 true) else (klaxonref04_Get.j1 k1 a0 t127 t128 t129 (decide (t129 > 64)))))) else (none)) else (none)) = some (r1, r2, r3, r4, r5) := H
                  have A16 := Aside0.mk A160
                  clear A160
                  by_cases c17 : 20 ≤ 24
                  · rw [if_pos c17] at H
                    have c17b0 := eq_true c17
                    have c17b1 : decide (20 ≤ 24) = true := decide_eq_true c17
                    clear c17
                    by_cases c18 : 24 ≤ (a0.size : Int)
                    · rw [if_pos c18] at H
                      have c18b0 := eq_true c18
                      have c18b1 : decide (24 ≤ (a0.size : Int)) = true := decide_eq_true c18
                      clear c18
                      replace H := Option.bind_eq_some_iff.mp H
                      obtain ⟨t129, A190, H⟩ := H
                      replace H : (if t127 > 16384 then (klaxonref04_Get.j1 k1 a0 t127 t128 t129 true) else (if t128 > 2147483647 then (klaxonref04_Get.j1 k1 a0 t127 t128 t129 true) else (klaxonref04_Get.j1 k1 a0 t127 t128 t129 (decide (t129 > 64))))) = some (r1, r2, r3, r4, r5) := H
                      have A19 := Aside0.mk A190
                      clear A190
                      have HC20 := Aside0.mk H
                      clear H
                      try go_wp2
                      have n0_ := Aside0.mk (blk_drew BK126.out)
                      have n1_ := Aside0.mk (below_drew1 HB.out)
                      clear BK126
                      clear HB
                      have BK126 := n0_
                      have HB := n1_
                      clear n0_ n1_
                      refine start_ (n := 12) (S := fun w' => True) (ds := []) #[false, false, false, false, false, false, false, false, false, false, false, false] (by kernel_rfl) rfl rfl trivial (fun hHeld => ?_); refine with_tabW klaxonref04_Get.tab8 klaxonref04_Get.bits8 (fun HT_ HW_ => ?_)
                      generalize wr.drew = w21 at BK126 HB hHeld ⊢
                      refine pure_ (i := 0) (N := some 24) (v := ?_) (a' := ?_) #[true, false, false, false, false, false, false, false, false, false, false, false] rfl rfl (any_of HT_.out (by kernel_rfl)) (fun _ _ _ h => h) (Or.inl ⟨by rfl, ?_⟩) ?_ ?_
                      rotate_left
                      · intro w'
                        go_simp
                        with_reducible rfl
                      rotate_left
                      · simp only [Act.put, List.setIfInBounds_toArray, List.set_cons_zero, List.set_cons_succ, i64_w, i32_w]
                        rfl
                      refine pure_ (i := 1) (N := some 25) (v := ?_) (a' := ?_) #[true, true, false, false, false, false, false, false, false, false, false, false] rfl rfl (any_of HT_.out (by kernel_rfl)) (fun _ _ _ h => h) (Or.inl ⟨by rfl, ?_⟩) ?_ ?_
                      rotate_left
                      · intro w'
                        go_simp
                        with_reducible rfl
                      rotate_left
                      · simp only [Act.put, List.setIfInBounds_toArray, List.set_cons_zero, List.set_cons_succ, i64_w, i32_w]
                        rfl
                      refine pure_ (i := 3) (N := some 27) (v := ?_) (a' := ?_) #[true, true, false, true, false, false, false, false, false, false, false, false] rfl rfl (any_of HT_.out (by kernel_rfl)) (fun _ _ _ h => h) (Or.inl ⟨by rfl, ?_⟩) ?_ ?_
                      rotate_left
                      · intro w'
                        go_simp
                        with_reducible rfl
                      rotate_left
                      · simp only [Act.put, List.setIfInBounds_toArray, List.set_cons_zero, List.set_cons_succ, i64_w, i32_w]
                        rfl
                      refine pure_ (i := 4) (N := some 28) (v := ?_) (a' := ?_) #[true, true, false, true, true, false, false, false, false, false, false, false] rfl rfl (any_of HT_.out (by kernel_rfl)) (fun _ _ _ h => h) (Or.inl ⟨by rfl, ?_⟩) ?_ ?_
                      rotate_left
                      · intro w'
                        go_simp
                        with_reducible rfl
                      rotate_left
                      · simp only [Act.put, List.setIfInBounds_toArray, List.set_cons_zero, List.set_cons_succ, i64_w, i32_w]
                        rfl
                      refine pure_ (i := 6) (N := some 30) (v := ?_) (a' := ?_) #[true, true, false, true, true, false, true, false, false, false, false, false] rfl rfl (any_of HT_.out (by kernel_rfl)) (fun _ _ _ h => h) (Or.inl ⟨by rfl, ?_⟩) ?_ ?_
                      rotate_left
                      · intro w'
                        go_simp
                        with_reducible rfl
                      rotate_left
                      · simp only [Act.put, List.setIfInBounds_toArray, List.set_cons_zero, List.set_cons_succ, i64_w, i32_w]
                        rfl
                      refine pure_ (i := 7) (N := some 31) (v := ?_) (a' := ?_) #[true, true, false, true, true, false, true, true, false, false, false, false] rfl rfl (any_of HT_.out (by kernel_rfl)) (fun _ _ _ h => h) (Or.inl ⟨by rfl, ?_⟩) ?_ ?_
                      rotate_left
                      · intro w'
                        go_simp
                        with_reducible rfl
                      rotate_left
                      · simp only [Act.put, List.setIfInBounds_toArray, List.set_cons_zero, List.set_cons_succ, i64_w, i32_w]
                        rfl
                      refine one_ (i := 2) (N := some 26) #[true, true, true, true, true, false, true, true, false, false, false, false] rfl rfl (one_of HT_.out (by kernel_rfl)) (by decide) (fun K hK => ?_)
                      refine goes_ Try.func70 (by kernel_rfl) rfl #[.string (a0.extract 8 12)] (by rfl) rfl rfl (by (try simp only [List.map_toArray, List.map_cons, List.map_nil]); first | done | rfl | (simp only [List.length_drop, List.length_take]; rfl)) ?_
                      with_reducible refine (klaxonref04_told.calls k1 (a0.extract 8 12) t127 _ A13.out).mono ?_
                      rintro e w' ⟨rfl, ⟨nd, rfl⟩⟩
                      refine ⟨_, rfl, ?_⟩
                      refine hK.out _ _ trivial (fun hHeld => ?_)
                      clear hK K
                      refine norm_ (a' := ?_) ?_ ?_
                      rotate_left
                      · show Act.put _ (some 26) _ = _
                        simp only [Act.put, List.setIfInBounds_toArray, List.set_cons_zero, List.set_cons_succ, i64_w, i32_w]
                        rfl
                      refine one_ (i := 5) (N := some 29) #[true, true, true, true, true, true, true, true, false, false, false, false] rfl rfl (one_of HT_.out (by kernel_rfl)) (by decide) (fun K hK => ?_)
                      refine goes_ Try.func70 (by kernel_rfl) rfl #[.string (a0.extract 12 20)] (by rfl) rfl rfl (by (try simp only [List.map_toArray, List.map_cons, List.map_nil]); first | done | rfl | (simp only [List.length_drop, List.length_take]; rfl)) ?_
                      with_reducible refine (klaxonref04_told.calls k1 (a0.extract 12 20) t128 _ A16.out).mono ?_
                      rintro e w' ⟨rfl, ⟨nd, rfl⟩⟩
                      refine ⟨_, rfl, ?_⟩
                      refine hK.out _ _ trivial (fun hHeld => ?_)
                      clear hK K
                      refine norm_ (a' := ?_) ?_ ?_
                      rotate_left
                      · show Act.put _ (some 29) _ = _
                        simp only [Act.put, List.setIfInBounds_toArray, List.set_cons_zero, List.set_cons_succ, i64_w, i32_w]
                        rfl
                      refine one_ (i := 8) (N := some 32) #[true, true, true, true, true, true, true, true, true, false, false, false] rfl rfl (one_of HT_.out (by kernel_rfl)) (by decide) (fun K hK => ?_)
                      refine goes_ Try.func70 (by kernel_rfl) rfl #[.string (a0.extract 20 24)] (by rfl) rfl rfl (by (try simp only [List.map_toArray, List.map_cons, List.map_nil]); first | done | rfl | (simp only [List.length_drop, List.length_take]; rfl)) ?_
                      with_reducible refine (klaxonref04_told.calls k1 (a0.extract 20 24) t129 _ A19.out).mono ?_
                      rintro e w' ⟨rfl, ⟨nd, rfl⟩⟩
                      refine ⟨_, rfl, ?_⟩
                      refine hK.out _ _ trivial (fun hHeld => ?_)
                      clear hK K
                      refine norm_ (a' := ?_) ?_ ?_
                      rotate_left
                      · show Act.put _ (some 32) _ = _
                        simp only [Act.put, List.setIfInBounds_toArray, List.set_cons_zero, List.set_cons_succ, i64_w, i32_w]
                        rfl
                      refine pure_ (i := 9) (N := some 5) (v := ?_) (a' := ?_) #[true, true, true, true, true, true, true, true, true, true, false, false] rfl rfl (any_of HT_.out (by kernel_rfl)) (fun _ _ _ h => h) (Or.inl ⟨by rfl, ?_⟩) ?_ ?_
                      rotate_left
                      · intro w'
                        go_simp
                        with_reducible rfl
                      rotate_left
                      · simp only [Act.put, List.setIfInBounds_toArray, List.set_cons_zero, List.set_cons_succ, i64_w, i32_w]
                        rfl
                      refine pure_ (i := 10) (N := some 6) (v := ?_) (a' := ?_) #[true, true, true, true, true, true, true, true, true, true, true, false] rfl rfl (any_of HT_.out (by kernel_rfl)) (fun _ _ _ h => h) (Or.inl ⟨by rfl, ?_⟩) ?_ ?_
                      rotate_left
                      · intro w'
                        go_simp
                        with_reducible rfl
                      rotate_left
                      · simp only [Act.put, List.setIfInBounds_toArray, List.set_cons_zero, List.set_cons_succ, i64_w, i32_w]
                        rfl
                      refine pure_ (i := 11) (N := some 7) (v := ?_) (a' := ?_) #[true, true, true, true, true, true, true, true, true, true, true, true] rfl rfl (any_of HT_.out (by kernel_rfl)) (fun _ _ _ h => h) (Or.inl ⟨by rfl, ?_⟩) ?_ ?_
                      rotate_left
                      · intro w'
                        go_simp
                        with_reducible rfl
                      rotate_left
                      · simp only [Act.put, List.setIfInBounds_toArray, List.set_cons_zero, List.set_cons_succ, i64_w, i32_w]
                        rfl
                      refine done_ (done_of HT_.out (by kernel_rfl)) ?_
                      go_upto_region 9 with (fail)
                      go_cut [42] (fun v42 wc => ∃ (kq : Nat) (x42_19 : Bool), v42 = .bool x42_19 ∧ Aside0 (klaxonref04_Get.j1 kq a0 t127 t128 t129 x42_19 = some (r1, r2, r3, r4, r5)) ∧ Aside0 (kq ≤ k1) ∧ Aside0 (wc.heap[gb126]? = some (.cells #[.int .u64 x127000_1, .int .i64 x127001_1, .int .i64 x127002_1, .int .i64 x127003_1] 52 (0, 0))) ∧ Aside0 (Below w.heap.size w wc))
                      case first =>
                        have H := HC20.out
                        clear HC20
                        by_cases c22 : t127 > 16384
                        · rw [if_pos c22] at H
                          have c22b0 : decide (16384 < t127) = true := decide_eq_true c22
                          clear c22
                          (first | rw [c22b0] | (simp only [i64_w, i32_w]; rw [c22b0]) | skip)
                          have H' := Aside0.mk H
                          clear H
                          go_wp2
                          go_meet
                          case rel => exact ⟨_, (true), (by first | rfl | (simp; done) | (simp [*]; done)), H', ⟨by have := HK1.out; first | omega | exact Nat.le_refl _⟩, ⟨by (with_reducible repeat (first | refine blk_drewN ?_ _ | refine blk_drew ?_ | refine blk_alloc ?_ _)); exact BK126.out⟩, ⟨by repeat (first | (with_reducible first | exact HB.out | apply below_alloc | apply pw_below_drewN | apply below_drew1 | refine below_set ?_ GE126.out) | exact HB.out)⟩⟩
                        · rw [if_neg c22] at H
                          have c22b0 : decide (16384 < t127) = false := decide_eq_false c22
                          clear c22
                          (first | rw [c22b0] | (simp only [i64_w, i32_w]; rw [c22b0]) | skip)
                          by_cases c23 : t128 > 2147483647
                          · rw [if_pos c23] at H
                            have c23b0 : decide (2147483647 < t128) = true := decide_eq_true c23
                            clear c23
                            have H' := Aside0.mk H
                            clear H
                            go_wp2
                            go_meet
                            case rel => exact ⟨_, (true), (by first | rfl | (simp; done) | (simp [*]; done)), H', ⟨by have := HK1.out; first | omega | exact Nat.le_refl _⟩, ⟨by (with_reducible repeat (first | refine blk_drewN ?_ _ | refine blk_drew ?_ | refine blk_alloc ?_ _)); exact BK126.out⟩, ⟨by repeat (first | (with_reducible first | exact HB.out | apply below_alloc | apply pw_below_drewN | apply below_drew1 | refine below_set ?_ GE126.out) | exact HB.out)⟩⟩
                          · rw [if_neg c23] at H
                            have c23b0 : decide (2147483647 < t128) = false := decide_eq_false c23
                            clear c23
                            have H' := Aside0.mk H
                            clear H
                            go_wp2
                            go_meet
                            case rel => exact ⟨_, (decide (t129 > 64)), (by first | rfl | (simp; done) | (simp [*]; done)), H', ⟨by have := HK1.out; first | omega | exact Nat.le_refl _⟩, ⟨by (with_reducible repeat (first | refine blk_drewN ?_ _ | refine blk_drew ?_ | refine blk_alloc ?_ _)); exact BK126.out⟩, ⟨by repeat (first | (with_reducible first | exact HB.out | apply below_alloc | apply pw_below_drewN | apply below_drew1 | refine below_set ?_ GE126.out) | exact HB.out)⟩⟩
                      case rest =>
                        clear HC20
                        try clear c1
                        try clear c2
                        try clear c2b0
                        try clear c2b1
                        try clear p2
                        try clear c3
                        try clear c6
                        try clear c6b0
                        try clear p6
                        try clear c7
                        try clear c7b0
                        try clear p8
                        try clear q8
                        try clear hx8
                        try clear c9
                        try clear c9b0
                        try clear c9b1
                        try clear c11
                        try clear c11b0
                        try clear c11b1
                        try clear c12
                        try clear c12b0
                        try clear c12b1
                        try clear c14
                        try clear c14b0
                        try clear c14b1
                        try clear c15
                        try clear c15b0
                        try clear c15b1
                        try clear c17
                        try clear c17b0
                        try clear c17b1
                        try clear c18
                        try clear c18b0
                        try clear c18b1
                        try clear c22
                        try clear c22b0
                        try clear c23
                        try clear c23b0
                        try clear hcz10_0
                        try clear hcz10_1
                        try clear hcz10_2
                        try clear hcz10_3
                        try clear hcz4_0
                        try clear hcz4_1
                        try clear hcz4_2
                        try clear hcz4_3
                        try clear hfz10_0
                        try clear hfz10_1
                        try clear hfz10_2
                        try clear hfz10_3
                        try clear hfz4_0
                        try clear hfz4_1
                        try clear hfz4_2
                        try clear hfz4_3
                        try clear p2
                        try clear p8
                        try clear q8
                        obtain ⟨kq, x42_19, rfl, HA, HJ19, BK126, HB⟩ := hcut
                        cases kq with
                        | zero => exact absurd HA.out (by simp [klaxonref04_Get.j1])
                        | succ kj19 =>
                          have H := HA.out
                          clear HA
                          simp only [klaxonref04_Get.j1] at H
                          by_cases c24 : x42_19 = true
                          · subst c24
                            have H1 : (some (0, 0, 0, 0, 40)) = some (r1, r2, r3, r4, r5) := by rw [if_pos rfl] at H; exact H
                            clear H
                            have H := H1
                            clear H1
                            simp only [Option.some.injEq, Prod.mk.injEq] at H
                            obtain ⟨rfl, rfl, rfl, rfl, rfl⟩ := H
                            have hcz25_0 : wc.cell? ⟨gb126, 0, none⟩ = some (.int .u64 x127000_1) := (blk_cell BK126.out 0).trans rfl
                            have hcz25_1 : wc.cell? ⟨gb126, 1, none⟩ = some (.int .i64 x127001_1) := (blk_cell BK126.out 1).trans rfl
                            have hcz25_2 : wc.cell? ⟨gb126, 2, none⟩ = some (.int .i64 x127002_1) := (blk_cell BK126.out 2).trans rfl
                            have hcz25_3 : wc.cell? ⟨gb126, 3, none⟩ = some (.int .i64 x127003_1) := (blk_cell BK126.out 3).trans rfl
                            have hfz25_0 := blk_frozen BK126.out 0
                            have hfz25_1 := blk_frozen BK126.out 1
                            have hfz25_2 := blk_frozen BK126.out 2
                            have hfz25_3 := blk_frozen BK126.out 3
                            go_wp2
                            refine bodyPost_ret (results_ct rfl _ _ gb126 52 #[.int .u64 0, .int .i64 0, .int .i64 0, .int .i64 0] (0, 0) _ rfl (by (with_reducible repeat (first | refine blk_drewN ?_ _ | refine blk_drew ?_ | refine blk_alloc ?_ _)); refine blk_put (cs := #[.int .u64 0, .int .i64 0, .int .i64 0, .int .i64 x127003_1]) ?_ 3 _ rfl; (with_reducible repeat (first | refine blk_drewN ?_ _ | refine blk_drew ?_ | refine blk_alloc ?_ _)); refine blk_put (cs := #[.int .u64 0, .int .i64 0, .int .i64 x127002_1, .int .i64 x127003_1]) ?_ 2 _ rfl; (with_reducible repeat (first | refine blk_drewN ?_ _ | refine blk_drew ?_ | refine blk_alloc ?_ _)); refine blk_put (cs := #[.int .u64 0, .int .i64 x127001_1, .int .i64 x127002_1, .int .i64 x127003_1]) ?_ 1 _ rfl; (with_reducible repeat (first | refine blk_drewN ?_ _ | refine blk_drew ?_ | refine blk_alloc ?_ _)); refine blk_put (cs := #[.int .u64 x127000_1, .int .i64 x127001_1, .int .i64 x127002_1, .int .i64 x127003_1]) ?_ 0 _ rfl; (with_reducible repeat (first | refine blk_drewN ?_ _ | refine blk_drew ?_ | refine blk_alloc ?_ _)); exact BK126.out) Try.underlying52 rfl (by kernel_rfl)) rfl ?_
                            exact ⟨by first | rfl | (simp [errW_none, errW_some] <;> rfl) | (simp [*, errW_none, errW_some] <;> rfl), by repeat (first | (with_reducible first | exact HB.out | apply below_alloc | apply pw_below_drewN | apply below_drew1 | refine below_set ?_ GE126.out) | exact HB.out)⟩
                          · replace c24 := Bool.eq_false_iff.mpr c24
                            subst c24
                            have H1 : (if 0 ≤ 8 then (if 8 ≤ (a0.size : Int) then ((klaxonref04_told.f kj19 (a0.extract 0 8)).bind fun t130 => (if t130 = 0 then (klaxonref04_Get.j2 kj19 true t130 (wrap64 (t127)) (wrap64 (t128)) (wrap64 (t129))) else ((klaxonref04_Put.f kj19 t130 (wrap64 (t127)) (wrap64 (t128)) (wrap64 (t129))).bind fun t132 => (if 0 ≤ 36 then (if 36 ≤ (a0.size : Int) then (klaxonref04_Get.j2 kj19 (t132.toList != (a0.extract 0 36).toList) t130 (wrap64 (t127)) (wrap64 (t128)) (wrap64 (t129))) else (none)) else (none))))) else (none)) else (none)) = some (r1, r2, r3, r4, r5) := by rw [if_neg (show ¬ (false = true) by decide)] at H; exact H
                            clear H
                            have H := H1
                            clear H1
                            by_cases c26 : 0 ≤ 8
                            · rw [if_pos c26] at H
                              have c26b0 := eq_true c26
                              have c26b1 : decide (0 ≤ 8) = true := decide_eq_true c26
                              clear c26
                              by_cases c27 : 8 ≤ (a0.size : Int)
                              · rw [if_pos c27] at H
                                have c27b0 := eq_true c27
                                have c27b1 : decide (8 ≤ (a0.size : Int)) = true := decide_eq_true c27
                                clear c27
                                replace H := Option.bind_eq_some_iff.mp H
                                obtain ⟨t130, A280, H⟩ := H
                                replace H : (if t130 = 0 then (klaxonref04_Get.j2 kj19 true t130 (wrap64 (t127)) (wrap64 (t128)) (wrap64 (t129))) else ((klaxonref04_Put.f kj19 t130 (wrap64 (t127)) (wrap64 (t128)) (wrap64 (t129))).bind fun t132 => (if 0 ≤ 36 then (if 36 ≤ (a0.size : Int) then (klaxonref04_Get.j2 kj19 (t132.toList != (a0.extract 0 36).toList) t130 (wrap64 (t127)) (wrap64 (t128)) (wrap64 (t129))) else (none)) else (none)))) = some (r1, r2, r3, r4, r5) := H
                                have A28 := Aside0.mk A280
                                clear A280
                                have HC29 := Aside0.mk H
                                clear H
                                go_upto_region 12 with (first | ((with_reducible refine gate_callee (f := 70) rfl ?_); refine goesL_ (some 46) rfl rfl Try.func70 (by kernel_rfl) rfl #[.string (a0.extract 0 8)] rfl (by (try simp only [List.map_toArray, List.map_cons, List.map_nil]); first | done | rfl | (simp only [List.length_drop, List.length_take]; rfl)) ?_; (with_reducible refine (klaxonref04_told.calls kj19 (a0.extract 0 8) t130 _ A28.out).mono ?_); rintro e w' ⟨rfl, ⟨nd, rfl⟩⟩; refine ⟨_, rfl, ?_⟩; (try (rw [drewN_self wc]; generalize hq_ : World.drewN wc _ = wc; have n0_ : Aside0 (wc.heap[gb126]? = some (.cells #[.int .u64 x127000_1, .int .i64 x127001_1, .int .i64 x127002_1, .int .i64 x127003_1] 52 (0, 0))) := ⟨by rw [← hq_]; exact (by (with_reducible repeat (first | refine blk_drewN ?_ _ | refine blk_drew ?_ | refine blk_alloc ?_ _)); exact BK126.out)⟩; have n1_ : Aside0 (Below w.heap.size w wc) := ⟨by rw [← hq_]; exact (by repeat (first | (with_reducible first | exact HB.out | apply below_alloc | apply pw_below_drewN | apply below_drew1 | refine below_set ?_ GE126.out) | exact HB.out))⟩; clear BK126 HB hq_; have BK126 := n0_; have HB := n1_; clear n0_ n1_))) | ((with_reducible refine gate_dst (N := 8) rfl ?_); refine box_event ?hg (N := 8) ?hd (cs := #[.int .u64 0, .int .i64 0, .int .i64 0, .int .i64 0]) (t := 52) ?hr ?_; (case hd => rfl); (case hg => rfl); (case hr => first | (go_simp; done) | (go_simp; rfl)); intro gb131 hg w30 hbox hb; have n0_ := Aside0.mk (blk_below (g := gb126) (o := .cells #[.int .u64 x127000_1, .int .i64 x127001_1, .int .i64 x127002_1, .int .i64 x127003_1] 52 (0, 0)) (by (with_reducible repeat (first | refine blk_drewN ?_ _ | refine blk_drew ?_ | refine blk_alloc ?_ _)); exact BK126.out) hb); have n1_ := Aside0.mk (below_step (by repeat (first | (with_reducible first | exact HB.out | apply below_alloc | apply pw_below_drewN | apply below_drew1 | refine below_set ?_ GE126.out) | exact HB.out)) hb); have n2_ := Aside0.mk (hbox); have n3_ := Aside0.mk ((by rw [hg]; exact (below_size (by repeat (first | (with_reducible first | exact HB.out | apply below_alloc | apply pw_below_drewN | apply below_drew1 | refine below_set ?_ GE126.out) | exact HB.out))) : w.heap.size ≤ gb131)); have n4_ := Aside0.mk ((by rw [hg]; exact (below_size (by repeat (first | (with_reducible first | exact HB.out | apply below_alloc | apply pw_below_drewN | apply below_drew1 | refine below_set ?_ GE126.out) | exact HB.out))) : w.heap.size ≤ gb131)); have n5_ := Aside0.mk ((by rw [hg]; exact Nat.ne_of_lt (blk_lt (g := gb126) (o := .cells #[.int .u64 x127000_1, .int .i64 x127001_1, .int .i64 x127002_1, .int .i64 x127003_1] 52 (0, 0)) (by (with_reducible repeat (first | refine blk_drewN ?_ _ | refine blk_drew ?_ | refine blk_alloc ?_ _)); exact BK126.out)) : gb126 ≠ gb131)); have n6_ := Aside0.mk ((by rw [hg]; exact Nat.ne_of_gt (blk_lt (g := gb126) (o := .cells #[.int .u64 x127000_1, .int .i64 x127001_1, .int .i64 x127002_1, .int .i64 x127003_1] 52 (0, 0)) (by (with_reducible repeat (first | refine blk_drewN ?_ _ | refine blk_drew ?_ | refine blk_alloc ?_ _)); exact BK126.out)) : gb131 ≠ gb126)); clear BK126; clear HB; have BK126 := n0_; have HB := n1_; have BK131 := n2_; have GW131 := n3_; have GE131 := n4_; have NB126_131 := n5_; have NB131_126 := n6_; clear n0_ n1_ n2_ n3_ n4_ n5_ n6_; clear hb hbox hg; have hnb31 := NB131_126.out; have hnc31 := NB126_131.out; have hcz32_0 : w30.cell? ⟨gb131, 0, none⟩ = some (.int .u64 0) := (blk_cell BK131.out 0).trans rfl; have hcz32_1 : w30.cell? ⟨gb131, 1, none⟩ = some (.int .i64 0) := (blk_cell BK131.out 1).trans rfl; have hcz32_2 : w30.cell? ⟨gb131, 2, none⟩ = some (.int .i64 0) := (blk_cell BK131.out 2).trans rfl; have hcz32_3 : w30.cell? ⟨gb131, 3, none⟩ = some (.int .i64 0) := (blk_cell BK131.out 3).trans rfl; have hfz32_0 := blk_frozen BK131.out 0; have hfz32_1 := blk_frozen BK131.out 1; have hfz32_2 := blk_frozen BK131.out 2; have hfz32_3 := blk_frozen BK131.out 3))
                                (try simp only [Act.put, List.setIfInBounds_toArray, List.set_cons_zero, List.set_cons_succ])
                                go_cut [63] (fun v63 wc => ∃ (kq : Nat) (x63_28 : Bool), v63 = .bool x63_28 ∧ Aside0 (klaxonref04_Get.j2 kq x63_28 t130 (wrap64 (t127)) (wrap64 (t128)) (wrap64 (t129)) = some (r1, r2, r3, r4, r5)) ∧ Aside0 (kq ≤ kj19) ∧ Aside0 (wc.heap[gb126]? = some (.cells #[.int .u64 x127000_1, .int .i64 x127001_1, .int .i64 x127002_1, .int .i64 x127003_1] 52 (0, 0))) ∧ Aside0 (wc.heap[gb131]? = some (.cells #[.int .u64 t130, .int .i64 (wrap64 (t127)), .int .i64 (wrap64 (t128)), .int .i64 (wrap64 (t129))] 52 (0, 0))) ∧ Aside0 (Below w.heap.size w wc))
                                case first =>
                                  have H := HC29.out
                                  clear HC29
                                  by_cases c33 : t130 = 0
                                  · rw [if_pos c33] at H
                                    have c33b0 : (t130 == 0) = true := beq_iff_eq.mpr c33
                                    have c33b1 : (t130 != 0) = false := bne_eq_false_iff_eq.mpr c33
                                    clear c33
                                    (first | rw [c33b0] | (simp only [i64_w, i32_w]; rw [c33b0]) | skip)
                                    have H' := Aside0.mk H
                                    clear H
                                    try go_wp2
                                    have n0_ : Aside0 (((((w30.setCell ⟨gb131, 0, none⟩ (.int .u64 t130)).setCell ⟨gb131, 1, none⟩ (.int .i64 (wrap64 (t127)))).setCell ⟨gb131, 2, none⟩ (.int .i64 (wrap64 (t128)))).setCell ⟨gb131, 3, none⟩ (.int .i64 (wrap64 (t129)))).heap[gb126]? = some (.cells #[.int .u64 x127000_1, .int .i64 x127001_1, .int .i64 x127002_1, .int .i64 x127003_1] 52 (0, 0))) := ⟨by (with_reducible repeat (first | refine blk_drewN ?_ _ | refine blk_drew ?_ | refine blk_alloc ?_ _)); refine blk_far ?_ NB126_131.out _; (with_reducible repeat (first | refine blk_drewN ?_ _ | refine blk_drew ?_ | refine blk_alloc ?_ _)); refine blk_far ?_ NB126_131.out _; (with_reducible repeat (first | refine blk_drewN ?_ _ | refine blk_drew ?_ | refine blk_alloc ?_ _)); refine blk_far ?_ NB126_131.out _; (with_reducible repeat (first | refine blk_drewN ?_ _ | refine blk_drew ?_ | refine blk_alloc ?_ _)); refine blk_far ?_ NB126_131.out _; (with_reducible repeat (first | refine blk_drewN ?_ _ | refine blk_drew ?_ | refine blk_alloc ?_ _)); exact BK126.out⟩
                                    have n1_ : Aside0 (((((w30.setCell ⟨gb131, 0, none⟩ (.int .u64 t130)).setCell ⟨gb131, 1, none⟩ (.int .i64 (wrap64 (t127)))).setCell ⟨gb131, 2, none⟩ (.int .i64 (wrap64 (t128)))).setCell ⟨gb131, 3, none⟩ (.int .i64 (wrap64 (t129)))).heap[gb131]? = some (.cells #[.int .u64 t130, .int .i64 (wrap64 (t127)), .int .i64 (wrap64 (t128)), .int .i64 (wrap64 (t129))] 52 (0, 0))) := ⟨by (with_reducible repeat (first | refine blk_drewN ?_ _ | refine blk_drew ?_ | refine blk_alloc ?_ _)); refine blk_put (cs := #[.int .u64 t130, .int .i64 (wrap64 (t127)), .int .i64 (wrap64 (t128)), .int .i64 0]) ?_ 3 _ rfl; (with_reducible repeat (first | refine blk_drewN ?_ _ | refine blk_drew ?_ | refine blk_alloc ?_ _)); refine blk_put (cs := #[.int .u64 t130, .int .i64 (wrap64 (t127)), .int .i64 0, .int .i64 0]) ?_ 2 _ rfl; (with_reducible repeat (first | refine blk_drewN ?_ _ | refine blk_drew ?_ | refine blk_alloc ?_ _)); refine blk_put (cs := #[.int .u64 t130, .int .i64 0, .int .i64 0, .int .i64 0]) ?_ 1 _ rfl; (with_reducible repeat (first | refine blk_drewN ?_ _ | refine blk_drew ?_ | refine blk_alloc ?_ _)); refine blk_put (cs := #[.int .u64 0, .int .i64 0, .int .i64 0, .int .i64 0]) ?_ 0 _ rfl; (with_reducible repeat (first | refine blk_drewN ?_ _ | refine blk_drew ?_ | refine blk_alloc ?_ _)); exact BK131.out⟩
                                    have n2_ : Aside0 (Below w.heap.size w ((((w30.setCell ⟨gb131, 0, none⟩ (.int .u64 t130)).setCell ⟨gb131, 1, none⟩ (.int .i64 (wrap64 (t127)))).setCell ⟨gb131, 2, none⟩ (.int .i64 (wrap64 (t128)))).setCell ⟨gb131, 3, none⟩ (.int .i64 (wrap64 (t129))))) := ⟨by repeat (first | (with_reducible first | exact HB.out | apply below_alloc | apply pw_below_drewN | apply below_drew1 | refine below_set ?_ GE126.out | refine below_set ?_ GE131.out) | exact HB.out)⟩
                                    (try clear BK126)
                                    (try clear BK131)
                                    (try clear HB)
                                    generalize ((((w30.setCell ⟨gb131, 0, none⟩ (.int .u64 t130)).setCell ⟨gb131, 1, none⟩ (.int .i64 (wrap64 (t127)))).setCell ⟨gb131, 2, none⟩ (.int .i64 (wrap64 (t128)))).setCell ⟨gb131, 3, none⟩ (.int .i64 (wrap64 (t129)))) = w34 at n0_ n1_ n2_ ⊢
                                    have BK126 := n0_
                                    have BK131 := n1_
                                    have HB := n2_
                                    clear n0_ n1_ n2_
                                    have n0_ := Aside0.mk (blk_drew BK126.out)
                                    have n1_ := Aside0.mk (blk_drew BK131.out)
                                    have n2_ := Aside0.mk (below_drew1 HB.out)
                                    clear BK126
                                    clear BK131
                                    clear HB
                                    have BK126 := n0_
                                    have BK131 := n1_
                                    have HB := n2_
                                    clear n0_ n1_ n2_
                                    refine start_ (n := 10) (S := fun w' => w'.cell? ⟨gb131, 0, none⟩ = some (.int .u64 t130) ∧ w'.cell? ⟨gb131, 1, none⟩ = some (.int .i64 (wrap64 (t127))) ∧ w'.cell? ⟨gb131, 2, none⟩ = some (.int .i64 (wrap64 (t128))) ∧ w'.cell? ⟨gb131, 3, none⟩ = some (.int .i64 (wrap64 (t129)))) (ds := []) #[false, false, false, false, false, false, false, false, false, false] (by kernel_rfl) rfl rfl ⟨(blk_cell BK131.out 0).trans rfl, (blk_cell BK131.out 1).trans rfl, (blk_cell BK131.out 2).trans rfl, (blk_cell BK131.out 3).trans rfl⟩ (fun hHeld => ?_); refine with_tabW klaxonref04_Get.tab12 klaxonref04_Get.bits12 (fun HT_ HW_ => ?_)
                                    generalize w34.drew = w35 at BK126 BK131 HB hHeld ⊢
                                    refine pure_ (i := 0) (N := some 54) (v := ?_) (a' := ?_) #[true, false, false, false, false, false, false, false, false, false] rfl rfl (any_of HT_.out (by kernel_rfl)) (fun _ _ _ h => h) (Or.inl ⟨by rfl, ?_⟩) ?_ ?_
                                    rotate_left
                                    · intro w'
                                      go_simp
                                      with_reducible rfl
                                    rotate_left
                                    · simp only [Act.put, List.setIfInBounds_toArray, List.set_cons_zero, List.set_cons_succ, i64_w, i32_w]
                                      rfl
                                    refine take_ (i := 1) (N := some 55) (v := ?_) (a' := ?_) #[true, true, false, false, false, false, false, false, false, false] rfl rfl (take_ofW HT_.out HW_.out (by kernel_rfl)) (fun _ _ _ h => h) (Or.inl ⟨by rfl, ?_⟩) hHeld ?_ ?_
                                    rotate_left
                                    · rintro w' ⟨s0, s1, s2, s3⟩
                                      go_simp
                                      with_reducible rfl
                                    rotate_left
                                    · simp only [Act.put, List.setIfInBounds_toArray, List.set_cons_zero, List.set_cons_succ, i64_w, i32_w]
                                      rfl
                                    refine pure_ (i := 2) (N := some 56) (v := ?_) (a' := ?_) #[true, true, true, false, false, false, false, false, false, false] rfl rfl (any_of HT_.out (by kernel_rfl)) (fun _ _ _ h => h) (Or.inl ⟨by rfl, ?_⟩) ?_ ?_
                                    rotate_left
                                    · intro w'
                                      go_simp
                                      with_reducible rfl
                                    rotate_left
                                    · simp only [Act.put, List.setIfInBounds_toArray, List.set_cons_zero, List.set_cons_succ, i64_w, i32_w]
                                      rfl
                                    refine pure_ (i := 3) (N := some 57) (v := ?_) (a' := ?_) #[true, true, true, true, false, false, false, false, false, false] rfl rfl (any_of HT_.out (by kernel_rfl)) (fun _ _ _ h => h) (Or.inl ⟨by rfl, ?_⟩) ?_ ?_
                                    rotate_left
                                    · intro w'
                                      go_simp
                                      with_reducible rfl
                                    rotate_left
                                    · simp only [Act.put, List.setIfInBounds_toArray, List.set_cons_zero, List.set_cons_succ, i64_w, i32_w]
                                      rfl
                                    refine pure_ (i := 4) (N := some 58) (v := undef) (a' := ?_) #[true, true, true, true, true, false, false, false, false, false] rfl rfl (any_of HT_.out (by kernel_rfl)) (fun _ _ _ h => h) (Or.inr ⟨by rfl, rfl⟩) ?_ ?_
                                    rotate_left
                                    · simp only [Act.put, List.setIfInBounds_toArray, List.set_cons_zero, List.set_cons_succ, i64_w, i32_w]
                                      rfl
                                    refine pure_ (i := 5) (N := some 59) (v := undef) (a' := ?_) #[true, true, true, true, true, true, false, false, false, false] rfl rfl (any_of HT_.out (by kernel_rfl)) (fun _ _ _ h => h) (Or.inr ⟨by rfl, rfl⟩) ?_ ?_
                                    rotate_left
                                    · simp only [Act.put, List.setIfInBounds_toArray, List.set_cons_zero, List.set_cons_succ, i64_w, i32_w]
                                      rfl
                                    refine pure_ (i := 6) (N := some 60) (v := undef) (a' := ?_) #[true, true, true, true, true, true, true, false, false, false] rfl rfl (any_of HT_.out (by kernel_rfl)) (fun _ _ _ h => h) (Or.inr ⟨by rfl, rfl⟩) ?_ ?_
                                    rotate_left
                                    · simp only [Act.put, List.setIfInBounds_toArray, List.set_cons_zero, List.set_cons_succ, i64_w, i32_w]
                                      rfl
                                    refine pure_ (i := 7) (N := some 61) (v := undef) (a' := ?_) #[true, true, true, true, true, true, true, true, false, false] rfl rfl (any_of HT_.out (by kernel_rfl)) (fun _ _ _ h => h) (Or.inr ⟨by rfl, rfl⟩) ?_ ?_
                                    rotate_left
                                    · simp only [Act.put, List.setIfInBounds_toArray, List.set_cons_zero, List.set_cons_succ, i64_w, i32_w]
                                      rfl
                                    refine pure_ (i := 8) (N := some 62) (v := undef) (a' := ?_) #[true, true, true, true, true, true, true, true, true, false] rfl rfl (any_of HT_.out (by kernel_rfl)) (fun _ _ _ h => h) (Or.inr ⟨by rfl, rfl⟩) ?_ ?_
                                    rotate_left
                                    · simp only [Act.put, List.setIfInBounds_toArray, List.set_cons_zero, List.set_cons_succ, i64_w, i32_w]
                                      rfl
                                    refine pure_ (i := 9) (N := some 63) (v := ?_) (a' := ?_) #[true, true, true, true, true, true, true, true, true, true] rfl rfl (any_of HT_.out (by kernel_rfl)) (fun _ _ _ h => h) (Or.inl ⟨by rfl, ?_⟩) ?_ ?_
                                    rotate_left
                                    · intro w'
                                      go_simp
                                      with_reducible rfl
                                    rotate_left
                                    · simp only [Act.put, List.setIfInBounds_toArray, List.set_cons_zero, List.set_cons_succ, i64_w, i32_w]
                                      rfl
                                    refine done_ (done_of HT_.out (by kernel_rfl)) ?_
                                    try go_wp2
                                    go_meet
                                    case rel => exact ⟨_, (true), (by first | rfl | (simp; done) | (simp [*]; done)), H', ⟨by have := HK1.out; have := HJ19.out; first | omega | exact Nat.le_refl _⟩, ⟨by (with_reducible repeat (first | refine blk_drewN ?_ _ | refine blk_drew ?_ | refine blk_alloc ?_ _)); exact BK126.out⟩, ⟨by (with_reducible repeat (first | refine blk_drewN ?_ _ | refine blk_drew ?_ | refine blk_alloc ?_ _)); exact BK131.out⟩, ⟨by repeat (first | (with_reducible first | exact HB.out | apply below_alloc | apply pw_below_drewN | apply below_drew1 | refine below_set ?_ GE126.out | refine below_set ?_ GE131.out) | exact HB.out)⟩⟩
                                  · rw [if_neg c33] at H
                                    have c33b0 : (t130 == 0) = false := beq_eq_false_iff_ne.mpr c33
                                    have c33b1 : (t130 != 0) = true := bne_iff_ne.mpr c33
                                    (first | rw [c33b0] | (simp only [i64_w, i32_w]; rw [c33b0]) | skip)
                                    replace H := Option.bind_eq_some_iff.mp H
                                    obtain ⟨t132, A360, H⟩ := H
                                    replace H : (if 0 ≤ 36 then (if 36 ≤ (a0.size : Int) then (klaxonref04_Get.j2 kj19 (t132.toList != (a0.extract 0 36).toList) t130 (wrap64 (t127)) (wrap64 (t128)) (wrap64 (t129))) else (none)) else (none)) = some (r1, r2, r3, r4, r5) := H
                                    have A36 := Aside0.mk A360
                                    clear A360
                                    by_cases c37 : 0 ≤ 36
                                    · rw [if_pos c37] at H
                                      have c37b0 := eq_true c37
                                      have c37b1 : decide (0 ≤ 36) = true := decide_eq_true c37
                                      clear c37
                                      by_cases c38 : 36 ≤ (a0.size : Int)
                                      · rw [if_pos c38] at H
                                        have c38b0 := eq_true c38
                                        have c38b1 : decide (36 ≤ (a0.size : Int)) = true := decide_eq_true c38
                                        clear c38
                                        have H' := Aside0.mk H
                                        clear H
                                        try go_wp2
                                        have n0_ : Aside0 (((((w30.setCell ⟨gb131, 0, none⟩ (.int .u64 t130)).setCell ⟨gb131, 1, none⟩ (.int .i64 (wrap64 (t127)))).setCell ⟨gb131, 2, none⟩ (.int .i64 (wrap64 (t128)))).setCell ⟨gb131, 3, none⟩ (.int .i64 (wrap64 (t129)))).heap[gb126]? = some (.cells #[.int .u64 x127000_1, .int .i64 x127001_1, .int .i64 x127002_1, .int .i64 x127003_1] 52 (0, 0))) := ⟨by (with_reducible repeat (first | refine blk_drewN ?_ _ | refine blk_drew ?_ | refine blk_alloc ?_ _)); refine blk_far ?_ NB126_131.out _; (with_reducible repeat (first | refine blk_drewN ?_ _ | refine blk_drew ?_ | refine blk_alloc ?_ _)); refine blk_far ?_ NB126_131.out _; (with_reducible repeat (first | refine blk_drewN ?_ _ | refine blk_drew ?_ | refine blk_alloc ?_ _)); refine blk_far ?_ NB126_131.out _; (with_reducible repeat (first | refine blk_drewN ?_ _ | refine blk_drew ?_ | refine blk_alloc ?_ _)); refine blk_far ?_ NB126_131.out _; (with_reducible repeat (first | refine blk_drewN ?_ _ | refine blk_drew ?_ | refine blk_alloc ?_ _)); exact BK126.out⟩
                                        have n1_ : Aside0 (((((w30.setCell ⟨gb131, 0, none⟩ (.int .u64 t130)).setCell ⟨gb131, 1, none⟩ (.int .i64 (wrap64 (t127)))).setCell ⟨gb131, 2, none⟩ (.int .i64 (wrap64 (t128)))).setCell ⟨gb131, 3, none⟩ (.int .i64 (wrap64 (t129)))).heap[gb131]? = some (.cells #[.int .u64 t130, .int .i64 (wrap64 (t127)), .int .i64 (wrap64 (t128)), .int .i64 (wrap64 (t129))] 52 (0, 0))) := ⟨by (with_reducible repeat (first | refine blk_drewN ?_ _ | refine blk_drew ?_ | refine blk_alloc ?_ _)); refine blk_put (cs := #[.int .u64 t130, .int .i64 (wrap64 (t127)), .int .i64 (wrap64 (t128)), .int .i64 0]) ?_ 3 _ rfl; (with_reducible repeat (first | refine blk_drewN ?_ _ | refine blk_drew ?_ | refine blk_alloc ?_ _)); refine blk_put (cs := #[.int .u64 t130, .int .i64 (wrap64 (t127)), .int .i64 0, .int .i64 0]) ?_ 2 _ rfl; (with_reducible repeat (first | refine blk_drewN ?_ _ | refine blk_drew ?_ | refine blk_alloc ?_ _)); refine blk_put (cs := #[.int .u64 t130, .int .i64 0, .int .i64 0, .int .i64 0]) ?_ 1 _ rfl; (with_reducible repeat (first | refine blk_drewN ?_ _ | refine blk_drew ?_ | refine blk_alloc ?_ _)); refine blk_put (cs := #[.int .u64 0, .int .i64 0, .int .i64 0, .int .i64 0]) ?_ 0 _ rfl; (with_reducible repeat (first | refine blk_drewN ?_ _ | refine blk_drew ?_ | refine blk_alloc ?_ _)); exact BK131.out⟩
                                        have n2_ : Aside0 (Below w.heap.size w ((((w30.setCell ⟨gb131, 0, none⟩ (.int .u64 t130)).setCell ⟨gb131, 1, none⟩ (.int .i64 (wrap64 (t127)))).setCell ⟨gb131, 2, none⟩ (.int .i64 (wrap64 (t128)))).setCell ⟨gb131, 3, none⟩ (.int .i64 (wrap64 (t129))))) := ⟨by repeat (first | (with_reducible first | exact HB.out | apply below_alloc | apply pw_below_drewN | apply below_drew1 | refine below_set ?_ GE126.out | refine below_set ?_ GE131.out) | exact HB.out)⟩
                                        (try clear BK126)
                                        (try clear BK131)
                                        (try clear HB)
                                        generalize ((((w30.setCell ⟨gb131, 0, none⟩ (.int .u64 t130)).setCell ⟨gb131, 1, none⟩ (.int .i64 (wrap64 (t127)))).setCell ⟨gb131, 2, none⟩ (.int .i64 (wrap64 (t128)))).setCell ⟨gb131, 3, none⟩ (.int .i64 (wrap64 (t129)))) = w39 at n0_ n1_ n2_ ⊢
                                        have BK126 := n0_
                                        have BK131 := n1_
                                        have HB := n2_
                                        clear n0_ n1_ n2_
                                        have n0_ := Aside0.mk (blk_drew BK126.out)
                                        have n1_ := Aside0.mk (blk_drew BK131.out)
                                        have n2_ := Aside0.mk (below_drew1 HB.out)
                                        clear BK126
                                        clear BK131
                                        clear HB
                                        have BK126 := n0_
                                        have BK131 := n1_
                                        have HB := n2_
                                        clear n0_ n1_ n2_
                                        refine start_ (n := 10) (S := fun w' => w'.cell? ⟨gb131, 0, none⟩ = some (.int .u64 t130) ∧ w'.cell? ⟨gb131, 1, none⟩ = some (.int .i64 (wrap64 (t127))) ∧ w'.cell? ⟨gb131, 2, none⟩ = some (.int .i64 (wrap64 (t128))) ∧ w'.cell? ⟨gb131, 3, none⟩ = some (.int .i64 (wrap64 (t129)))) (ds := []) #[false, false, false, false, false, false, false, false, false, false] (by kernel_rfl) rfl rfl ⟨(blk_cell BK131.out 0).trans rfl, (blk_cell BK131.out 1).trans rfl, (blk_cell BK131.out 2).trans rfl, (blk_cell BK131.out 3).trans rfl⟩ (fun hHeld => ?_); refine with_tabW klaxonref04_Get.tab12 klaxonref04_Get.bits12 (fun HT_ HW_ => ?_)
                                        generalize w39.drew = w40 at BK126 BK131 HB hHeld ⊢
                                        refine pure_ (i := 0) (N := some 54) (v := ?_) (a' := ?_) #[true, false, false, false, false, false, false, false, false, false] rfl rfl (any_of HT_.out (by kernel_rfl)) (fun _ _ _ h => h) (Or.inl ⟨by rfl, ?_⟩) ?_ ?_
                                        rotate_left
                                        · intro w'
                                          go_simp
                                          with_reducible rfl
                                        rotate_left
                                        · simp only [Act.put, List.setIfInBounds_toArray, List.set_cons_zero, List.set_cons_succ, i64_w, i32_w]
                                          rfl
                                        refine take_ (i := 1) (N := some 55) (v := ?_) (a' := ?_) #[true, true, false, false, false, false, false, false, false, false] rfl rfl (take_ofW HT_.out HW_.out (by kernel_rfl)) (fun _ _ _ h => h) (Or.inl ⟨by rfl, ?_⟩) hHeld ?_ ?_
                                        rotate_left
                                        · rintro w' ⟨s0, s1, s2, s3⟩
                                          go_simp
                                          with_reducible rfl
                                        rotate_left
                                        · simp only [Act.put, List.setIfInBounds_toArray, List.set_cons_zero, List.set_cons_succ, i64_w, i32_w]
                                          rfl
                                        refine pure_ (i := 2) (N := some 56) (v := ?_) (a' := ?_) #[true, true, true, false, false, false, false, false, false, false] rfl rfl (any_of HT_.out (by kernel_rfl)) (fun _ _ _ h => h) (Or.inl ⟨by rfl, ?_⟩) ?_ ?_
                                        rotate_left
                                        · intro w'
                                          go_simp
                                          with_reducible rfl
                                        rotate_left
                                        · simp only [Act.put, List.setIfInBounds_toArray, List.set_cons_zero, List.set_cons_succ, i64_w, i32_w]
                                          rfl
                                        refine pure_ (i := 3) (N := some 57) (v := ?_) (a' := ?_) #[true, true, true, true, false, false, false, false, false, false] rfl rfl (any_of HT_.out (by kernel_rfl)) (fun _ _ _ h => h) (Or.inl ⟨by rfl, ?_⟩) ?_ ?_
                                        rotate_left
                                        · intro w'
                                          go_simp
                                          with_reducible rfl
                                        rotate_left
                                        · simp only [Act.put, List.setIfInBounds_toArray, List.set_cons_zero, List.set_cons_succ, i64_w, i32_w]
                                          rfl
                                        refine pure_ (i := 6) (N := some 60) (v := ?_) (a' := ?_) #[true, true, true, true, false, false, true, false, false, false] rfl rfl (any_of HT_.out (by kernel_rfl)) (fun _ _ _ h => h) (Or.inl ⟨by rfl, ?_⟩) ?_ ?_
                                        rotate_left
                                        · intro w'
                                          go_simp
                                          with_reducible rfl
                                        rotate_left
                                        · simp only [Act.put, List.setIfInBounds_toArray, List.set_cons_zero, List.set_cons_succ, i64_w, i32_w]
                                          rfl
                                        refine pure_ (i := 7) (N := some 61) (v := ?_) (a' := ?_) #[true, true, true, true, false, false, true, true, false, false] rfl rfl (any_of HT_.out (by kernel_rfl)) (fun _ _ _ h => h) (Or.inl ⟨by rfl, ?_⟩) ?_ ?_
                                        rotate_left
                                        · intro w'
                                          go_simp
                                          with_reducible rfl
                                        rotate_left
                                        · simp only [Act.put, List.setIfInBounds_toArray, List.set_cons_zero, List.set_cons_succ, i64_w, i32_w]
                                          rfl
                                        refine take_ (i := 4) (N := some 58) (v := ?_) (a' := ?_) #[true, true, true, true, true, false, true, true, false, false] rfl rfl (take_ofW HT_.out HW_.out (by kernel_rfl)) (fun _ _ _ h => h) (Or.inl ⟨by rfl, ?_⟩) hHeld ?_ ?_
                                        rotate_left
                                        · rintro w' ⟨s0, s1, s2, s3⟩
                                          go_simp
                                          with_reducible rfl
                                        rotate_left
                                        · simp only [Act.put, List.setIfInBounds_toArray, List.set_cons_zero, List.set_cons_succ, i64_w, i32_w]
                                          rfl
                                        refine one_ (i := 5) (N := some 59) #[true, true, true, true, true, true, true, true, false, false] rfl rfl (one_of HT_.out (by kernel_rfl)) (by decide) (fun K hK => ?_)
                                        refine goes_ Try.func32 (by kernel_rfl) rfl #[.agg #[.int .u64 t130, .int .i64 (wrap64 (t127)), .int .i64 (wrap64 (t128)), .int .i64 (wrap64 (t129))]] (by rfl) rfl rfl (by (try simp only [List.map_toArray, List.map_cons, List.map_nil]); first | done | rfl | (simp only [List.length_drop, List.length_take]; rfl)) ?_
                                        with_reducible refine (klaxonref04_Put.calls kj19 t130 (wrap64 (t127)) (wrap64 (t128)) (wrap64 (t129)) t132 _ A36.out).mono ?_
                                        rintro e w41 ⟨rfl, hb⟩
                                        refine ⟨_, rfl, ?_⟩
                                        have n0_ := Aside0.mk (blk_below (g := gb126) (o := .cells #[.int .u64 x127000_1, .int .i64 x127001_1, .int .i64 x127002_1, .int .i64 x127003_1] 52 (0, 0)) (by (with_reducible repeat (first | refine blk_drewN ?_ _ | refine blk_drew ?_ | refine blk_alloc ?_ _)); exact BK126.out) hb)
                                        have n1_ := Aside0.mk (blk_below (g := gb131) (o := .cells #[.int .u64 t130, .int .i64 (wrap64 (t127)), .int .i64 (wrap64 (t128)), .int .i64 (wrap64 (t129))] 52 (0, 0)) (by (with_reducible repeat (first | refine blk_drewN ?_ _ | refine blk_drew ?_ | refine blk_alloc ?_ _)); exact BK131.out) hb)
                                        have n2_ := Aside0.mk (below_step (by repeat (first | (with_reducible first | exact HB.out | apply below_alloc | apply pw_below_drewN | apply below_drew1 | refine below_set ?_ GE126.out | refine below_set ?_ GE131.out) | exact HB.out)) hb)
                                        clear BK126
                                        clear BK131
                                        clear HB
                                        have BK126 := n0_
                                        have BK131 := n1_
                                        have HB := n2_
                                        clear n0_ n1_ n2_
                                        (try clear hb)
                                        (try clear hb2)
                                        (try clear hk)
                                        (try clear hi)
                                        refine hK.out _ _ ⟨(blk_cell BK131.out 0).trans rfl, (blk_cell BK131.out 1).trans rfl, (blk_cell BK131.out 2).trans rfl, (blk_cell BK131.out 3).trans rfl⟩ (fun hHeld => ?_)
                                        clear hK K
                                        refine norm_ (a' := ?_) ?_ ?_
                                        rotate_left
                                        · show Act.put _ (some 59) _ = _
                                          simp only [Act.put, List.setIfInBounds_toArray, List.set_cons_zero, List.set_cons_succ, i64_w, i32_w]
                                          rfl
                                        refine pure_ (i := 8) (N := some 62) (v := ?_) (a' := ?_) #[true, true, true, true, true, true, true, true, true, false] rfl rfl (any_of HT_.out (by kernel_rfl)) (fun _ _ _ h => h) (Or.inl ⟨by rfl, ?_⟩) ?_ ?_
                                        rotate_left
                                        · intro w'
                                          go_simp
                                          with_reducible rfl
                                        rotate_left
                                        · simp only [Act.put, List.setIfInBounds_toArray, List.set_cons_zero, List.set_cons_succ, i64_w, i32_w]
                                          rfl
                                        refine pure_ (i := 9) (N := some 63) (v := ?_) (a' := ?_) #[true, true, true, true, true, true, true, true, true, true] rfl rfl (any_of HT_.out (by kernel_rfl)) (fun _ _ _ h => h) (Or.inl ⟨by rfl, ?_⟩) ?_ ?_
                                        rotate_left
                                        · intro w'
                                          go_simp
                                          with_reducible rfl
                                        rotate_left
                                        · simp only [Act.put, List.setIfInBounds_toArray, List.set_cons_zero, List.set_cons_succ, i64_w, i32_w]
                                          rfl
                                        refine done_ (done_of HT_.out (by kernel_rfl)) ?_
                                        try go_wp2
                                        go_meet
                                        case rel => exact ⟨_, ((t132.toList != (a0.extract 0 36).toList)), (by first | rfl | (simp; done) | (simp [*]; done)), H', ⟨by have := HK1.out; have := HJ19.out; first | omega | exact Nat.le_refl _⟩, ⟨by (with_reducible repeat (first | refine blk_drewN ?_ _ | refine blk_drew ?_ | refine blk_alloc ?_ _)); exact BK126.out⟩, ⟨by (with_reducible repeat (first | refine blk_drewN ?_ _ | refine blk_drew ?_ | refine blk_alloc ?_ _)); exact BK131.out⟩, ⟨by repeat (first | (with_reducible first | exact HB.out | apply below_alloc | apply pw_below_drewN | apply below_drew1 | refine below_set ?_ GE126.out | refine below_set ?_ GE131.out) | exact HB.out)⟩⟩
                                      · rw [if_neg c38] at H
                                        exact absurd H (by simp)
                                    · rw [if_neg c37] at H
                                      exact absurd H (by simp)
                                case rest =>
                                  clear HC29
                                  try clear c1
                                  try clear c2
                                  try clear c2b0
                                  try clear c2b1
                                  try clear p2
                                  try clear c3
                                  try clear c6
                                  try clear c6b0
                                  try clear p6
                                  try clear c7
                                  try clear c7b0
                                  try clear p8
                                  try clear q8
                                  try clear hx8
                                  try clear c9
                                  try clear c9b0
                                  try clear c9b1
                                  try clear c11
                                  try clear c11b0
                                  try clear c11b1
                                  try clear c12
                                  try clear c12b0
                                  try clear c12b1
                                  try clear c14
                                  try clear c14b0
                                  try clear c14b1
                                  try clear c15
                                  try clear c15b0
                                  try clear c15b1
                                  try clear c17
                                  try clear c17b0
                                  try clear c17b1
                                  try clear c18
                                  try clear c18b0
                                  try clear c18b1
                                  try clear c22
                                  try clear c22b0
                                  try clear c23
                                  try clear c23b0
                                  try clear c24
                                  try clear c26
                                  try clear c26b0
                                  try clear c26b1
                                  try clear c27
                                  try clear c27b0
                                  try clear c27b1
                                  try clear c31
                                  try clear c32
                                  try clear c33
                                  try clear c33b0
                                  try clear c33b1
                                  try clear c37
                                  try clear c37b0
                                  try clear c37b1
                                  try clear c38
                                  try clear c38b0
                                  try clear c38b1
                                  try clear hcz10_0
                                  try clear hcz10_1
                                  try clear hcz10_2
                                  try clear hcz10_3
                                  try clear hcz25_0
                                  try clear hcz25_1
                                  try clear hcz25_2
                                  try clear hcz25_3
                                  try clear hcz32_0
                                  try clear hcz32_1
                                  try clear hcz32_2
                                  try clear hcz32_3
                                  try clear hcz4_0
                                  try clear hcz4_1
                                  try clear hcz4_2
                                  try clear hcz4_3
                                  try clear hfz10_0
                                  try clear hfz10_1
                                  try clear hfz10_2
                                  try clear hfz10_3
                                  try clear hfz25_0
                                  try clear hfz25_1
                                  try clear hfz25_2
                                  try clear hfz25_3
                                  try clear hfz32_0
                                  try clear hfz32_1
                                  try clear hfz32_2
                                  try clear hfz32_3
                                  try clear hfz4_0
                                  try clear hfz4_1
                                  try clear hfz4_2
                                  try clear hfz4_3
                                  try clear p2
                                  try clear p6
                                  try clear p8
                                  try clear q8
                                  obtain ⟨kq, x63_28, rfl, HA, HJ28, BK126, BK131, HB⟩ := hcut
                                  cases kq with
                                  | zero => exact absurd HA.out (by simp [klaxonref04_Get.j2])
                                  | succ kj28 =>
                                    have H := HA.out
                                    clear HA
                                    simp only [klaxonref04_Get.j2] at H
                                    by_cases c42 : x63_28 = true
                                    · subst c42
                                      have H1 : (some (0, 0, 0, 0, 40)) = some (r1, r2, r3, r4, r5) := by rw [if_pos rfl] at H; exact H
                                      clear H
                                      have H := H1
                                      clear H1
                                      simp only [Option.some.injEq, Prod.mk.injEq] at H
                                      obtain ⟨rfl, rfl, rfl, rfl, rfl⟩ := H
                                      have hnb43 := NB126_131.out
                                      have hnc43 := NB131_126.out
                                      have hcz44_0 : wc.cell? ⟨gb126, 0, none⟩ = some (.int .u64 x127000_1) := (blk_cell BK126.out 0).trans rfl
                                      have hcz44_1 : wc.cell? ⟨gb126, 1, none⟩ = some (.int .i64 x127001_1) := (blk_cell BK126.out 1).trans rfl
                                      have hcz44_2 : wc.cell? ⟨gb126, 2, none⟩ = some (.int .i64 x127002_1) := (blk_cell BK126.out 2).trans rfl
                                      have hcz44_3 : wc.cell? ⟨gb126, 3, none⟩ = some (.int .i64 x127003_1) := (blk_cell BK126.out 3).trans rfl
                                      have hfz44_0 := blk_frozen BK126.out 0
                                      have hfz44_1 := blk_frozen BK126.out 1
                                      have hfz44_2 := blk_frozen BK126.out 2
                                      have hfz44_3 := blk_frozen BK126.out 3
                                      go_wp2
                                      refine bodyPost_ret (results_ct rfl _ _ gb126 52 #[.int .u64 0, .int .i64 0, .int .i64 0, .int .i64 0] (0, 0) _ rfl (by (with_reducible repeat (first | refine blk_drewN ?_ _ | refine blk_drew ?_ | refine blk_alloc ?_ _)); refine blk_put (cs := #[.int .u64 0, .int .i64 0, .int .i64 0, .int .i64 x127003_1]) ?_ 3 _ rfl; (with_reducible repeat (first | refine blk_drewN ?_ _ | refine blk_drew ?_ | refine blk_alloc ?_ _)); refine blk_put (cs := #[.int .u64 0, .int .i64 0, .int .i64 x127002_1, .int .i64 x127003_1]) ?_ 2 _ rfl; (with_reducible repeat (first | refine blk_drewN ?_ _ | refine blk_drew ?_ | refine blk_alloc ?_ _)); refine blk_put (cs := #[.int .u64 0, .int .i64 x127001_1, .int .i64 x127002_1, .int .i64 x127003_1]) ?_ 1 _ rfl; (with_reducible repeat (first | refine blk_drewN ?_ _ | refine blk_drew ?_ | refine blk_alloc ?_ _)); refine blk_put (cs := #[.int .u64 x127000_1, .int .i64 x127001_1, .int .i64 x127002_1, .int .i64 x127003_1]) ?_ 0 _ rfl; (with_reducible repeat (first | refine blk_drewN ?_ _ | refine blk_drew ?_ | refine blk_alloc ?_ _)); exact BK126.out) Try.underlying52 rfl (by kernel_rfl)) rfl ?_
                                      exact ⟨by first | rfl | (simp [errW_none, errW_some] <;> rfl) | (simp [*, errW_none, errW_some] <;> rfl), by repeat (first | (with_reducible first | exact HB.out | apply below_alloc | apply pw_below_drewN | apply below_drew1 | refine below_set ?_ GE126.out | refine below_set ?_ GE131.out) | exact HB.out)⟩
                                    · replace c42 := Bool.eq_false_iff.mpr c42
                                      subst c42
                                      have H1 : (some (t130, (wrap64 (t127)), (wrap64 (t128)), (wrap64 (t129)), 0)) = some (r1, r2, r3, r4, r5) := by rw [if_neg (show ¬ (false = true) by decide)] at H; exact H
                                      clear H
                                      have H := H1
                                      clear H1
                                      simp only [Option.some.injEq, Prod.mk.injEq] at H
                                      obtain ⟨rfl, rfl, rfl, rfl, rfl⟩ := H
                                      have hnb45 := NB131_126.out
                                      have hnc45 := NB126_131.out
                                      have hcz46_0 : wc.cell? ⟨gb131, 0, none⟩ = some (.int .u64 t130) := (blk_cell BK131.out 0).trans rfl
                                      have hcz46_1 : wc.cell? ⟨gb131, 1, none⟩ = some (.int .i64 (wrap64 (t127))) := (blk_cell BK131.out 1).trans rfl
                                      have hcz46_2 : wc.cell? ⟨gb131, 2, none⟩ = some (.int .i64 (wrap64 (t128))) := (blk_cell BK131.out 2).trans rfl
                                      have hcz46_3 : wc.cell? ⟨gb131, 3, none⟩ = some (.int .i64 (wrap64 (t129))) := (blk_cell BK131.out 3).trans rfl
                                      have hfz46_0 := blk_frozen BK131.out 0
                                      have hfz46_1 := blk_frozen BK131.out 1
                                      have hfz46_2 := blk_frozen BK131.out 2
                                      have hfz46_3 := blk_frozen BK131.out 3
                                      have hcz47_0 : wc.cell? ⟨gb126, 0, none⟩ = some (.int .u64 x127000_1) := (blk_cell BK126.out 0).trans rfl
                                      have hcz47_1 : wc.cell? ⟨gb126, 1, none⟩ = some (.int .i64 x127001_1) := (blk_cell BK126.out 1).trans rfl
                                      have hcz47_2 : wc.cell? ⟨gb126, 2, none⟩ = some (.int .i64 x127002_1) := (blk_cell BK126.out 2).trans rfl
                                      have hcz47_3 : wc.cell? ⟨gb126, 3, none⟩ = some (.int .i64 x127003_1) := (blk_cell BK126.out 3).trans rfl
                                      have hfz47_0 := blk_frozen BK126.out 0
                                      have hfz47_1 := blk_frozen BK126.out 1
                                      have hfz47_2 := blk_frozen BK126.out 2
                                      have hfz47_3 := blk_frozen BK126.out 3
                                      go_wp2
                                      refine bodyPost_ret (results_ct rfl _ _ gb126 52 #[.int .u64 t130, .int .i64 (wrap64 (t127)), .int .i64 (wrap64 (t128)), .int .i64 (wrap64 (t129))] (0, 0) _ rfl (by (with_reducible repeat (first | refine blk_drewN ?_ _ | refine blk_drew ?_ | refine blk_alloc ?_ _)); refine blk_put (cs := #[.int .u64 t130, .int .i64 (wrap64 (t127)), .int .i64 (wrap64 (t128)), .int .i64 x127003_1]) ?_ 3 _ rfl; (with_reducible repeat (first | refine blk_drewN ?_ _ | refine blk_drew ?_ | refine blk_alloc ?_ _)); refine blk_put (cs := #[.int .u64 t130, .int .i64 (wrap64 (t127)), .int .i64 x127002_1, .int .i64 x127003_1]) ?_ 2 _ rfl; (with_reducible repeat (first | refine blk_drewN ?_ _ | refine blk_drew ?_ | refine blk_alloc ?_ _)); refine blk_put (cs := #[.int .u64 t130, .int .i64 x127001_1, .int .i64 x127002_1, .int .i64 x127003_1]) ?_ 1 _ rfl; (with_reducible repeat (first | refine blk_drewN ?_ _ | refine blk_drew ?_ | refine blk_alloc ?_ _)); refine blk_put (cs := #[.int .u64 x127000_1, .int .i64 x127001_1, .int .i64 x127002_1, .int .i64 x127003_1]) ?_ 0 _ rfl; (with_reducible repeat (first | refine blk_drewN ?_ _ | refine blk_drew ?_ | refine blk_alloc ?_ _)); exact BK126.out) Try.underlying52 rfl (by kernel_rfl)) rfl ?_
                                      exact ⟨by first | rfl | (simp [errW_none, errW_some] <;> rfl) | (simp [*, errW_none, errW_some] <;> rfl), by repeat (first | (with_reducible first | exact HB.out | apply below_alloc | apply pw_below_drewN | apply below_drew1 | refine below_set ?_ GE126.out | refine below_set ?_ GE131.out) | exact HB.out)⟩
                              · rw [if_neg c27] at H
                                exact absurd H (by simp)
                            · rw [if_neg c26] at H
                              exact absurd H (by simp)
                    · rw [if_neg c18] at H
                      exact absurd H (by simp)
                  · rw [if_neg c17] at H
                    exact absurd H (by simp)
                · rw [if_neg c15] at H
                  exact absurd H (by simp)
              · rw [if_neg c14] at H
                exact absurd H (by simp)
            · rw [if_neg c12] at H
              exact absurd H (by simp)
          · rw [if_neg c11] at H
            exact absurd H (by simp)

end Go.Proofs.Yteimienhaodfcaa.PMeta

namespace Go.Proofs.Yteimienhaodfcaa.PMeta
open Go.RowKit Go.Proofs.YteimienhaodfcaaW.PrintWords Go.Proofs.YteimienhaodfcaaW.PrintLast Go.Proofs.YteimienhaodfcaaW.PrintMore
attribute [local go_sem] max2_int min2_int max_two min_two max_three min_three max_four min_four   -- for this text's walks alone
set_option linter.unusedVariables false
set_option linter.unusedSimpArgs false


/-! ### klaxonlaw04_MetaBytes: function 7 -/
open Go.Proofs.YteimienhaodfcaaK Go.Crc
namespace MBy
theorem crc_l0_eq (k : Nat) (x0 : List Int) (x3 x4 : Int) : klaxonref01_Crc.l0 (k + 1) x0 x3 x4 = if x4 < (x0.length : Int) then (klaxonref01_Crc.l1 k x0 x3 x4 0) else (some x3) := by rw [klaxonref01_Crc.l0]
theorem crc_l1_eq (k : Nat) (x0 : List Int) (x3 x4 x5 : Int) : klaxonref01_Crc.l1 (k + 1) x0 x3 x4 x5 = if x5 < 8 then (if 0 ≤ x4 then (if x4 < (x0.length : Int) then (if 0 ≤ (IntKind.u64.wrap (x5)) then (if (Go.bits .and .u32 (Go.bits .xor .u32 x3 (shr .u32 ((rd x0 x4) % 4294967296) (IntKind.u64.wrap (x5)))) 1) = 1 then (klaxonref01_Crc.l1 k x0 (Go.bits .xor .u32 (x3 / 2) 3945912366) x4 (wrap64 (x5 + 1))) else (klaxonref01_Crc.l1 k x0 (x3 / 2) x4 (wrap64 (x5 + 1)))) else (none)) else (none)) else (none)) else (klaxonref01_Crc.l0 k x0 x3 (wrap64 (x4 + 1))) := by rw [klaxonref01_Crc.l1]
theorem crc_bits (l : List Int) (i p : Nat) (hi : i < l.length) (hp : rd l i = p) (hp2 : p < 256) (r : Int) (d : Nat) : ∀ (m j : Nat), j + d = 8 → m < 4294967296 →
    Ev (fun k => klaxonref01_Crc.l0 k l ((run m (bitsOf d (p / 2 ^ j)) : Nat) : Int) (wrap64 ((i : Int) + 1))) r → Ev (fun k => klaxonref01_Crc.l1 k l (m : Int) (i : Int) (j : Int)) r := by
  induction d with
  | zero =>
    intro m j hj hm h
    have h : Ev (fun k => klaxonref01_Crc.l0 k l (m : Int) (wrap64 ((i : Int) + 1))) r := h
    exact Ev.step (fun k => crc_l1_eq k _ _ _ _) (Ev.neg_ (by omega) h)
  | succ d ih =>
    intro m j hj hm h
    have a1 : (j : Int) < 8 := by omega
    have a2 : (0 : Int) ≤ (i : Int) := by omega
    have a3 : (i : Int) < (l.length : Int) := by omega
    have a4 : m / 2 < 4294967296 := by omega
    have ej : wrap64 ((j : Int) + 1) = ((j + 1 : Nat) : Int) := by rw [wrap64_id (by omega) (by omega)]; omega
    have hm2 : ((m : Int) / 2) = ((m / 2 : Nat) : Int) := by omega
    have a6 : j + 1 + d = 8 := by omega
    have hw : IntKind.u64.wrap (j : Int) = j := by rw [IntKind.wrap_u64]; omega
    have hpj : p / 2 ^ j < 4294967296 := Nat.lt_of_le_of_lt (Nat.div_le_self _ _) (by omega)
    have hs : shr .u32 (rd l i % 4294967296) (IntKind.u64.wrap (j : Int)) = ((p / 2 ^ j : Nat) : Int) := by
      rw [hw, hp, show ((p : Int) % 4294967296) = (p : Int) by omega]
      unfold shr
      rw [show min (j : Int).toNat IntKind.u32.bits = j by rw [show IntKind.u32.bits = 32 from rfl]; omega]
      norm_cast
    have hx : Go.bits .and .u32 (Go.bits .xor .u32 (m : Int) (shr .u32 (rd l i % 4294967296) (IntKind.u64.wrap (j : Int)))) 1 = (((m ^^^ (p / 2 ^ j)) % 2 : Nat) : Int) := by
      rw [hs, u32_xor_nat m _ hm hpj, and1 _ (xor_lt hm hpj)]
    have hb : (m ^^^ (p / 2 ^ j)) % 2 = (m ^^^ (p / 2 ^ j % 2)) % 2 := by rw [xor_mod2, xor_mod2]; omega
    have e3 : (m ^^^ (p / 2 ^ j % 2)) / 2 = m / 2 := by rw [Nat.xor_div_two, show p / 2 ^ j % 2 / 2 = 0 by omega, Nat.xor_zero]
    have ed : p / 2 ^ j / 2 = p / 2 ^ (j + 1) := by rw [Nat.div_div_eq_div_mul, Nat.pow_succ]
    rw [bitsOf, run, ed] at h
    have a5 : 0 ≤ IntKind.u64.wrap (j : Int) := by rw [hw]; exact Int.natCast_nonneg _
    have a7 : p / 2 ^ j % 2 < 4294967296 := Nat.lt_of_lt_of_le (Nat.mod_lt _ (by decide)) (by decide)
    have e : ∀ k, klaxonref01_Crc.l1 (k + 1) l (m : Int) (i : Int) (j : Int) = klaxonref01_Crc.l1 k l ((stp (m ^^^ (p / 2 ^ j % 2)) : Nat) : Int) (i : Int) ((j + 1 : Nat) : Int) := by
      intro k
      rw [crc_l1_eq, if_pos a1, if_pos a2, if_pos a3, if_pos a5, hx, hb, hm2, xorP _ a4, ej]
      unfold stp
      rw [e3]
      clear ej hm2 hw hs hx hb e3 ed h hpj a5 a7
      by_cases h1 : (m ^^^ (p / 2 ^ j % 2)) % 2 = 1
      · rw [if_pos (show (((m ^^^ (p / 2 ^ j % 2)) % 2 : Nat) : Int) = 1 by rw [h1]; rfl), if_pos h1]
      · rw [if_neg (show ¬ (((m ^^^ (p / 2 ^ j % 2)) % 2 : Nat) : Int) = 1 from fun hc => h1 (Int.ofNat.inj hc)), if_neg h1]
    exact Ev.step e (ih _ _ a6 (stp_lt (xor_lt hm a7)) h)
theorem crc_loop (l : List Int) (hl : Bytes l) (hs : l.length < 1000000000) (d : Nat) : ∀ (m i : Nat), i + d = l.length → m < 4294967296 → Ev (fun k => klaxonref01_Crc.l0 k l (m : Int) (i : Int)) ((from_ m (l.drop i) : Nat) : Int) := by
  induction d with
  | zero =>
    intro m i hi hm
    rw [List.drop_eq_nil_of_le (by omega)]
    show Ev _ (m : Int)
    exact Ev.step (fun k => crc_l0_eq k _ _ _) (Ev.neg_ (by omega) (Ev.now _))
  | succ d ih =>
    intro m i hi hm
    have hlt : i < l.length := by omega
    have hx := hl _ (rd_in l i hlt)
    obtain ⟨p, hp⟩ : ∃ p : Nat, rd l i = p := ⟨(rd l i).toNat, by omega⟩
    have hd : l.drop i = rd l i :: l.drop (i + 1) := by
      rw [List.drop_eq_getElem_cons hlt]; congr 1; simp [rd, List.getD, hlt]
    refine Ev.step (fun k => crc_l0_eq k _ _ _) (Ev.pos_ (by omega) ?_)
    refine crc_bits l i p hlt hp (by omega) _ 8 m 0 rfl hm ?_
    have e1 : from_ m (l.drop i) = from_ (run m (bitsOf 8 p)) (l.drop (i + 1)) := by
      rw [hd, show rd l i :: l.drop (i + 1) = [rd l i] ++ l.drop (i + 1) from rfl, from_append, hp, from_one _ _ (by omega) (by omega), run_byte _ _ (by omega), show ((p : Int)).toNat = p by omega]
    rw [e1, show p / 2 ^ 0 = p by simp, wrap64_id (by omega) (by omega), show ((i : Int) + 1) = ((i + 1 : Nat) : Int) by omega]
    exact ih _ _ (by omega) (run_lt _ _ hm (bits_lt 8 p))
theorem rcrc_ev (l : List Int) (hl : Bytes l) (hs : l.length < 1000000000) : Ev (fun k => klaxonref01_Crc.f k l) (crc l) := crc_loop l hl hs l.length 4294967295 0 (by omega) (by decide)
theorem bytesOf_str (l : List Int) (h : Bytes l) : bytesOf (strOfNums l) = l := by
  have := nums_bytes_ l h
  unfold bytesOf strOfNums
  unfold Lib.bytesOf at this
  simpa using this
theorem bt_str (l : List Int) (hl : Bytes l) (i : Int) : bt (strOfNums l) i = rd l i := by rw [← rd_bytesOf, bytesOf_str l hl]
theorem big_eq (k : Nat) (x0 : List Int) (x1 x7 : Int) : klaxonref04_big.l0 (k + 1) x0 x1 x7 = if x7 ≥ 0 then (if 0 ≤ (IntKind.u64.wrap (wrap64 (8 * x7))) then (if x0.length < 140737488355328 then (klaxonref04_big.l0 k (x0 ++ [(shr .u64 x1 (IntKind.u64.wrap (wrap64 (8 * x7)))) % 256]) x1 (wrap64 (x7 - 1))) else (none)) else (none)) else (some x0) := by rw [klaxonref04_big.l0]
theorem shr_be (v : Int) (i : Nat) (hi : i ≤ 7) (h0 : 0 ≤ v) : shr .u64 v (IntKind.u64.wrap (wrap64 (8 * (i : Int)))) = v / 256 ^ i := by
  have e1 : wrap64 (8 * (i : Int)) = ((8 * i : Nat) : Int) := by rw [wrap64_id (by omega) (by omega)]; omega
  have e2 : IntKind.u64.wrap ((8 * i : Nat) : Int) = ((8 * i : Nat) : Int) := by rw [IntKind.wrap_u64]; omega
  rw [e1, e2]
  obtain ⟨m, rfl⟩ : ∃ m : Nat, v = m := ⟨v.toNat, by omega⟩
  unfold shr
  rw [show min (((8 * i : Nat) : Int)).toNat IntKind.u64.bits = 8 * i by rw [show IntKind.u64.bits = 64 from rfl]; omega]
  have hp : (2 : Int) ^ (8 * i) = 256 ^ i := by
    have h := Nat.pow_mul 2 8 i
    have h2 : ((2 ^ (8 * i) : Nat) : Int) = (((2 ^ 8) ^ i : Nat) : Int) := by rw [h]
    simpa [Int.natCast_pow] using h2
  rw [hp]
theorem big_loop (v : Int) (h0 : 0 ≤ v) (i : Nat) : ∀ (L : List Int), i ≤ 8 → L.length + i < 1000 → Ev (fun k => klaxonref04_big.l0 k L v ((i : Int) - 1)) (L ++ be i v) := by
  induction i with
  | zero =>
    intro L _ _
    exact Ev.step (fun k => big_eq k _ _ _) (Ev.neg_ (by omega) (by rw [be, List.append_nil]; exact Ev.now _))
  | succ i ih =>
    intro L hi hl
    have e : (((i + 1 : Nat) : Int) - 1) = (i : Int) := by omega
    refine Ev.step (fun k => by rw [e, big_eq]) (Ev.pos_ (by omega) (Ev.pos_ ?_ (Ev.pos_ (by omega) ?_)))
    · rw [IntKind.wrap_u64]; omega
    · rw [shr_be v i (by omega) h0, wrap64_id (by omega) (by omega)]
      have := ih (L ++ [v / 256 ^ i % 256]) (by omega) (by rw [List.length_append, List.length_singleton]; omega)
      rw [List.append_assoc] at this
      exact this
theorem big_ev (L : List Int) (v : Int) (n : Nat) (h0 : 0 ≤ v) (hn : n ≤ 8) (hl : L.length < 500) : Ev (fun k => klaxonref04_big.f k L v (n : Int)) (L ++ be n v) := by
  have := big_loop v h0 n L hn (by omega)
  refine Ev.of (fun k => klaxonref04_big.mono _ _ _ _) (k := this.rounds.choose) ?_
  unfold klaxonref04_big.f
  rw [wrap64_id (by omega) (by omega)]
  exact this.rounds.choose_spec
theorem rput_ev (s r k d : Int) (hs : 0 ≤ s ∧ s < 18446744073709551616) : Ev (fun n => klaxonref04_Put.f n s r k d) (strOfNums (metaOf s r k d)) := by
  have hr := u64_range r; have hk := u64_range k; have hd := u64_range d
  unfold klaxonref04_Put.f
  refine Ev.bind_ (big_ev [] s 8 hs.1 (by decide) (by decide)) ?_
  refine Ev.bind_ (big_ev _ _ 4 hr.1 (by decide) (by simp [be_length])) ?_
  refine Ev.bind_ (big_ev _ _ 8 hk.1 (by decide) (by simp [be_length])) ?_
  refine Ev.bind_ (big_ev _ _ 4 hd.1 (by decide) (by simp [be_length])) ?_
  have e : (([] ++ be 8 s ++ be 4 (IntKind.u64.wrap r)) ++ be 8 (IntKind.u64.wrap k)) ++ be 4 (IntKind.u64.wrap d) = headM s (IntKind.u64.wrap r) (IntKind.u64.wrap k) (IntKind.u64.wrap d) := by
    unfold headM; simp only [List.nil_append, List.append_assoc]
  rw [e]
  refine Ev.bind_ (rcrc_ev _ (headM_bytes _ _ _ _) (by rw [headM_length]; decide)) ?_
  have hc := crc_rng (headM s (IntKind.u64.wrap r) (IntKind.u64.wrap k) (IntKind.u64.wrap d))
  rw [u64_small hc.1 (by omega)]
  refine Ev.bind_ (big_ev _ _ 4 hc.1 (by decide) (by rw [headM_length]; decide)) ?_
  refine Ev.bind_ (big_ev _ s 8 hs.1 (by decide) (by rw [List.length_append, headM_length, be_length]; decide)) ?_
  unfold metaOf
  rw [metaB_shape, List.append_assoc]
  exact Ev.now _
theorem told_eq (k : Nat) (x0 : ByteArray) (x3 x4 : Int) : klaxonref04_told.l0 (k + 1) x0 x3 x4 = if x4 < (x0.size : Int) then (if 0 ≤ x4 then (klaxonref04_told.l0 k x0 (Go.bits .or .u64 (IntKind.u64.wrap (x3 * 256)) (IntKind.u64.wrap (bt x0 x4))) (wrap64 (x4 + 1))) else (none)) else (some x3) := by rw [klaxonref04_told.l0]
theorem rtold_loop (l : List Int) (hl : Bytes l) (h8 : l.length ≤ 8) (d : Nat) : ∀ (i : Nat), l.length - i = d → i ≤ l.length → Ev (fun k => klaxonref04_told.l0 k (strOfNums l) (tolL (l.take i)) i) (tolL l) := by
  have hsz := strOfNums_size l
  induction d with
  | zero =>
    intro i hd hi
    have e : l.take i = l := List.take_of_length_le (by omega)
    rw [e]
    exact Ev.step (fun k => told_eq k _ _ _) (Ev.neg_ (by omega) (Ev.now _))
  | succ d ih =>
    intro i hd hi
    have hlt : i < l.length := by omega
    obtain ⟨b0, b1⟩ := hl _ (rd_in l i hlt)
    have hb := tolL_lt (l.take i) fun x hx => hl x (List.mem_of_mem_take hx)
    rw [List.length_take, show min i l.length = i by omega] at hb
    have hp := pow256_le i (by omega)
    have e : tolL (l.take (i + 1)) = tolL (l.take i) * 256 + rd l i := by rw [rd_take l i hlt, tolL_snoc]
    refine Ev.step (fun k => told_eq k _ _ _) (Ev.pos_ (by omega) (Ev.pos_ (by omega) ?_))
    rw [bt_str l hl, u64_small (by omega) (by omega), u64_small (by omega) (by omega), or_low8 _ _ hb.1 (by omega) b0 b1, ← e, wrap64_id (by omega) (by omega), show ((i : Int) + 1) = ((i + 1 : Nat) : Int) by omega]
    exact ih (i + 1) (by omega) (by omega)
theorem rtold_ev (l : List Int) (hl : Bytes l) (h8 : l.length ≤ 8) : Ev (fun k => klaxonref04_told.f k (strOfNums l)) (tolL l) := rtold_loop l hl h8 l.length 0 rfl (by omega)
theorem str_extract (l : List Int) (i j : Nat) : (strOfNums l).extract i j = strOfNums ((l.take j).drop i) := by
  apply ByteArray.ext
  apply Array.toList_inj.mp
  rw [Lib.extract_data, strOfNums_data, strOfNums_data, List.map_drop, List.map_take, List.drop_take]
theorem rget_l0 (k : Nat) (x0 : ByteArray) (x4 : Int) : klaxonref04_Get.l0 (k + 1) x0 x4 = if x4 < (x0.size : Int) then (if 0 ≤ x4 then (if (bt x0 x4) = 0 then (klaxonref04_Get.l0 k x0 (wrap64 (x4 + 1))) else (some (0, 0, 0, 0, 40))) else (none)) else (if 8 ≤ 12 then (if 12 ≤ (x0.size : Int) then ((klaxonref04_told.f k (x0.extract 8 12)).bind fun t127 => (if 12 ≤ 20 then (if 20 ≤ (x0.size : Int) then ((klaxonref04_told.f k (x0.extract 12 20)).bind fun t128 => (if 20 ≤ 24 then (if 24 ≤ (x0.size : Int) then ((klaxonref04_told.f k (x0.extract 20 24)).bind fun t129 => (if t127 > 16384 then (klaxonref04_Get.j1 k x0 t127 t128 t129 true) else (if t128 > 2147483647 then (klaxonref04_Get.j1 k x0 t127 t128 t129 true) else (klaxonref04_Get.j1 k x0 t127 t128 t129 (decide (t129 > 64)))))) else (none)) else (none))) else (none)) else (none))) else (none)) else (none)) := by rw [klaxonref04_Get.l0]
theorem rget_j1 (k : Nat) (x0 : ByteArray) (x5 x6 x7 : Int) (x42 : Bool) : klaxonref04_Get.j1 (k + 1) x0 x5 x6 x7 x42 = if x42 = true then (some (0, 0, 0, 0, 40)) else (if 0 ≤ 8 then (if 8 ≤ (x0.size : Int) then ((klaxonref04_told.f k (x0.extract 0 8)).bind fun t130 => (if t130 = 0 then (klaxonref04_Get.j2 k true t130 (wrap64 (x5)) (wrap64 (x6)) (wrap64 (x7))) else ((klaxonref04_Put.f k t130 (wrap64 (x5)) (wrap64 (x6)) (wrap64 (x7))).bind fun t132 => (if 0 ≤ 36 then (if 36 ≤ (x0.size : Int) then (klaxonref04_Get.j2 k (t132.toList != (x0.extract 0 36).toList) t130 (wrap64 (x5)) (wrap64 (x6)) (wrap64 (x7))) else (none)) else (none))))) else (none)) else (none)) := by rw [klaxonref04_Get.j1]
theorem rget_j2 (k : Nat) (x63 : Bool) (a b c d : Int) : klaxonref04_Get.j2 (k + 1) x63 a b c d = if x63 = true then (some (0, 0, 0, 0, 40)) else (some (a, b, c, d, 0)) := by rw [klaxonref04_Get.j2]
theorem rseg_ev (l : List Int) (hl : Bytes l) (a b : Nat) (h : b ≤ a + 8) : Ev (fun k => klaxonref04_told.f k ((strOfNums l).extract a b)) (segM l a b) := by
  rw [str_extract]
  exact rtold_ev _ (fun x hx => hl x (List.mem_of_mem_take (List.mem_of_mem_drop hx))) (by rw [List.length_drop, List.length_take]; omega)
theorem seg_nonneg (l : List Int) (hl : Bytes l) (a b : Nat) : 0 ≤ segM l a b := (tolL_lt _ fun x hx => hl x (List.mem_of_mem_take (List.mem_of_mem_drop hx))).1
theorem rget_tail (l : List Int) (hl : Bytes l) (h36 : 36 ≤ l.length) (b : Bool) (hb : b = decide (64 < segM l 20 24) ∨ b = true ∧ (16384 < segM l 8 12 ∨ 2147483647 < segM l 12 20)) (hb2 : b = false → ¬ (16384 < segM l 8 12 ∨ 2147483647 < segM l 12 20)) :
    Ev (fun k => klaxonref04_Get.j1 k (strOfNums l) (segM l 8 12) (segM l 12 20) (segM l 20 24) b) (getM2 l) := by
  have hsz := strOfNums_size l
  have n1 := seg_nonneg l hl 8 12; have n2 := seg_nonneg l hl 12 20; have n3 := seg_nonneg l hl 20 24
  cases b with
  | true =>
    have e : getM2 l = (0, 0, 0, 0, 40) := by
      unfold getM2
      rw [if_pos]
      rcases hb with h | h
      · exact .inr (.inr (of_decide_eq_true h.symm))
      · exact h.2.elim .inl fun h => .inr (.inl h)
    rw [e]
    exact Ev.step (fun k => rget_j1 k _ _ _ _ _) (Ev.pos_ rfl (Ev.now _))
  | false =>
    have h3 : ¬ 64 < segM l 20 24 := by
      rcases hb with h | h
      · exact of_decide_eq_false h.symm
      · cases h.1
    have h12 := hb2 rfl
    have hs0 := tolL_lt ((l.take 8).drop 0) fun x hx => hl x (List.mem_of_mem_take (List.mem_of_mem_drop hx))
    rw [show ((l.take 8).drop 0).length = 8 by rw [List.length_drop, List.length_take]; omega] at hs0
    have hs1 : 0 ≤ segM l 0 8 ∧ segM l 0 8 < 18446744073709551616 := ⟨hs0.1, Int.lt_of_lt_of_le hs0.2 (by decide)⟩
    have e0 : getM2 l = if segM l 0 8 = 0 ∨ metaB (segM l 0 8) (segM l 8 12) (segM l 12 20) (segM l 20 24) ≠ l.take 36 then (0, 0, 0, 0, 40) else (segM l 0 8, segM l 8 12, segM l 12 20, segM l 20 24, 0) := by
      unfold getM2; rw [if_neg (fun h => h.elim (fun h => h12 (.inl h)) fun h => h.elim (fun h => h12 (.inr h)) h3)]
    refine Ev.step (fun k => rget_j1 k _ _ _ _ _) (Ev.neg_ (by decide) (Ev.pos_ (by decide) (Ev.pos_ (by omega) ?_)))
    refine Ev.bind_ (rseg_ev l hl 0 8 (by omega)) ?_
    rw [e0]
    by_cases hz : segM l 0 8 = 0
    · rw [if_pos (.inl hz)]
      refine Ev.pos_ hz ?_
      exact Ev.step (fun k => rget_j2 k _ _ _ _ _) (Ev.pos_ rfl (Ev.now _))
    · refine Ev.neg_ hz ?_
      rw [wrap64_id (by omega) (by omega), wrap64_id (by omega) (by omega), wrap64_id (by omega) (by omega)]
      refine Ev.bind_ (rput_ev _ _ _ _ hs1) (Ev.pos_ (by decide) (Ev.pos_ (by omega) ?_))
      have em : metaOf (segM l 0 8) (segM l 8 12) (segM l 12 20) (segM l 20 24) = metaB (segM l 0 8) (segM l 8 12) (segM l 12 20) (segM l 20 24) := by
        unfold metaOf; rw [u64_small n1 (by omega), u64_small n2 (by omega), u64_small n3 (by omega)]
      have hc : ((strOfNums (metaOf (segM l 0 8) (segM l 8 12) (segM l 12 20) (segM l 20 24))).toList != ((strOfNums l).extract 0 36).toList) = !decide (metaB (segM l 0 8) (segM l 8 12) (segM l 12 20) (segM l 20 24) = l.take 36) := by
        rw [str_extract, List.drop_zero, em]
        show (!(_ == _)) = _
        rw [strOf_inj_ _ _ (metaB_bytes _ _ _ _) (fun x hx => hl x (List.mem_of_mem_take hx))]
      rw [hc]
      by_cases he : metaB (segM l 0 8) (segM l 8 12) (segM l 12 20) (segM l 20 24) = l.take 36
      · rw [if_neg (fun h => h.elim hz fun h => h he), decide_eq_true he]
        exact Ev.step (fun k => rget_j2 k _ _ _ _ _) (Ev.neg_ (by decide) (Ev.now _))
      · rw [if_pos (.inr he), decide_eq_false he]
        exact Ev.step (fun k => rget_j2 k _ _ _ _ _) (Ev.pos_ rfl (Ev.now _))
theorem rget_loop (l : List Int) (hl : Bytes l) (h36 : 36 ≤ l.length) (hbig : l.length ≤ 100000) (d : Nat) : ∀ (i : Nat), l.length - i = d → 36 ≤ i → i ≤ l.length → (∀ j : Nat, 36 ≤ j → j < i → rd l j = 0) → Ev (fun k => klaxonref04_Get.l0 k (strOfNums l) (i : Int)) (getM l) := by
  have hsz := strOfNums_size l
  induction d with
  | zero =>
    intro i hd h1 h2 hz
    have e : getM l = getM2 l := by
      unfold getM getM2
      rw [if_neg (by omega), if_neg]
      rw [Bool.not_eq_true, List.any_eq_false]
      intro x hx
      obtain ⟨j, hj, rfl⟩ := List.getElem_of_mem hx
      rw [List.length_drop] at hj
      have := hz (36 + j) (by omega) (by omega)
      rw [List.getElem_drop]
      simp only [rd, Int.toNat_natCast, List.getD_eq_getElem?_getD, List.getElem?_eq_getElem (show 36 + j < l.length by omega), Option.getD_some] at this
      simp [this]
    rw [e]
    refine Ev.step (fun k => rget_l0 k _ _) (Ev.neg_ (by omega) (Ev.pos_ (by decide) (Ev.pos_ (by omega) ?_)))
    refine Ev.bind_ (rseg_ev l hl 8 12 (by omega)) (Ev.pos_ (by decide) (Ev.pos_ (by omega) ?_))
    refine Ev.bind_ (rseg_ev l hl 12 20 (by omega)) (Ev.pos_ (by decide) (Ev.pos_ (by omega) ?_))
    refine Ev.bind_ (rseg_ev l hl 20 24 (by omega)) ?_
    by_cases g1 : segM l 8 12 > 16384
    · exact Ev.pos_ g1 (rget_tail l hl h36 true (.inr ⟨rfl, .inl g1⟩) (fun h => by cases h))
    refine Ev.neg_ g1 ?_
    by_cases g2 : segM l 12 20 > 2147483647
    · exact Ev.pos_ g2 (rget_tail l hl h36 true (.inr ⟨rfl, .inr g2⟩) (fun h => by cases h))
    refine Ev.neg_ g2 ?_
    exact rget_tail l hl h36 _ (.inl rfl) (fun _ h => h.elim g1 g2)
  | succ d ih =>
    intro i hd h1 h2 hz
    refine Ev.step (fun k => rget_l0 k _ _) (Ev.pos_ (by omega) (Ev.pos_ (by omega) ?_))
    rw [bt_str l hl]
    by_cases h0 : rd l i = 0
    · refine Ev.pos_ h0 ?_
      rw [wrap64_id (by omega) (by omega), show ((i : Int) + 1) = ((i + 1 : Nat) : Int) by omega]
      exact ih (i + 1) (by omega) (by omega) (by omega) fun j hj1 hj2 => by
        by_cases hji : j = i
        · rw [hji]; exact h0
        · exact hz j hj1 (by omega)
    · refine Ev.neg_ h0 ?_
      have e : getM l = (0, 0, 0, 0, 40) := by
        unfold getM
        rw [if_neg (by omega), if_pos]
        refine List.any_eq_true.2 ⟨rd l i, ?_, by simpa using h0⟩
        have hlt : i < l.length := by omega
        have : (l.drop 36)[i - 36]? = some (rd l i) := by
          rw [List.getElem?_drop, show 36 + (i - 36) = i by omega, List.getElem?_eq_getElem hlt]
          simp [rd, List.getD_eq_getElem?_getD, List.getElem?_eq_getElem hlt]
        exact List.mem_of_getElem? this
      rw [e]; exact Ev.now _
theorem rget_ev (l : List Int) (hl : Bytes l) (hbig : l.length ≤ 100000) : Ev (fun k => klaxonref04_Get.f k (strOfNums l)) (getM l) := by
  have hsz := strOfNums_size l
  unfold klaxonref04_Get.f
  by_cases h : l.length < 36
  · have e : getM l = (0, 0, 0, 0, 40) := by unfold getM; rw [if_pos h]
    rw [e]
    exact Ev.pos_ (by omega) (Ev.now _)
  · exact Ev.neg_ (by omega) (rget_loop l hl (by omega) hbig _ 36 rfl (by omega) (by omega) fun j h1 h2 => by omega)
set_option maxHeartbeats 8000000 in
set_option maxRecDepth 100000 in
theorem metabytes_law (s r k d : Int) (A : Option Addr) (c : Nat) (l : List Int) (w : World) (hr : Kd.C (Kd.int .u8) w A l.length l) (hc : l.length ≤ c) (hs : 0 ≤ s ∧ s < 18446744073709551616) (hby : Bytes l) :
    Calls Try.prog 7 #[.agg #[.int .u64 s, .int .i64 r, .int .i64 k, .int .i64 d], .slice A l.length c] w fun e w' => e = .returned (.bool true) ∧ Below w.heap.size w w' := by
  have hlm := hr.2.1
  have HR := Aside0.mk hr; have HBY := Aside0.mk hby; have HS := Aside0.mk hs
  clear hr hby hs
  obtain ⟨W0, hW0⟩ : ∃ W, W = w.alloc (.cells #[.int .u64 s, .int .i64 r, .int .i64 k, .int .i64 d] 52) := ⟨_, rfl⟩
  have hB0 : Below w.heap.size w W0 := by rw [hW0]; exact below_alloc (Below.refl _ _) _
  have hx0 : W0.heap[w.heap.size]? = some (.cells #[.int .u64 s, .int .i64 r, .int .i64 k, .int .i64 d] 52) := by rw [hW0]; exact blk_new w _
  have H0 := Aside0.mk (And.intro hB0 hx0)
  clear hB0 hx0
  by_cases h1 : 20000 < (l.length : Int)
  · have d1 : decide (20000 < (l.length : Int)) = true := decide_eq_true h1
    go_enter Try.func7, Try.ntmps7
    go_wp2_with fail
    rw [← hW0]
    clear hW0
    refine (live4_calls W0).mono ?_
    rintro e w1 ⟨rfl, hb1⟩
    have HB1 := Aside0.mk (below_step H0.out.1 hb1)
    clear hb1
    go_wp2_with fail
    go_ret
    exact ⟨rfl, HB1.out⟩
  have d1 : decide (20000 < (l.length : Int)) = false := decide_eq_false h1
  go_enter Try.func7, Try.ntmps7
  go_upto_region 3 with (fail)
  rw [← hW0]
  clear hW0
  have HO : Aside0 (Kd.R (Kd.int .u8) 5 (W0.alloc (.cells #[] 5)) W0.heap.size (fun _ => True) (.slice (some ⟨W0.heap.size, 0, none⟩) 0 0) []) := ⟨⟨fun _ _ => trivial, [], ⟨rfl, .inr ⟨W0.heap.size, 0, #[], rfl, Nat.le_refl _, blk_new W0 _, Nat.le_refl _, by simp [maxLen], rfl, rfl⟩⟩, Reps.none _ _⟩⟩
  have HR0 := Aside0.mk (Kd.C_below HR.out H0.out.1)
  have HR3 := Aside0.mk (Kd.C_alloc HR0.out (.cells #[] 5))
  have HB3 := Aside0.mk (below_alloc (Below.refl W0.heap.size W0) (.cells #[] 5))
  have hl1 : l.length < 140737488355328 := by omega
  go_wp2_with ((with_reducible refine gate_builtin (b := .append) (xs := #[.tmp 14, .tmp 15]) rfl ?_); at_builtin; refine Kd.R_append_rows (Kd.int .u8) (Rr := fun (x : Int) (c : List Value) => c = [.int .u8 x]) (w0 := W0) W0.heap.size rfl (.tmp 14) (.tmp 15) 33 5 (.int .u8 0) 1 rfl Try.underlying33 infoByte rfl (by decide) (by omega) (.slice (some ⟨W0.heap.size, 0, none⟩) 0 0) [] l A l.length c (fun _ => True) (fun _ => False) rfl rfl ?HO HR3.out (fun _ _ h => h) (fun _ hk => hk.elim) (fun _ _ => trivial) ?HB ?hbase ?hl ?_; (case HO => exact HO.out); (case HB => exact HB3.out); (case hbase => exact HB3.out.size); (case hl => simp; omega); intro v1 w8 hr hb hg hat; rw [List.nil_append] at hr; obtain ⟨B8, d8, rfl⟩ := Kd.R_slice hr; have HR8 := Aside0.mk hr; have HB8 := Aside0.mk hb; clear hr hb hg hat)
  obtain ⟨_, hq8, hC8⟩ := Kd.R_reads' HR8.out
  refine (mget_calls B8 d8 l w8 hC8 hq8 HBY.out).mono ?_
  rintro e w9 ⟨rfl, hb9⟩
  obtain ⟨x0, x1, x2, x3, x4, hx⟩ : ∃ x0 x1 x2 x3 x4, getM l = (x0, x1, x2, x3, x4) := ⟨_, _, _, _, _, rfl⟩
  rw [hx]
  have HX := Aside0.mk hx
  have h09 : Below W0.heap.size W0 w9 := below_step HB8.out hb9
  have HB9 := Aside0.mk h09
  clear hC8 hq8 HR8 HB8 HO HR3 HB3 hb9 h09 hx
  simp only
  obtain ⟨xb, hxb⟩ : ∃ n, n = w9.heap.size := ⟨_, rfl⟩
  obtain ⟨WX, hWX⟩ : ∃ W, W = w9.alloc (.cells #[.int .u64 x0, .int .i64 x1, .int .i64 x2, .int .i64 x3] 52) := ⟨_, rfl⟩
  have hBX : Below W0.heap.size W0 WX := by rw [hWX]; exact below_alloc HB9.out _
  have hxX : WX.heap[xb]? = some (.cells #[.int .u64 x0, .int .i64 x1, .int .i64 x2, .int .i64 x3] 52) := by rw [hWX, hxb]; exact blk_new w9 _
  have hcvb : (convert 33 9 (.slice A l.length c)).run Try.prog WX = .ok (.string (strOfNums l)) WX := Kd.C_string (c := c) Try.underlying33 Try.underlying5 Try.underlying9 (Kd.C_below HR0.out hBX)
  rw [hWX] at hcvb
  have HBX := Aside0.mk (And.intro hBX hxX)
  clear hBX hxX
  obtain ⟨kg, hg⟩ := Ev.at_ (rget_ev l HBY.out (by omega))
  rw [HX.out] at hg
  have HG := Aside0.mk hg
  clear hg
  go_wp2_with fail
  rw [← hWX, ← hxb]
  clear hWX hxb hcvb
  refine (klaxonref04_Get.calls kg (strOfNums l) x0 x1 x2 x3 x4 WX HG.out).mono ?_
  rintro e w10 ⟨rfl, hb10⟩
  obtain ⟨yb, hyb⟩ : ∃ n, n = w10.heap.size := ⟨_, rfl⟩
  obtain ⟨WY, hWY⟩ : ∃ W, W = w10.alloc (.cells #[.int .u64 x0, .int .i64 x1, .int .i64 x2, .int .i64 x3] 52) := ⟨_, rfl⟩
  have hBY : Below W0.heap.size W0 WY := by rw [hWY]; exact below_alloc (below_step HBX.out.1 hb10) _
  have hyY : WY.heap[yb]? = some (.cells #[.int .u64 x0, .int .i64 x1, .int .i64 x2, .int .i64 x3] 52) := by rw [hWY, hyb]; exact blk_new w10 _
  have hxY : WY.heap[xb]? = some (.cells #[.int .u64 x0, .int .i64 x1, .int .i64 x2, .int .i64 x3] 52) := by rw [hWY]; exact blk_alloc (blk_below HBX.out.2 hb10) _
  have hmY : WY.heap[w.heap.size]? = some (.cells #[.int .u64 s, .int .i64 r, .int .i64 k, .int .i64 d] 52) := blk_below H0.out.2 hBY
  obtain ⟨Inv, hInv⟩ : ∃ I : World → Prop, I = fun W => W.heap[w.heap.size]? = some (.cells #[.int .u64 s, .int .i64 r, .int .i64 k, .int .i64 d] 52) ∧ W.heap[xb]? = some (.cells #[.int .u64 x0, .int .i64 x1, .int .i64 x2, .int .i64 x3] 52) ∧ W.heap[yb]? = some (.cells #[.int .u64 x0, .int .i64 x1, .int .i64 x2, .int .i64 x3] 52) ∧ Below w.heap.size w W := ⟨_, rfl⟩
  have hI : Inv WY := by rw [hInv]; exact ⟨hmY, hxY, hyY, below_step H0.out.1 hBY⟩
  have IB : ∀ W W', Inv W → Below W.heap.size W W' → Inv W' := by
    rw [hInv]; rintro W W' ⟨a1, a2, a3, a4⟩ hb; exact ⟨blk_below a1 hb, blk_below a2 hb, blk_below a3 hb, below_step a4 hb⟩
  have IF : ∀ W, Inv W → (W.cell? ⟨w.heap.size, 0, none⟩ = some (.int .u64 s) ∧ W.cell? ⟨w.heap.size, 1, none⟩ = some (.int .i64 r) ∧ W.cell? ⟨w.heap.size, 2, none⟩ = some (.int .i64 k) ∧ W.cell? ⟨w.heap.size, 3, none⟩ = some (.int .i64 d)) ∧ (W.cell? ⟨xb, 0, none⟩ = some (.int .u64 x0) ∧ W.cell? ⟨xb, 1, none⟩ = some (.int .i64 x1) ∧ W.cell? ⟨xb, 2, none⟩ = some (.int .i64 x2) ∧ W.cell? ⟨xb, 3, none⟩ = some (.int .i64 x3)) ∧ (W.cell? ⟨yb, 0, none⟩ = some (.int .u64 x0) ∧ W.cell? ⟨yb, 1, none⟩ = some (.int .i64 x1) ∧ W.cell? ⟨yb, 2, none⟩ = some (.int .i64 x2) ∧ W.cell? ⟨yb, 3, none⟩ = some (.int .i64 x3)) := by
    rw [hInv]; rintro W ⟨a1, a2, a3, a4⟩
    refine ⟨⟨?_, ?_, ?_, ?_⟩, ⟨?_, ?_, ?_, ?_⟩, ⟨?_, ?_, ?_, ?_⟩⟩ <;> first | (rw [blk_cell a1]; rfl) | (rw [blk_cell a2]; rfl) | (rw [blk_cell a3]; rfl)
  have IW : ∀ W, Inv W → Below w.heap.size w W := by rw [hInv]; exact fun W h => h.2.2.2
  have IB := Aside0.mk IB; have IF := Aside0.mk IF; have IW := Aside0.mk IW
  have HI := Aside0.mk (IB.out _ _ hI (below_drew1 (Below.refl _ _)))
  obtain ⟨kp, hp⟩ := Ev.at_ (rput_ev s r k d HS.out)
  have HP := Aside0.mk hp
  clear hBY hyY hxY hmY hInv hI hp hb10
  simp only
  go_wp2_with fail
  rw [← hWY, ← hyb]
  clear hWY hyb
  have SF := IF
  have HRF : Aside0 (∀ W : World, Below W.heap.size W W) := ⟨fun W => Below.refl _ _⟩
  refine' wp_region_flow (by kernel_rfl) (by kernel_rfl) Inv (fun W W' => Below W.heap.size W W') HRF.out HI.out _ ?_
  rotate_left
  refine' Flow.val _ 0 (some 26) (Op.load 52 (Operand.tmp 2)) 52 (none) [] _ rfl (by kernel_rfl) (by kernel_rfl) (by kernel_rfl) (by rfl) ?_ ?_ HRF.out
  rotate_left 2
  · (intro W hW hK; have hF := SF.out W hW; go_simp; first | done | with_reducible rfl)
  try simp only [Act.put, List.setIfInBounds_toArray, List.set_cons_zero, List.set_cons_succ]
  refine' Flow.val _ 3 (some 29) (Op.load 52 (Operand.tmp 2)) 52 (none) [] _ rfl (by kernel_rfl) (by kernel_rfl) (by kernel_rfl) (by rfl) ?_ ?_ HRF.out
  rotate_left 2
  · (intro W hW hK; have hF := SF.out W hW; go_simp; first | done | with_reducible rfl)
  try simp only [Act.put, List.setIfInBounds_toArray, List.set_cons_zero, List.set_cons_succ]
  refine' Flow.op [(2, (fun u => u = (.string (strOfNums (metaOf s r k d)) : Value)), fun _ _ => True), (4, (fun u => u = (.string (strOfNums (metaOf s r k d)) : Value)), fun _ _ => True), (5, (fun u => u = (.bool true : Value)), fun _ _ => True), (6, (fun u => u = (.bool true : Value)), fun _ _ => True), (7, (fun u => u = (.agg #[.int .u64 x0, .int .i64 x1, .int .i64 x2, .int .i64 x3] : Value)), fun _ _ => True), (8, (fun u => u = (.agg #[.int .u64 x0, .int .i64 x1, .int .i64 x2, .int .i64 x3] : Value)), fun _ _ => True), (9, (fun u => u = (.bool true : Value)), fun _ _ => True), (10, (fun u => u = (.bool true : Value)), fun _ _ => True), (11, (fun u => u = (.bool true : Value)), fun _ _ => True), (12, (fun u => u = (.int .i64 x4 : Value)), fun _ _ => True), (13, (fun u => u = (.int .i64 x4 : Value)), fun _ _ => True), (14, (fun u => u = (.int .i64 x4 : Value)), fun _ _ => True), (15, (fun u => u = (.bool true : Value)), fun _ _ => True), (16, (fun u => u = (.bool true : Value)), fun _ _ => True), (17, (fun u => u = (.bool true : Value)), fun _ _ => True), (18, (fun u => u = (.bool true : Value)), fun _ _ => True), (19, (fun u => u = (.bool true : Value)), fun _ _ => True), (20, (fun u => u = (.bool true : Value)), fun _ _ => True)] 1 (some 27) (Op.call { callee := Callee.value (Operand.func 31), args := #[Operand.tmp 26], argTypes := #[52] }) 33 (none) [] (fun v => ∃ g : Nat, v = .slice (some ⟨g, 0, none⟩) 36 36) (fun v W => ∃ g : Nat, v = .slice (some ⟨g, 0, none⟩) 36 36 ∧ Blk W g (metaOf s r k d)) rfl (by kernel_rfl) (by kernel_rfl) (by kernel_rfl) ⟨_, 0, rfl⟩ (fun v W W' hb ⟨g, e, h⟩ => ⟨g, e, blk_below h hb⟩) (by rfl) ?_ ?_
  · intro W hW hK
    refine .inr ⟨31, #[.agg #[.int .u64 s, .int .i64 r, .int .i64 k, .int .i64 d]], by go_simp, (mput_calls s r k d W HS.out).mono ?_⟩
    rintro e w' ⟨g, rfl, _, hbk, hb⟩
    exact ⟨_, rfl, ⟨_, rfl⟩, IB.out _ _ hW hb, hb, ⟨g, rfl, hbk⟩⟩
  rintro v ⟨g5, rfl⟩
  try simp only [Act.put, List.setIfInBounds_toArray, List.set_cons_zero, List.set_cons_succ]
  refine' Flow.val _ 2 (some 28) (Op.convert 33 9 (Operand.tmp 27)) 9 (none) [1] _ rfl (by kernel_rfl) (by kernel_rfl) (by kernel_rfl) (by rfl) ?_ ?_ HRF.out
  · intro W hW hK
    have h5 := hK 1 (by simp)
    simp only [updK, if_true, if_false, reduceIte] at h5
    obtain ⟨g', e, hC⟩ := h5
    obtain rfl : g5 = g' := by simpa using e
    have cvg : (convert 33 9 (.slice (some ⟨g5, 0, none⟩) 36 36)).run Try.prog W = .ok (.string (strOfNums (metaOf s r k d))) W := mconv g5 36 _ W hC (metaB_length _ _ _ _)
    go_simp; first | done | with_reducible rfl
  try simp only [Act.put, List.setIfInBounds_toArray, List.set_cons_zero, List.set_cons_succ]
  refine' Flow.call _ 4 (some 30) (Op.call { callee := Callee.value (Operand.func 32), args := #[Operand.tmp 29], argTypes := #[52] }) 9 (none) [] _ 32 #[.agg #[.int .u64 s, .int .i64 r, .int .i64 k, .int .i64 d]] rfl (by kernel_rfl) (by kernel_rfl) (by kernel_rfl) (by rfl) ?_ ?_ ?_
  · (intro W; go_simp; first | done | with_reducible rfl)
  · intro W hW hK
    exact (klaxonref04_Put.calls kp s r k d (strOfNums (metaOf s r k d)) W HP.out).mono fun e w' ⟨he, hb⟩ => ⟨he, IB.out _ _ hW hb, hb⟩
  try simp only [Act.put, List.setIfInBounds_toArray, List.set_cons_zero, List.set_cons_succ]
  refine' Flow.val _ 5 (some 31) (Op.binOp BinOp.eql 9 (Operand.tmp 28) (Operand.tmp 30) 9) 4 (none) [] _ rfl (by kernel_rfl) (by kernel_rfl) (by kernel_rfl) (by rfl) ?_ ?_ HRF.out
  · (intro W hW hK; go_simp; first | done | with_reducible rfl)
  try simp only [Act.put, List.setIfInBounds_toArray, List.set_cons_zero, List.set_cons_succ]
  refine' Flow.val _ 6 (some 32) (Op.move (Operand.tmp 31)) 4 (none) [] _ rfl (by kernel_rfl) (by kernel_rfl) (by kernel_rfl) (by rfl) ?_ ?_ HRF.out
  · (intro W hW hK; go_simp; first | done | with_reducible rfl)
  try simp only [Act.put, List.setIfInBounds_toArray, List.set_cons_zero, List.set_cons_succ]
  refine' Flow.val _ 7 (some 33) (Op.load 52 (Operand.tmp 5)) 52 (some (6, true)) [] _ rfl (by kernel_rfl) (by kernel_rfl) (by kernel_rfl) (by rfl) ?_ ?_ HRF.out
  · (intro W hW hK; have hF := SF.out W hW; go_simp; first | done | with_reducible rfl)
  try simp only [Act.put, List.setIfInBounds_toArray, List.set_cons_zero, List.set_cons_succ]
  refine' Flow.val _ 8 (some 34) (Op.load 52 (Operand.tmp 7)) 52 (some (6, true)) [] _ rfl (by kernel_rfl) (by kernel_rfl) (by kernel_rfl) (by rfl) ?_ ?_ HRF.out
  · (intro W hW hK; have hF := SF.out W hW; go_simp; first | done | with_reducible rfl)
  try simp only [Act.put, List.setIfInBounds_toArray, List.set_cons_zero, List.set_cons_succ]
  refine' Flow.val _ 9 (some 35) (Op.binOp BinOp.eql 52 (Operand.tmp 33) (Operand.tmp 34) 52) 4 (some (6, true)) [] _ rfl (by kernel_rfl) (by kernel_rfl) (by kernel_rfl) (by rfl) ?_ ?_ HRF.out
  · (intro W hW hK; go_simp; first | done | with_reducible rfl)
  try simp only [Act.put, List.setIfInBounds_toArray, List.set_cons_zero, List.set_cons_succ]
  refine' Flow.val _ 10 (some 36) (Op.pick (Operand.tmp 32) (Operand.tmp 35) (Operand.const (Value.bool false))) 4 (none) [] _ rfl (by kernel_rfl) (by kernel_rfl) (by kernel_rfl) (by rfl) ?_ ?_ HRF.out
  · (intro W hW hK; go_simp; first | done | with_reducible rfl)
  try simp only [Act.put, List.setIfInBounds_toArray, List.set_cons_zero, List.set_cons_succ]
  refine' Flow.val _ 11 (some 37) (Op.move (Operand.tmp 36)) 4 (none) [] _ rfl (by kernel_rfl) (by kernel_rfl) (by kernel_rfl) (by rfl) ?_ ?_ HRF.out
  · (intro W hW hK; go_simp; first | done | with_reducible rfl)
  try simp only [Act.put, List.setIfInBounds_toArray, List.set_cons_zero, List.set_cons_succ]
  refine' Flow.val _ 12 (some 38) (Op.move (Operand.tmp 6)) 28 (some (11, true)) [] _ rfl (by kernel_rfl) (by kernel_rfl) (by kernel_rfl) (by rfl) ?_ ?_ HRF.out
  · (intro W hW hK; go_simp; first | done | with_reducible rfl)
  try simp only [Act.put, List.setIfInBounds_toArray, List.set_cons_zero, List.set_cons_succ]
  refine' Flow.call _ 13 (some 39) (Op.call { callee := Callee.value (Operand.func 33), args := #[Operand.tmp 38], argTypes := #[28] }) 3 (some (11, true)) [] _ 33 #[.int .i64 x4] rfl (by kernel_rfl) (by kernel_rfl) (by kernel_rfl) (by rfl) ?_ ?_ ?_
  · (intro W; go_simp; first | done | with_reducible rfl)
  · intro W hW hK
    exact (num4_calls x4 W).mono fun e w' ⟨he, hd⟩ => ⟨he, IB.out _ _ hW hd.below, hd.below⟩
  try simp only [Act.put, List.setIfInBounds_toArray, List.set_cons_zero, List.set_cons_succ]
  refine' Flow.val _ 14 (some 40) (Op.move (Operand.tmp 8)) 3 (some (11, true)) [] _ rfl (by kernel_rfl) (by kernel_rfl) (by kernel_rfl) (by rfl) ?_ ?_ HRF.out
  · (intro W hW hK; go_simp; first | done | with_reducible rfl)
  try simp only [Act.put, List.setIfInBounds_toArray, List.set_cons_zero, List.set_cons_succ]
  refine' Flow.val _ 15 (some 41) (Op.binOp BinOp.eql 3 (Operand.tmp 39) (Operand.tmp 40) 3) 4 (some (11, true)) [] _ rfl (by kernel_rfl) (by kernel_rfl) (by kernel_rfl) (by rfl) ?_ ?_ HRF.out
  · (intro W hW hK; go_simp; first | done | with_reducible rfl)
  try simp only [Act.put, List.setIfInBounds_toArray, List.set_cons_zero, List.set_cons_succ]
  refine' Flow.val _ 16 (some 42) (Op.pick (Operand.tmp 37) (Operand.tmp 41) (Operand.const (Value.bool false))) 4 (none) [] _ rfl (by kernel_rfl) (by kernel_rfl) (by kernel_rfl) (by rfl) ?_ ?_ HRF.out
  · (intro W hW hK; go_simp; first | done | with_reducible rfl)
  try simp only [Act.put, List.setIfInBounds_toArray, List.set_cons_zero, List.set_cons_succ]
  refine' Flow.val _ 17 (some 43) (Op.move (Operand.tmp 42)) 4 (none) [] _ rfl (by kernel_rfl) (by kernel_rfl) (by kernel_rfl) (by rfl) ?_ ?_ HRF.out
  · (intro W hW hK; go_simp; first | done | with_reducible rfl)
  try simp only [Act.put, List.setIfInBounds_toArray, List.set_cons_zero, List.set_cons_succ]
  refine' Flow.call _ 18 (some 44) (Op.call { callee := Callee.value (Operand.func 28), args := #[], argTypes := #[] }) 4 (some (17, true)) [] _ 28 #[] rfl (by kernel_rfl) (by kernel_rfl) (by kernel_rfl) (by rfl) ?_ ?_ ?_
  · (intro W; go_simp; first | done | with_reducible rfl)
  · intro W hW hK
    exact (live4_calls W).mono fun e w' ⟨he, hb⟩ => ⟨he, IB.out _ _ hW hb, hb⟩
  try simp only [Act.put, List.setIfInBounds_toArray, List.set_cons_zero, List.set_cons_succ]
  refine' Flow.val _ 19 (some 45) (Op.pick (Operand.tmp 43) (Operand.tmp 44) (Operand.const (Value.bool false))) 4 (none) [] _ rfl (by kernel_rfl) (by kernel_rfl) (by kernel_rfl) (by rfl) ?_ ?_ HRF.out
  · (intro W hW hK; go_simp; first | done | with_reducible rfl)
  try simp only [Act.put, List.setIfInBounds_toArray, List.set_cons_zero, List.set_cons_succ]
  refine' Flow.val _ 20 (some 4) (Op.assign (Operand.tmp 45)) 4 (none) [] _ rfl (by kernel_rfl) (by kernel_rfl) (by kernel_rfl) (by rfl) ?_ ?_ HRF.out
  · (intro W hW hK; go_simp; first | done | with_reducible rfl)
  try simp only [Act.put, List.setIfInBounds_toArray, List.set_cons_zero, List.set_cons_succ]
  refine Flow.done _ (by kernel_rfl) ?_
  intro W hW _
  have HI := Aside0.mk hW
  clear hW
  go_wp2_with fail
  go_ret
  exact ⟨rfl, IW.out _ HI.out⟩
end MBy
def klaxonlaw04_MetaBytes.f (a0_0 : Int) (a0_1 : Int) (a0_2 : Int) (a0_3 : Int) (l1 : List Int) : Option Bool := if (0 ≤ a0_0 ∧ a0_0 < 18446744073709551616) ∧ Go.Crc.bytesB l1 = true then some true else none
theorem klaxonlaw04_MetaBytes.calls (a0_0 : Int) (a0_1 : Int) (a0_2 : Int) (a0_3 : Int) (A1 : Option Addr) (c1 : Nat) (l1 : List Int) (r : Bool) (w : World) (hr1 : Kd.C (Kd.int .u8) w A1 l1.length l1) (hc1 : l1.length ≤ c1) (h : klaxonlaw04_MetaBytes.f a0_0 a0_1 a0_2 a0_3 l1 = some r) :
    Calls Try.prog 7 #[.agg #[.int .u64 a0_0, .int .i64 a0_1, .int .i64 a0_2, .int .i64 a0_3], .slice A1 l1.length c1] w fun e w' => e = .returned (.bool r) ∧ Below w.heap.size w w' := by
  unfold klaxonlaw04_MetaBytes.f at h
  by_cases hc : (0 ≤ a0_0 ∧ a0_0 < 18446744073709551616) ∧ Go.Crc.bytesB l1 = true
  · rw [if_pos hc] at h
    obtain rfl : true = r := Option.some.inj h
    exact MBy.metabytes_law a0_0 a0_1 a0_2 a0_3 A1 c1 l1 w hr1 hc1 hc.1 (Go.Crc.bytesB_ok hc.2)
  · rw [if_neg hc] at h; cases h



end Go.Proofs.Yteimienhaodfcaa.PMeta
