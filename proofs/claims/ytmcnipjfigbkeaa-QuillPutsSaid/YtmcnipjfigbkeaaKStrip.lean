/- A strip of bytes that is read: its functions, walked. -/
import Derived.Test.YtmcnipjfigbkeaaProg
import Derived.Below
import Derived.Deep.Draws
import Derived.Deep.AppendLies
import Derived.Maps.AppendAt
import Derived.OwnWalk
import Derived.Laws.BytesArg
import Derived.Laws.MakeOwn
import Derived.Laws.OwnMore
import Derived.Deep.OwnRows
import Derived.Tactics
import Derived.Lib.ConvBytes
import Derived.Laws.Slices
import Derived.WalkKit
import Derived.KernelRfl
import Derived.RowKit3
import Derived.Deep.LoopGhost
import Derived.Deep.QuietTactic
import Derived.BigQuiet
import Derived.WideLaws
import Derived.Deep.DeepCutAuto
import Derived.Deep.CutBlock
import Derived.Deep.RegionHeld3
import Derived.Laws.Rows
import Derived.Lib.AppendStr
import Derived.ArgAppend
import Derived.Laws.IdiomCopy
import Derived.OrdersHeld
import Derived.Laws.BitsLemmas
import Derived.RowKit
import Derived.Test.YtmcnipjfigbkeaaWWords
import Derived.Test.YtmcnipjfigbkeaaWLast
import Derived.Test.YtmcnipjfigbkeaaWTab
import Derived.Test.YtmcnipjfigbkeaaWFour
import Derived.Test.YtmcnipjfigbkeaaWQPut
import Derived.Test.YtmcnipjfigbkeaaWApart
import Derived.Test.YtmcnipjfigbkeaaWArr
import Derived.Test.YtmcnipjfigbkeaaWZeros
import Derived.Test.YtmcnipjfigbkeaaWFoot
import Derived.Test.YtmcnipjfigbkeaaWKept
import Derived.Test.YtmcnipjfigbkeaaWShare
import Derived.Test.YtmcnipjfigbkeaaWN
import Derived.Test.YtmcnipjfigbkeaaWFootNe
import Derived.Test.YtmcnipjfigbkeaaWAt
import Derived.Test.YtmcnipjfigbkeaaWEqStruct
import Derived.Test.YtmcnipjfigbkeaaWRepsOne
import Derived.Test.YtmcnipjfigbkeaaWInv
import Derived.Test.YtmcnipjfigbkeaaWInvWords
import Derived.Test.YtmcnipjfigbkeaaWGuard
import Derived.Test.YtmcnipjfigbkeaaWNEv
import Derived.Test.YtmcnipjfigbkeaaWMore
import Derived.Deep.RegionWith
namespace Go.Proofs.YtmcnipjfigbkeaaK
open Go.RowKit Go.Proofs.YtmcnipjfigbkeaaW.PrintWords Go.Proofs.YtmcnipjfigbkeaaW.PrintLast Go.Proofs.YtmcnipjfigbkeaaW.PrintMore
attribute [local go_sem] max2_int min2_int max_two min_two max_three min_three max_four min_four
set_option linter.unusedVariables false
set_option linter.unusedSimpArgs false
theorem info_u8 : (Try.prog.info? 5).map (fun i => (i.zero, i.size, i.bytes)) = some (some (.int .u8 0), 1, 1) := by kernel_rfl
theorem wrap64_id {a : Int} (h0 : -9223372036854775808 ≤ a) (h1 : a ≤ 9223372036854775807) : wrap64 a = a := by unfold wrap64; omega
theorem rd_drop (l : List Int) (i : Nat) (h : i < l.length) : l.drop i = rd l i :: l.drop (i + 1) := by
  rw [List.drop_eq_getElem_cons h]; simp [rd, List.getD, List.getElem?_eq_getElem h]
theorem rd_mem (l : List Int) (i : Nat) (h : i < l.length) : rd l i ∈ l := by
  simp [rd, List.getD, List.getElem?_eq_getElem h]
theorem three_put {w : World} {g : Nat} {t : TypeId} {z0 z1 z2 : Value} (h : w.heap[g]? = some (.cells #[z0, z1, z2] t (0, 0))) (v0 v1 v2 : Value) :
    (((w.setCell ⟨g, 0, none⟩ v0).setCell ⟨g, 1, none⟩ v1).setCell ⟨g, 2, none⟩ v2).heap[g]? = some (.cells #[v0, v1, v2] t (0, 0)) := by
  simpa using blk_set (blk_set (blk_set h 0 v0) 1 v1) 2 v2
theorem three_below {B g : Nat} {w W : World} (h : Below B w W) (hg : B ≤ g) (v0 v1 v2 : Value) : Below B w (((W.setCell ⟨g, 0, none⟩ v0).setCell ⟨g, 1, none⟩ v1).setCell ⟨g, 2, none⟩ v2) :=
  ((h.setCell hg v0).setCell hg v1).setCell hg v2
/-- A byte? -/
def byteB (c : Int) : Bool := decide (0 ≤ c ∧ c < 256)
/-- A number, as it is read: the number, how many bytes it took, the error. -/
def numL : List Int → Int → Nat → Int × Nat × Int
  | [], _, _ => (0, 0, 3)
  | c :: t, n, i => if i = 0 ∧ c = 128 then (0, 0, 10) else if 144115188075855872 ≤ n then (0, 0, 11) else if c < 128 then (n * 128 + c % 128, i + 1, 0) else numL t (n * 128 + c % 128) (i + 1)
/-- The piece's value. -/
def pieceV (A : Option Addr) (c : Nat) (l : List Int) (q : Int × Nat × Int) : Value :=
  .agg #[.int .u64 q.1, (if q.2.2 = 0 then .slice (if c = q.2.1 then A else A.map (·.add q.2.1)) (l.length - q.2.1) (c - q.2.1) else .slice none 0 0), .int .i64 q.2.2]
theorem and127 (x : Int) (h0 : 0 ≤ x) (h1 : x < 256) : Go.bits .and .u8 x 127 = x % 128 := by
  have : ∀ k : Nat, k < 256 → Go.bits .and .u8 (k : Int) 127 = (k : Int) % 128 := by decide +kernel
  obtain ⟨k, rfl⟩ := Int.eq_ofNat_of_zero_le h0
  exact this k (by omega)
set_option maxHeartbeats 400000 in
set_option maxRecDepth 100000 in
theorem number_calls (A : Option Addr) (c : Nat) (l : List Int) (w : World) (hr : Kd.C (Kd.int .u8) w A l.length l) (hc : l.length ≤ c) (hl : l.length ≤ 140737488355328) (hb : l.all byteB = true) :
    Calls Try.prog 63 #[.slice A l.length c] w fun e w' => e = .returned (pieceV A c l (numL l 0 0)) ∧ Below w.heap.size w w' := by
  have HR := Aside0.mk hr; have HC := Aside0.mk hc; have HB := Aside0.mk hb; have HL := Aside0.mk hl
  clear hr hc hb hl
  go_enter Try.func63, Try.ntmps63
  go_wp2
  go_loopg [3, 8] (l.length + 1) (fun kq v3 v8 w' => ∃ (n : Int) (i : Nat), v3 = .int .u64 n ∧ v8 = .int .i64 i ∧ Drawn0 (w.alloc (.cells #[.int .u64 0, .slice none 0 0, .int .i64 0] 97)) w' ∧ Aside0 (0 ≤ n ∧ n < 18446744073709551616 ∧ i ≤ l.length ∧ kq + i = l.length + 1 ∧ numL l 0 0 = numL (l.drop i) n i))
  case atStart => exact ⟨0, 0, rfl, rfl, Drawn0.refl _, ⟨by omega, by omega, by omega, by omega, rfl⟩⟩
  case round =>
    obtain ⟨n, i, rfl, rfl, ⟨m1, rfl⟩, HI⟩ := hrel
    obtain ⟨hn0, hn1, hi, hk, hq⟩ := HI.out
    clear HI
    by_cases hil : i < l.length
    · have hb1 : decide ((i : Int) < (l.length : Int)) = true := decide_eq_true (by omega)
      obtain ⟨ad, e0, hx⟩ := Kd.at_int (Kd.C_drewN (Kd.C_alloc HR.out (.cells #[.int .u64 0, .slice none 0 0, .int .i64 0] 97)) m1) (i : Int) (by omega) (by omega)
      cases e0
      rw [Int.toNat_natCast] at hx
      have hdrop : l.drop i = rd l i :: l.drop (i + 1) := rd_drop l i hil
      have hbyte : 0 ≤ rd l i ∧ rd l i < 256 := by
        have := List.all_eq_true.mp HB.out (rd l i) (rd_mem l i hil)
        simpa [byteB] using this
      rw [hdrop] at hq
      generalize rd l (i : Int) = x at hx hq hbyte
      obtain ⟨hx0, hx1⟩ := hbyte
      have h127 := and127 x hx0 hx1
      by_cases hA : i = 0 ∧ x = 128
      · have HQ : Aside0 (numL l 0 0 = (0, 0, 10)) := ⟨by rw [hq]; simp [numL, hA]⟩
        have hi0b : ((i : Int) == 0) = true := beq_iff_eq.mpr (by omega)
        have hx8b : (x == 128) = true := beq_iff_eq.mpr hA.2
        clear hq hA
        go_wp2
        refine bodyPost_ret (results_cell_row rfl _ _ w.heap.size 97 _ (0, 0) _ rfl (three_put (blk_drewN (blk_new w _) _) _ _ _) Try.underlying97 rfl (by kernel_rfl)) rfl ?_
        exact ⟨by rw [HQ.out]; simp [pieceV], three_below (pw_below_drewN (below_alloc (Below.refl _ _) _) _) (Nat.le_refl _) _ _ _⟩
      · have hq1 : numL l 0 0 = if 144115188075855872 ≤ n then (0, 0, 11) else if x < 128 then (n * 128 + x % 128, i + 1, 0) else numL (l.drop (i + 1)) (n * 128 + x % 128) (i + 1) := by rw [hq]; simp only [numL, if_neg hA]
        have hA2 : ((i : Int) == 0) = false ∨ (((i : Int) == 0) = true ∧ (x == 128) = false) := by
          by_cases h0 : (i : Int) = 0
          · exact .inr ⟨beq_iff_eq.mpr h0, beq_eq_false_iff_ne.mpr (fun h => hA ⟨by omega, h⟩)⟩
          · exact .inl (beq_eq_false_iff_ne.mpr h0)
        clear hA hq
        by_cases hn : 144115188075855872 ≤ n
        · have HQ : Aside0 (numL l 0 0 = (0, 0, 11)) := ⟨by rw [hq1, if_pos hn]⟩
          have hnb : decide (144115188075855872 ≤ n) = true := decide_eq_true hn
          clear hq1 hn
          rcases hA2 with hi0b | ⟨hi0b, hx8b⟩
          · go_wp2
            refine bodyPost_ret (results_cell_row rfl _ _ w.heap.size 97 _ (0, 0) _ rfl (three_put (blk_drewN (blk_new w _) _) _ _ _) Try.underlying97 rfl (by kernel_rfl)) rfl ?_
            exact ⟨by rw [HQ.out]; simp [pieceV], three_below (pw_below_drewN (below_alloc (Below.refl _ _) _) _) (Nat.le_refl _) _ _ _⟩
          · go_wp2
            refine bodyPost_ret (results_cell_row rfl _ _ w.heap.size 97 _ (0, 0) _ rfl (three_put (blk_drewN (blk_new w _) _) _ _ _) Try.underlying97 rfl (by kernel_rfl)) rfl ?_
            exact ⟨by rw [HQ.out]; simp [pieceV], three_below (pw_below_drewN (below_alloc (Below.refl _ _) _) _) (Nat.le_refl _) _ _ _⟩
        · have hnb : decide (144115188075855872 ≤ n) = false := decide_eq_false hn
          have hwr : IntKind.u64.wrap (n * 128) = n * 128 := by rw [IntKind.wrap_u64]; omega
          have hwr2 : IntKind.u64.wrap (n * 128 + x % 128) = n * 128 + x % 128 := by rw [IntKind.wrap_u64]; omega
          rw [if_neg hn] at hq1
          by_cases hx8 : x < 128
          · have hx8c : decide (x < 128) = true := decide_eq_true hx8
            have HQ : Aside0 (numL l 0 0 = (n * 128 + x % 128, i + 1, 0)) := ⟨by rw [hq1, if_pos hx8]⟩
            have hle : (i : Int) + 1 ≤ (l.length : Int) := by omega
            have hge : 0 ≤ (i : Int) + 1 := by omega
            have hw1 : wrap64 ((i : Int) + 1) = (i : Int) + 1 := wrap64_id (by omega) (by have := HL.out; omega)
            have htn : ((i : Int) + 1).toNat = i + 1 := by omega
            clear hq1 hn hx8
            rcases hA2 with hi0b | ⟨hi0b, hx8b⟩
            · go_wp2
              all_goals
                refine bodyPost_ret (results_cell_row rfl _ _ w.heap.size 97 _ (0, 0) _ rfl (three_put (blk_drewN (blk_new w _) _) _ _ _) Try.underlying97 rfl (by kernel_rfl)) rfl ?_
                exact ⟨by rw [HQ.out]; simp [pieceV, Addr.add, *], three_below (pw_below_drewN (below_alloc (Below.refl _ _) _) _) (Nat.le_refl _) _ _ _⟩
            · go_wp2
              all_goals
                refine bodyPost_ret (results_cell_row rfl _ _ w.heap.size 97 _ (0, 0) _ rfl (three_put (blk_drewN (blk_new w _) _) _ _ _) Try.underlying97 rfl (by kernel_rfl)) rfl ?_
                exact ⟨by rw [HQ.out]; simp [pieceV, Addr.add, *], three_below (pw_below_drewN (below_alloc (Below.refl _ _) _) _) (Nat.le_refl _) _ _ _⟩
          · have hx8c : decide (x < 128) = false := decide_eq_false hx8
            rw [if_neg hx8] at hq1
            have hw1 : wrap64 ((i : Int) + 1) = (i : Int) + 1 := wrap64_id (by omega) (by have := HL.out; omega)
            rcases hA2 with hi0b | ⟨hi0b, hx8b⟩
            · go_wp2
              go_roundg (l.length - i)
              case measure => omega
              case rel => exact ⟨n * 128 + x % 128, i + 1, by first | rfl | rw [hwr2] | simp [*], by first | rfl | (simp [hw1]), by repeat (first | exact Drawn0.refl _ | apply Drawn0.step), ⟨by omega, by omega, by omega, by omega, hq1⟩⟩
            · go_wp2
              go_roundg (l.length - i)
              case measure => omega
              case rel => exact ⟨n * 128 + x % 128, i + 1, by first | rfl | rw [hwr2] | simp [*], by first | rfl | (simp [hw1]), by repeat (first | exact Drawn0.refl _ | apply Drawn0.step), ⟨by omega, by omega, by omega, by omega, hq1⟩⟩
    · have hb1 : decide ((i : Int) < (l.length : Int)) = false := decide_eq_false (by omega)
      have HQ : Aside0 (numL l 0 0 = (0, 0, 3)) := ⟨by rw [hq, List.drop_eq_nil_of_le (by omega)]; simp [numL]⟩
      clear hq
      go_wp2
      refine bodyPost_ret (results_cell_row rfl _ _ w.heap.size 97 _ (0, 0) _ rfl (three_put (blk_drewN (blk_new w _) _) _ _ _) Try.underlying97 rfl (by kernel_rfl)) rfl ?_
      exact ⟨by rw [HQ.out]; simp [pieceV], three_below (pw_below_drewN (below_alloc (Below.refl _ _) _) _) (Nat.le_refl _) _ _ _⟩

/-- An int, as it is read. -/
def sigL : List Int → Int × Nat × Int
  | [] => (0, 0, 3)
  | c :: t => if c ≠ 43 ∧ c ≠ 45 then (0, 0, 10) else if (numL t 0 0).2.2 ≠ 0 then (0, 0, (numL t 0 0).2.2) else if c = 45 ∧ (numL t 0 0).1 = 0 then (0, 0, 10) else if 9223372036854775808 < (numL t 0 0).1 ∨ ((numL t 0 0).1 = 9223372036854775808 ∧ c = 43) then (0, 0, 11) else (if c = 45 then IntKind.u64.wrap (-(numL t 0 0).1) else (numL t 0 0).1, (numL t 0 0).2.1 + 1, 0)
/-- What is left behind u of l's elements. -/
def LeftOf (A : Option Addr) (l : List Int) (u : Nat) (L : Value) : Prop := ∃ B k, L = .slice B (l.length - u) k ∧ l.length - u ≤ k ∧ (u < l.length → B = A.map (·.add u))
/-- What a piece is, to its reader. -/
def PieceIs (A : Option Addr) (l : List Int) (q : Int × Nat × Int) (v : Value) : Prop :=
  ∃ n B m k, v = .agg #[.int .u64 n, .slice B m k, .int .i64 q.2.2] ∧ (q.2.2 = 0 → n = q.1 ∧ LeftOf A l q.2.1 (.slice B m k))
theorem LeftOf.of_cut {A : Option Addr} {c : Nat} {l : List Int} (u : Nat) (hc : l.length ≤ c) : LeftOf A l u (.slice (if c = u then A else A.map (·.add u)) (l.length - u) (c - u)) :=
  ⟨_, _, rfl, by omega, fun h => by rw [if_neg (by omega)]⟩
theorem add_add' (ad : Addr) (i j : Nat) : (ad.add i).add j = ad.add (i + j) := by cases ad; by_cases h1 : i = 0 <;> by_cases h2 : j = 0 <;> simp [Addr.add, Nat.add_assoc, h1, h2]
theorem LeftOf.behind {ad : Addr} {x : Int} {t : List Int} {u : Nat} {L : Value} (h : LeftOf (some (ad.add 1)) t u L) : LeftOf (some ad) (x :: t) (u + 1) L := by
  obtain ⟨B, k, rfl, h1, h2⟩ := h
  refine ⟨B, k, by simp, by simp; omega, fun h => ?_⟩
  rw [h2 (by simp at h; omega)]
  simp [add_add', Nat.add_comm]
theorem number_calls' (A : Option Addr) (c : Nat) (l : List Int) (n : Int) (u : Nat) (er : Int) (w : World) (hr : Kd.C (Kd.int .u8) w A l.length l) (hc : l.length ≤ c) (hl : l.length ≤ 140737488355328) (hb : l.all byteB = true) (hq : numL l 0 0 = (n, u, er)) :
    Calls Try.prog 63 #[.slice A l.length c] w fun e w' => (∃ B m k, e = .returned (.agg #[.int .u64 n, .slice B m k, .int .i64 er]) ∧ (er = 0 → LeftOf A l u (.slice B m k))) ∧ Below w.heap.size w w' := by
  refine (number_calls A c l w hr hc hl hb).mono fun e w' ⟨h, hb⟩ => ⟨?_, hb⟩
  rw [hq, pieceV] at h
  by_cases h0 : er = 0
  · simp only [if_pos h0] at h; exact ⟨_, _, _, h, fun _ => LeftOf.of_cut u hc⟩
  · simp only [if_neg h0] at h; exact ⟨_, _, _, h, fun h => absurd h h0⟩
set_option maxHeartbeats 400000 in
set_option maxRecDepth 100000 in
theorem signed_calls (A : Option Addr) (c : Nat) (l : List Int) (w : World) (hr : Kd.C (Kd.int .u8) w A l.length l) (hc : l.length ≤ c) (hl : l.length ≤ 140737488355328) (hb : l.all byteB = true) :
    Calls Try.prog 64 #[.slice A l.length c] w fun e w' => (∃ v, e = .returned v ∧ PieceIs A l (sigL l) v) ∧ Below w.heap.size w w' := by
  rcases l with _ | ⟨x, t⟩
  · go_enter Try.func64, Try.ntmps64
    go_wp2
    refine bodyPost_ret (results_cell_row rfl _ _ w.heap.size 97 _ (0, 0) _ rfl (blk_new w _) Try.underlying97 rfl (by kernel_rfl)) rfl ?_
    exact ⟨⟨_, rfl, _, _, _, _, rfl, fun h => by simp [sigL] at h⟩, below_alloc (Below.refl _ _) _⟩
  · obtain ⟨ad, e0, hx⟩ := Kd.at_int (Kd.C_alloc hr (.cells #[.int .u64 0, .slice none 0 0, .int .i64 0] 97)) 0 (by omega) (by simp)
    cases e0
    have hlen : (x :: t).length = t.length + 1 := rfl
    have hz : rd (x :: t) 0 = x := by simp [rd]
    rw [hz] at hx
    rw [show ad.add (0 : Int).toNat = ad from by cases ad; simp [Addr.add]] at hx
    have hlb : (((t.length : Nat) : Int) + 1 == 0) = false := beq_eq_false_iff_ne.mpr (by omega)
    by_cases hs : x ≠ 43 ∧ x ≠ 45
    · have h1 : (x != 43) = true := bne_iff_ne.mpr hs.1
      have h2 : (x != 45) = true := bne_iff_ne.mpr hs.2
      have HQ : Aside0 (sigL (x :: t) = (0, 0, 10)) := ⟨by simp only [sigL, if_pos hs]⟩
      clear hs
      go_enter Try.func64, Try.ntmps64
      go_wp2
      refine bodyPost_ret (results_cell_row rfl _ _ w.heap.size 97 _ (0, 0) _ rfl (blk_new w _) Try.underlying97 rfl (by kernel_rfl)) rfl ?_
      exact ⟨⟨_, rfl, _, _, _, _, by rw [HQ.out], fun h => by rw [HQ.out] at h; simp at h⟩, below_alloc (Below.refl _ _) _⟩
    · have hs' : x = 43 ∨ x = 45 := by omega
      obtain ⟨n, u, er, hq⟩ : ∃ n u er, numL t 0 0 = (n, u, er) := ⟨_, _, _, rfl⟩
      have hC1 := Kd.C_drop (m := 1) hr (by simp) hc
      have hbt : t.all byteB = true := by simp at hb ⊢; exact hb.2
      have hge1 : 1 ≤ c := by simp at hc; omega
      have HT := Aside0.mk (show Kd.C (Kd.int .u8) w (if c = 1 then some ad else (some ad).map (·.add 1)) t.length t from hC1)
      have HBT := Aside0.mk hbt
      have HLT := Aside0.mk (show t.length ≤ 140737488355328 by simp at hl; omega)
      have HCT := Aside0.mk (show t.length ≤ c - 1 by simp at hc; omega)
      have HR := Aside0.mk hr
      have hsig : sigL (x :: t) = if er ≠ 0 then (0, 0, er) else if x = 45 ∧ n = 0 then (0, 0, 10) else if 9223372036854775808 < n ∨ (n = 9223372036854775808 ∧ x = 43) then (0, 0, 11) else (if x = 45 then IntKind.u64.wrap (-n) else n, u + 1, 0) := by
        simp only [sigL, hq, if_neg hs]
      have HNQ := Aside0.mk hq
      clear hs hC1 hbt hr hb hl hq
      have hcc : ∀ w1 o, Below (w.alloc (.cells #[.int .u64 0, .slice none 0 0, .int .i64 0] 97)).heap.size (w.alloc (.cells #[.int .u64 0, .slice none 0 0, .int .i64 0] 97)) w1 → (w1.alloc o).cell? ad = some (.int .u8 x) := by
        intro w1 o hb
        obtain ⟨ad2, e2, hx2⟩ := Kd.at_int (Kd.C_alloc (Kd.C_below (Kd.C_alloc HR.out _) hb) o) 0 (by omega) (by simp)
        cases e2
        rw [hz, show ad.add (0 : Int).toNat = ad from by cases ad; simp [Addr.add]] at hx2
        exact hx2
      have HCC := Aside0.mk hcc
      have HSIG := Aside0.mk hsig
      clear hcc hz hsig
      by_cases hc1 : c = 1
      · subst hc1
        obtain rfl : t = [] := List.eq_nil_of_length_eq_zero (by have := HCT.out; omega)
        obtain ⟨rfl, rfl, rfl⟩ : n = 0 ∧ u = 0 ∧ er = 3 := by have := HNQ.out; simp [numL] at this; omega
        simp only [if_true] at HT
        rcases hs' with rfl | rfl
        · have HQ : Aside0 (sigL [43] = (0, 0, 3)) := ⟨by rw [HSIG.out]; rfl⟩
          have hne : ¬ ((0, 0, 3) : Int × Nat × Int).2.2 = 0 := by decide
          go_enter Try.func64, Try.ntmps64
          go_wp2_with (go_at_call 63; refine (number_calls' (some ad) 0 [] 0 0 3 _ (Kd.C_alloc HT.out _) (by have := HCT.out; first | exact this | simpa using this) HLT.out HBT.out HNQ.out).mono ?_; rintro e w1 ⟨⟨B, m, k, rfl, hL⟩, hb⟩; have hx2 := fun o => HCC.out w1 o hb; have hz0 := blk_below (blk_new w (.cells #[.int .u64 0, .slice none 0 0, .int .i64 0] 97)) hb; have hB1 : w.heap.size < w1.heap.size := (by have := hb.size; simp at this; omega); obtain ⟨z0, z1, z2, f0, f1, f2⟩ : w1.cell? ⟨w.heap.size, 0, none⟩ = some (.int .u64 0) ∧ w1.cell? ⟨w.heap.size, 1, none⟩ = some (.slice none 0 0) ∧ w1.cell? ⟨w.heap.size, 2, none⟩ = some (.int .i64 0) ∧ w1.frozen? ⟨w.heap.size, 0, none⟩ = false ∧ w1.frozen? ⟨w.heap.size, 1, none⟩ = false ∧ w1.frozen? ⟨w.heap.size, 2, none⟩ = false := ⟨blk_cell hz0 0, blk_cell hz0 1, blk_cell hz0 2, blk_frozen hz0 0, blk_frozen hz0 1, blk_frozen hz0 2⟩; have HL := Aside0.mk hL; have HZ := Aside0.mk hz0; have HB1 := Aside0.mk hB1; have HB := Aside0.mk hb; clear hb hL hz0)
          all_goals refine bodyPost_ret (results_cell_row rfl _ _ w.heap.size 97 _ (0, 0) _ rfl (blk_alloc (three_put HZ.out _ _ _) _) Try.underlying97 rfl (by kernel_rfl)) rfl ?_
          all_goals exact ⟨⟨_, rfl, _, _, _, _, by rw [HQ.out], fun h => absurd h (by rw [HQ.out]; first | exact hne | decide)⟩, below_alloc (three_below ((below_alloc (Below.refl _ _) _).trans (HB.out.mono (by simp))) (Nat.le_refl _) _ _ _) _⟩
        · have HQ : Aside0 (sigL [45] = (0, 0, 3)) := ⟨by rw [HSIG.out]; rfl⟩
          have hne : ¬ ((0, 0, 3) : Int × Nat × Int).2.2 = 0 := by decide
          go_enter Try.func64, Try.ntmps64
          go_wp2_with (go_at_call 63; refine (number_calls' (some ad) 0 [] 0 0 3 _ (Kd.C_alloc HT.out _) (by have := HCT.out; first | exact this | simpa using this) HLT.out HBT.out HNQ.out).mono ?_; rintro e w1 ⟨⟨B, m, k, rfl, hL⟩, hb⟩; have hx2 := fun o => HCC.out w1 o hb; have hz0 := blk_below (blk_new w (.cells #[.int .u64 0, .slice none 0 0, .int .i64 0] 97)) hb; have hB1 : w.heap.size < w1.heap.size := (by have := hb.size; simp at this; omega); obtain ⟨z0, z1, z2, f0, f1, f2⟩ : w1.cell? ⟨w.heap.size, 0, none⟩ = some (.int .u64 0) ∧ w1.cell? ⟨w.heap.size, 1, none⟩ = some (.slice none 0 0) ∧ w1.cell? ⟨w.heap.size, 2, none⟩ = some (.int .i64 0) ∧ w1.frozen? ⟨w.heap.size, 0, none⟩ = false ∧ w1.frozen? ⟨w.heap.size, 1, none⟩ = false ∧ w1.frozen? ⟨w.heap.size, 2, none⟩ = false := ⟨blk_cell hz0 0, blk_cell hz0 1, blk_cell hz0 2, blk_frozen hz0 0, blk_frozen hz0 1, blk_frozen hz0 2⟩; have HL := Aside0.mk hL; have HZ := Aside0.mk hz0; have HB1 := Aside0.mk hB1; have HB := Aside0.mk hb; clear hb hL hz0)
          all_goals refine bodyPost_ret (results_cell_row rfl _ _ w.heap.size 97 _ (0, 0) _ rfl (blk_alloc (three_put HZ.out _ _ _) _) Try.underlying97 rfl (by kernel_rfl)) rfl ?_
          all_goals exact ⟨⟨_, rfl, _, _, _, _, by rw [HQ.out], fun h => absurd h (by rw [HQ.out]; first | exact hne | decide)⟩, below_alloc (three_below ((below_alloc (Below.refl _ _) _).trans (HB.out.mono (by simp))) (Nat.le_refl _) _ _ _) _⟩
      · simp only [if_neg hc1, Option.map_some] at HT
        by_cases he : er = 0
        · subst he
          rcases hs' with rfl | rfl
          · by_cases hw : 9223372036854775808 < n
            · have g1 : decide (9223372036854775808 < n) = true := decide_eq_true hw
              have hne : ¬ (11 : Int) = 0 := by decide
              have HQ : Aside0 (sigL (43 :: t) = (0, 0, 11)) := ⟨by rw [HSIG.out]; simp [hw]⟩
              clear HSIG
              go_enter Try.func64, Try.ntmps64
              go_wp2_with (go_at_call 63; refine (number_calls' (some (ad.add 1)) (c - 1) t n u 0 _ (Kd.C_alloc HT.out _) (by have := HCT.out; first | exact this | simpa using this) HLT.out HBT.out HNQ.out).mono ?_; rintro e w1 ⟨⟨B, m, k, rfl, hL⟩, hb⟩; have hx2 := fun o => HCC.out w1 o hb; have hz0 := blk_below (blk_new w (.cells #[.int .u64 0, .slice none 0 0, .int .i64 0] 97)) hb; have hB1 : w.heap.size < w1.heap.size := (by have := hb.size; simp at this; omega); obtain ⟨z0, z1, z2, f0, f1, f2⟩ : w1.cell? ⟨w.heap.size, 0, none⟩ = some (.int .u64 0) ∧ w1.cell? ⟨w.heap.size, 1, none⟩ = some (.slice none 0 0) ∧ w1.cell? ⟨w.heap.size, 2, none⟩ = some (.int .i64 0) ∧ w1.frozen? ⟨w.heap.size, 0, none⟩ = false ∧ w1.frozen? ⟨w.heap.size, 1, none⟩ = false ∧ w1.frozen? ⟨w.heap.size, 2, none⟩ = false := ⟨blk_cell hz0 0, blk_cell hz0 1, blk_cell hz0 2, blk_frozen hz0 0, blk_frozen hz0 1, blk_frozen hz0 2⟩; have HL := Aside0.mk hL; have HZ := Aside0.mk hz0; have HB1 := Aside0.mk hB1; have HB := Aside0.mk hb; clear hb hL hz0)
              all_goals refine bodyPost_ret (results_cell_row rfl _ _ w.heap.size 97 _ (0, 0) _ rfl (blk_alloc (three_put HZ.out _ _ _) _) Try.underlying97 rfl (by kernel_rfl)) rfl ?_
              all_goals exact ⟨⟨_, rfl, _, _, _, _, by rw [HQ.out], fun h => absurd h (by rw [HQ.out]; first | exact hne | decide)⟩, below_alloc (three_below ((below_alloc (Below.refl _ _) _).trans (HB.out.mono (by simp))) (Nat.le_refl _) _ _ _) _⟩
            · have g1 : decide (9223372036854775808 < n) = false := decide_eq_false hw
              by_cases hw2 : n = 9223372036854775808
              · have g2 : (n == 9223372036854775808) = true := beq_iff_eq.mpr hw2
                have hne : ¬ (11 : Int) = 0 := by decide
                have HQ : Aside0 (sigL (43 :: t) = (0, 0, 11)) := ⟨by rw [HSIG.out]; simp [hw2]⟩
                clear HSIG
                go_enter Try.func64, Try.ntmps64
                go_wp2_with (go_at_call 63; refine (number_calls' (some (ad.add 1)) (c - 1) t n u 0 _ (Kd.C_alloc HT.out _) (by have := HCT.out; first | exact this | simpa using this) HLT.out HBT.out HNQ.out).mono ?_; rintro e w1 ⟨⟨B, m, k, rfl, hL⟩, hb⟩; have hx2 := fun o => HCC.out w1 o hb; have hz0 := blk_below (blk_new w (.cells #[.int .u64 0, .slice none 0 0, .int .i64 0] 97)) hb; have hB1 : w.heap.size < w1.heap.size := (by have := hb.size; simp at this; omega); obtain ⟨z0, z1, z2, f0, f1, f2⟩ : w1.cell? ⟨w.heap.size, 0, none⟩ = some (.int .u64 0) ∧ w1.cell? ⟨w.heap.size, 1, none⟩ = some (.slice none 0 0) ∧ w1.cell? ⟨w.heap.size, 2, none⟩ = some (.int .i64 0) ∧ w1.frozen? ⟨w.heap.size, 0, none⟩ = false ∧ w1.frozen? ⟨w.heap.size, 1, none⟩ = false ∧ w1.frozen? ⟨w.heap.size, 2, none⟩ = false := ⟨blk_cell hz0 0, blk_cell hz0 1, blk_cell hz0 2, blk_frozen hz0 0, blk_frozen hz0 1, blk_frozen hz0 2⟩; have HL := Aside0.mk hL; have HZ := Aside0.mk hz0; have HB1 := Aside0.mk hB1; have HB := Aside0.mk hb; clear hb hL hz0)
                all_goals refine bodyPost_ret (results_cell_row rfl _ _ w.heap.size 97 _ (0, 0) _ rfl (blk_alloc (three_put HZ.out _ _ _) _) Try.underlying97 rfl (by kernel_rfl)) rfl ?_
                all_goals exact ⟨⟨_, rfl, _, _, _, _, by rw [HQ.out], fun h => absurd h (by rw [HQ.out]; first | exact hne | decide)⟩, below_alloc (three_below ((below_alloc (Below.refl _ _) _).trans (HB.out.mono (by simp))) (Nat.le_refl _) _ _ _) _⟩
              · have g2 : (n == 9223372036854775808) = false := beq_eq_false_iff_ne.mpr hw2
                have HQ : Aside0 (sigL (43 :: t) = (n, u + 1, 0)) := ⟨by rw [HSIG.out]; simp [hw, hw2]⟩
                clear HSIG
                go_enter Try.func64, Try.ntmps64
                go_wp2_with (go_at_call 63; refine (number_calls' (some (ad.add 1)) (c - 1) t n u 0 _ (Kd.C_alloc HT.out _) (by have := HCT.out; first | exact this | simpa using this) HLT.out HBT.out HNQ.out).mono ?_; rintro e w1 ⟨⟨B, m, k, rfl, hL⟩, hb⟩; have hx2 := fun o => HCC.out w1 o hb; have hz0 := blk_below (blk_new w (.cells #[.int .u64 0, .slice none 0 0, .int .i64 0] 97)) hb; have hB1 : w.heap.size < w1.heap.size := (by have := hb.size; simp at this; omega); obtain ⟨z0, z1, z2, f0, f1, f2⟩ : w1.cell? ⟨w.heap.size, 0, none⟩ = some (.int .u64 0) ∧ w1.cell? ⟨w.heap.size, 1, none⟩ = some (.slice none 0 0) ∧ w1.cell? ⟨w.heap.size, 2, none⟩ = some (.int .i64 0) ∧ w1.frozen? ⟨w.heap.size, 0, none⟩ = false ∧ w1.frozen? ⟨w.heap.size, 1, none⟩ = false ∧ w1.frozen? ⟨w.heap.size, 2, none⟩ = false := ⟨blk_cell hz0 0, blk_cell hz0 1, blk_cell hz0 2, blk_frozen hz0 0, blk_frozen hz0 1, blk_frozen hz0 2⟩; have HL := Aside0.mk hL; have HZ := Aside0.mk hz0; have HB1 := Aside0.mk hB1; have HB := Aside0.mk hb; clear hb hL hz0)
                all_goals refine bodyPost_ret (results_cell_row rfl _ _ w.heap.size 97 _ (0, 0) _ rfl (blk_alloc (three_put HZ.out _ _ _) _) Try.underlying97 rfl (by kernel_rfl)) rfl ?_
                all_goals exact ⟨⟨_, rfl, _, _, _, _, by rw [HQ.out], fun _ => by rw [HQ.out]; exact ⟨rfl, LeftOf.behind (HL.out (by first | rfl | trivial))⟩⟩, below_alloc (three_below ((below_alloc (Below.refl _ _) _).trans (HB.out.mono (by simp))) (Nat.le_refl _) _ _ _) _⟩
          · by_cases hn : n = 0
            · have g0 : (n == 0) = true := beq_iff_eq.mpr hn
              have hne : ¬ (10 : Int) = 0 := by decide
              have HQ : Aside0 (sigL (45 :: t) = (0, 0, 10)) := ⟨by rw [HSIG.out]; simp [hn]⟩
              clear HSIG
              go_enter Try.func64, Try.ntmps64
              go_wp2_with (go_at_call 63; refine (number_calls' (some (ad.add 1)) (c - 1) t n u 0 _ (Kd.C_alloc HT.out _) (by have := HCT.out; first | exact this | simpa using this) HLT.out HBT.out HNQ.out).mono ?_; rintro e w1 ⟨⟨B, m, k, rfl, hL⟩, hb⟩; have hx2 := fun o => HCC.out w1 o hb; have hz0 := blk_below (blk_new w (.cells #[.int .u64 0, .slice none 0 0, .int .i64 0] 97)) hb; have hB1 : w.heap.size < w1.heap.size := (by have := hb.size; simp at this; omega); obtain ⟨z0, z1, z2, f0, f1, f2⟩ : w1.cell? ⟨w.heap.size, 0, none⟩ = some (.int .u64 0) ∧ w1.cell? ⟨w.heap.size, 1, none⟩ = some (.slice none 0 0) ∧ w1.cell? ⟨w.heap.size, 2, none⟩ = some (.int .i64 0) ∧ w1.frozen? ⟨w.heap.size, 0, none⟩ = false ∧ w1.frozen? ⟨w.heap.size, 1, none⟩ = false ∧ w1.frozen? ⟨w.heap.size, 2, none⟩ = false := ⟨blk_cell hz0 0, blk_cell hz0 1, blk_cell hz0 2, blk_frozen hz0 0, blk_frozen hz0 1, blk_frozen hz0 2⟩; have HL := Aside0.mk hL; have HZ := Aside0.mk hz0; have HB1 := Aside0.mk hB1; have HB := Aside0.mk hb; clear hb hL hz0)
              all_goals refine bodyPost_ret (results_cell_row rfl _ _ w.heap.size 97 _ (0, 0) _ rfl (blk_alloc (three_put HZ.out _ _ _) _) Try.underlying97 rfl (by kernel_rfl)) rfl ?_
              all_goals exact ⟨⟨_, rfl, _, _, _, _, by rw [HQ.out], fun h => absurd h (by rw [HQ.out]; first | exact hne | decide)⟩, below_alloc (three_below ((below_alloc (Below.refl _ _) _).trans (HB.out.mono (by simp))) (Nat.le_refl _) _ _ _) _⟩
            · have g0 : (n == 0) = false := beq_eq_false_iff_ne.mpr hn
              by_cases hw : 9223372036854775808 < n
              · have g1 : decide (9223372036854775808 < n) = true := decide_eq_true hw
                have hne : ¬ (11 : Int) = 0 := by decide
                have HQ : Aside0 (sigL (45 :: t) = (0, 0, 11)) := ⟨by rw [HSIG.out]; simp [hn, hw]⟩
                clear HSIG
                go_enter Try.func64, Try.ntmps64
                go_wp2_with (go_at_call 63; refine (number_calls' (some (ad.add 1)) (c - 1) t n u 0 _ (Kd.C_alloc HT.out _) (by have := HCT.out; first | exact this | simpa using this) HLT.out HBT.out HNQ.out).mono ?_; rintro e w1 ⟨⟨B, m, k, rfl, hL⟩, hb⟩; have hx2 := fun o => HCC.out w1 o hb; have hz0 := blk_below (blk_new w (.cells #[.int .u64 0, .slice none 0 0, .int .i64 0] 97)) hb; have hB1 : w.heap.size < w1.heap.size := (by have := hb.size; simp at this; omega); obtain ⟨z0, z1, z2, f0, f1, f2⟩ : w1.cell? ⟨w.heap.size, 0, none⟩ = some (.int .u64 0) ∧ w1.cell? ⟨w.heap.size, 1, none⟩ = some (.slice none 0 0) ∧ w1.cell? ⟨w.heap.size, 2, none⟩ = some (.int .i64 0) ∧ w1.frozen? ⟨w.heap.size, 0, none⟩ = false ∧ w1.frozen? ⟨w.heap.size, 1, none⟩ = false ∧ w1.frozen? ⟨w.heap.size, 2, none⟩ = false := ⟨blk_cell hz0 0, blk_cell hz0 1, blk_cell hz0 2, blk_frozen hz0 0, blk_frozen hz0 1, blk_frozen hz0 2⟩; have HL := Aside0.mk hL; have HZ := Aside0.mk hz0; have HB1 := Aside0.mk hB1; have HB := Aside0.mk hb; clear hb hL hz0)
                all_goals refine bodyPost_ret (results_cell_row rfl _ _ w.heap.size 97 _ (0, 0) _ rfl (blk_alloc (three_put HZ.out _ _ _) _) Try.underlying97 rfl (by kernel_rfl)) rfl ?_
                all_goals exact ⟨⟨_, rfl, _, _, _, _, by rw [HQ.out], fun h => absurd h (by rw [HQ.out]; first | exact hne | decide)⟩, below_alloc (three_below ((below_alloc (Below.refl _ _) _).trans (HB.out.mono (by simp))) (Nat.le_refl _) _ _ _) _⟩
              · have g1 : decide (9223372036854775808 < n) = false := decide_eq_false hw
                obtain ⟨g2, hg2⟩ : ∃ b, (n == 9223372036854775808) = b := ⟨_, rfl⟩
                have HQ : Aside0 (sigL (45 :: t) = (IntKind.u64.wrap (-n), u + 1, 0)) := ⟨by rw [HSIG.out]; simp [hn, hw]⟩
                clear HSIG
                go_enter Try.func64, Try.ntmps64
                go_wp2_with (go_at_call 63; refine (number_calls' (some (ad.add 1)) (c - 1) t n u 0 _ (Kd.C_alloc HT.out _) (by have := HCT.out; first | exact this | simpa using this) HLT.out HBT.out HNQ.out).mono ?_; rintro e w1 ⟨⟨B, m, k, rfl, hL⟩, hb⟩; have hx2 := fun o => HCC.out w1 o hb; have hz0 := blk_below (blk_new w (.cells #[.int .u64 0, .slice none 0 0, .int .i64 0] 97)) hb; have hB1 : w.heap.size < w1.heap.size := (by have := hb.size; simp at this; omega); obtain ⟨z0, z1, z2, f0, f1, f2⟩ : w1.cell? ⟨w.heap.size, 0, none⟩ = some (.int .u64 0) ∧ w1.cell? ⟨w.heap.size, 1, none⟩ = some (.slice none 0 0) ∧ w1.cell? ⟨w.heap.size, 2, none⟩ = some (.int .i64 0) ∧ w1.frozen? ⟨w.heap.size, 0, none⟩ = false ∧ w1.frozen? ⟨w.heap.size, 1, none⟩ = false ∧ w1.frozen? ⟨w.heap.size, 2, none⟩ = false := ⟨blk_cell hz0 0, blk_cell hz0 1, blk_cell hz0 2, blk_frozen hz0 0, blk_frozen hz0 1, blk_frozen hz0 2⟩; have HL := Aside0.mk hL; have HZ := Aside0.mk hz0; have HB1 := Aside0.mk hB1; have HB := Aside0.mk hb; clear hb hL hz0)
                all_goals refine bodyPost_ret (results_cell_row rfl _ _ w.heap.size 97 _ (0, 0) _ rfl (blk_alloc (three_put HZ.out _ _ _) _) Try.underlying97 rfl (by kernel_rfl)) rfl ?_
                all_goals exact ⟨⟨_, rfl, _, _, _, _, by rw [HQ.out], fun _ => by rw [HQ.out]; exact ⟨rfl, LeftOf.behind (HL.out (by first | rfl | trivial))⟩⟩, below_alloc (three_below ((below_alloc (Below.refl _ _) _).trans (HB.out.mono (by simp))) (Nat.le_refl _) _ _ _) _⟩
        · have he1 : (er != 0) = true := bne_iff_ne.mpr he
          have hne : ¬ ((0, 0, er) : Int × Nat × Int).2.2 = 0 := he
          rcases hs' with rfl | rfl
          · have HQ : Aside0 (sigL (43 :: t) = (0, 0, er)) := ⟨by rw [HSIG.out]; simp [he]⟩
            clear HSIG
            go_enter Try.func64, Try.ntmps64
            go_wp2_with (go_at_call 63; refine (number_calls' (some (ad.add 1)) (c - 1) t n u er _ (Kd.C_alloc HT.out _) (by have := HCT.out; first | exact this | simpa using this) HLT.out HBT.out HNQ.out).mono ?_; rintro e w1 ⟨⟨B, m, k, rfl, hL⟩, hb⟩; have hx2 := fun o => HCC.out w1 o hb; have hz0 := blk_below (blk_new w (.cells #[.int .u64 0, .slice none 0 0, .int .i64 0] 97)) hb; have hB1 : w.heap.size < w1.heap.size := (by have := hb.size; simp at this; omega); obtain ⟨z0, z1, z2, f0, f1, f2⟩ : w1.cell? ⟨w.heap.size, 0, none⟩ = some (.int .u64 0) ∧ w1.cell? ⟨w.heap.size, 1, none⟩ = some (.slice none 0 0) ∧ w1.cell? ⟨w.heap.size, 2, none⟩ = some (.int .i64 0) ∧ w1.frozen? ⟨w.heap.size, 0, none⟩ = false ∧ w1.frozen? ⟨w.heap.size, 1, none⟩ = false ∧ w1.frozen? ⟨w.heap.size, 2, none⟩ = false := ⟨blk_cell hz0 0, blk_cell hz0 1, blk_cell hz0 2, blk_frozen hz0 0, blk_frozen hz0 1, blk_frozen hz0 2⟩; have HL := Aside0.mk hL; have HZ := Aside0.mk hz0; have HB1 := Aside0.mk hB1; have HB := Aside0.mk hb; clear hb hL hz0)
            all_goals refine bodyPost_ret (results_cell_row rfl _ _ w.heap.size 97 _ (0, 0) _ rfl (blk_alloc (three_put HZ.out _ _ _) _) Try.underlying97 rfl (by kernel_rfl)) rfl ?_
            all_goals exact ⟨⟨_, rfl, _, _, _, _, by rw [HQ.out], fun h => absurd h (by rw [HQ.out]; first | exact hne | decide)⟩, below_alloc (three_below ((below_alloc (Below.refl _ _) _).trans (HB.out.mono (by simp))) (Nat.le_refl _) _ _ _) _⟩
          · have HQ : Aside0 (sigL (45 :: t) = (0, 0, er)) := ⟨by rw [HSIG.out]; simp [he]⟩
            clear HSIG
            go_enter Try.func64, Try.ntmps64
            go_wp2_with (go_at_call 63; refine (number_calls' (some (ad.add 1)) (c - 1) t n u er _ (Kd.C_alloc HT.out _) (by have := HCT.out; first | exact this | simpa using this) HLT.out HBT.out HNQ.out).mono ?_; rintro e w1 ⟨⟨B, m, k, rfl, hL⟩, hb⟩; have hx2 := fun o => HCC.out w1 o hb; have hz0 := blk_below (blk_new w (.cells #[.int .u64 0, .slice none 0 0, .int .i64 0] 97)) hb; have hB1 : w.heap.size < w1.heap.size := (by have := hb.size; simp at this; omega); obtain ⟨z0, z1, z2, f0, f1, f2⟩ : w1.cell? ⟨w.heap.size, 0, none⟩ = some (.int .u64 0) ∧ w1.cell? ⟨w.heap.size, 1, none⟩ = some (.slice none 0 0) ∧ w1.cell? ⟨w.heap.size, 2, none⟩ = some (.int .i64 0) ∧ w1.frozen? ⟨w.heap.size, 0, none⟩ = false ∧ w1.frozen? ⟨w.heap.size, 1, none⟩ = false ∧ w1.frozen? ⟨w.heap.size, 2, none⟩ = false := ⟨blk_cell hz0 0, blk_cell hz0 1, blk_cell hz0 2, blk_frozen hz0 0, blk_frozen hz0 1, blk_frozen hz0 2⟩; have HL := Aside0.mk hL; have HZ := Aside0.mk hz0; have HB1 := Aside0.mk hB1; have HB := Aside0.mk hb; clear hb hL hz0)
            all_goals refine bodyPost_ret (results_cell_row rfl _ _ w.heap.size 97 _ (0, 0) _ rfl (blk_alloc (three_put HZ.out _ _ _) _) Try.underlying97 rfl (by kernel_rfl)) rfl ?_
            all_goals exact ⟨⟨_, rfl, _, _, _, _, by rw [HQ.out], fun h => absurd h (by rw [HQ.out]; first | exact hne | decide)⟩, below_alloc (three_below ((below_alloc (Below.refl _ _) _).trans (HB.out.mono (by simp))) (Nat.le_refl _) _ _ _) _⟩
/-- One byte. -/
def oneL : List Int → Int × Nat × Int
  | [] => (0, 0, 3)
  | c :: _ => (c, 1, 0)
set_option maxHeartbeats 400000 in
set_option maxRecDepth 100000 in
theorem one_calls (A : Option Addr) (c : Nat) (l : List Int) (w : World) (hr : Kd.C (Kd.int .u8) w A l.length l) (hc : l.length ≤ c) (hb : l.all byteB = true) :
    Calls Try.prog 67 #[.slice A l.length c] w fun e w' => (∃ v, e = .returned v ∧ PieceIs A l (oneL l) v) ∧ Below w.heap.size w w' := by
  rcases l with _ | ⟨x, t⟩
  · go_enter Try.func67, Try.ntmps67
    go_wp2
    refine bodyPost_ret (results_cell_row rfl _ _ w.heap.size 97 _ (0, 0) _ rfl (blk_new w _) Try.underlying97 rfl (by kernel_rfl)) rfl ?_
    exact ⟨⟨_, rfl, _, _, _, _, rfl, fun h => by simp [oneL] at h⟩, below_alloc (Below.refl _ _) _⟩
  · obtain ⟨ad, e0, hx⟩ := Kd.at_int (Kd.C_alloc hr (.cells #[.int .u64 0, .slice none 0 0, .int .i64 0] 97)) 0 (by omega) (by simp)
    cases e0
    have hlen : (x :: t).length = t.length + 1 := rfl
    have hz : rd (x :: t) 0 = x := by simp [rd]
    rw [hz] at hx
    rw [show ad.add (0 : Int).toNat = ad from by cases ad; simp [Addr.add]] at hx
    have hlb : (((t.length : Nat) : Int) + 1 == 0) = false := beq_eq_false_iff_ne.mpr (by omega)
    have hL := LeftOf.of_cut (A := some ad) (c := c) (l := x :: t) 1 hc
    have hbx : 0 ≤ x ∧ x < 256 := by
      have := List.all_eq_true.mp hb x (by simp)
      simpa [byteB] using this
    obtain ⟨hx0, hx1⟩ := hbx
    have hL' := Aside0.mk hL
    clear hL hr
    go_enter Try.func67, Try.ntmps67
    go_wp2
    go_region
    go_wp2
    all_goals refine bodyPost_ret (results_cell_row rfl _ _ w.heap.size 97 _ (0, 0) _ rfl (blk_drew (blk_new w _)) Try.underlying97 rfl (by kernel_rfl)) rfl ?_
    all_goals exact ⟨⟨_, rfl, _, _, _, _, rfl, fun h => ⟨rfl, by simpa [oneL, Addr.add, *] using hL'.out⟩⟩, below_drew1 (below_alloc (Below.refl _ _) _)⟩
/-- What a strip has in store: A's cells, where it stands. -/
def StripAt (W : World) (g : Nat) (f0 : List Int) (f1 : Int) (A : Option Addr) (c : Nat) : Prop :=
  0 ≤ f1 ∧ f1 ≤ f0.length ∧ f0.length ≤ 140737488355328 ∧ f0.all byteB = true ∧ f0.length - f1.toNat ≤ c ∧ (∀ ad, A = some ad → f1.toNat < f0.length → ad.block ≠ g ∧ ∃ cells, W.heap[ad.block]? = some (.cells cells 5 (0, 0))) ∧ Kd.C (Kd.int .u8) W A (f0.length - f1.toNat) (f0.drop f1.toNat)
/-- A strip at block g: its bytes, the place, the error, the error's place. -/
def StripIs (w0 W : World) (g : Nat) (f0 : List Int) (f1 : Int) (f2 : Int) (f3 : Int) : Prop :=
  ∃ A c, W.heap[g]? = some (.cells #[.slice A (f0.length - f1.toNat) c, .int .i64 f0.length, .int .i64 f2, .int .i64 f3] 91 (0, 0)) ∧ w0.heap.size ≤ g ∧ StripAt W g f0 f1 A c
theorem StripAt.step {W W1 : World} {g : Nat} {f0 : List Int} {f1 : Int} {A : Option Addr} {c : Nat} (h : StripAt W g f0 f1 A c) (hk : ∀ k, (∃ cells, W.heap[k]? = some (.cells cells 5 (0, 0))) → k ≠ g → W1.heap[k]? = W.heap[k]?) (hs : W.heap.size ≤ W1.heap.size) : StripAt W1 g f0 f1 A c := by
  obtain ⟨h1, h2, h3, h4, h5, h6, h7⟩ := h
  refine ⟨h1, h2, h3, h4, h5, fun ad e hl => ?_, ?_⟩
  · obtain ⟨hn, cells, hc⟩ := h6 ad e hl
    exact ⟨hn, cells, (hk _ ⟨cells, hc⟩ hn).trans hc⟩
  · refine ⟨h7.1, h7.2.1, fun hp => ?_⟩
    obtain ⟨ad, e, hx⟩ := h7.2.2 hp
    obtain ⟨hn, cells, hc⟩ := h6 ad e (by omega)
    refine ⟨ad, e, fun j p hj => ?_⟩
    obtain ⟨c2, hl, hK, hx2⟩ := hx j p hj
    refine ⟨c2, hl, hK, fun i u hu => ?_⟩
    have := hx2 i u hu
    rw [← this]
    have hb : (ad.add (j * (Kd.int IntKind.u8).sz + i)).block = ad.block := add_block _ _
    simp only [World.cell?, hb, hk _ ⟨cells, hc⟩ hn]
set_option maxHeartbeats 400000 in
set_option maxRecDepth 100000 in
theorem where_calls (g : Nat) (f0 : List Int) (f1 f2 f3 : Int) (w0 w : World) (hI : StripIs w0 w g f0 f1 f2 f3) :
    Calls Try.prog 35 #[.pointer (some ⟨g, 0, none⟩)] w fun e w' => e = .returned (.int .i64 f1) ∧ Drawn0 w w' := by
  obtain ⟨A, c, hb, _, h1, h2, h3, _⟩ := hI
  have c0 := blk_cell hb 0
  have c1 := blk_cell hb 1
  simp at c0 c1
  have hw : wrap64 ((f0.length : Int) - ((f0.length - f1.toNat : Nat) : Int)) = f1 := by rw [wrap64_id (by omega) (by omega)]; omega
  have hw2 : ((f0.length : Int) - ((f0.length - f1.toNat : Nat) : Int)) = f1 := by omega
  clear hb
  go_enter Try.func35, Try.ntmps35
  go_wp2
  go_quiet (fail)
  go_wp2
  go_ret
  exact ⟨rfl, by repeat (first | exact Drawn0.refl _ | apply Drawn0.step)⟩
/-- What reading does: the number, the place, the error, the error's place. -/
def readP (F : List Int → Int × Nat × Int) (f0 : List Int) (f1 f2 f3 : Int) : Int × Int × Int × Int :=
  if f2 ≠ 0 then (0, f1, f2, f3) else if (F (f0.drop f1.toNat)).2.2 ≠ 0 then (0, f1, (F (f0.drop f1.toNat)).2.2, f1) else ((F (f0.drop f1.toNat)).1, f1 + (F (f0.drop f1.toNat)).2.1, 0, f3)
theorem number_piece (A : Option Addr) (c : Nat) (l : List Int) (w : World) (hr : Kd.C (Kd.int .u8) w A l.length l) (hc : l.length ≤ c) (hl : l.length ≤ 140737488355328) (hb : l.all byteB = true) :
    Calls Try.prog 63 #[.slice A l.length c] w fun e w' => (∃ v, e = .returned v ∧ PieceIs A l (numL l 0 0) v) ∧ Below w.heap.size w w' := by
  refine (number_calls' A c l _ _ _ w hr hc hl hb rfl).mono ?_
  rintro e w' ⟨⟨B, m, k, h, h2⟩, hb⟩
  exact ⟨⟨_, h, _, _, _, _, rfl, fun h0 => ⟨rfl, h2 h0⟩⟩, hb⟩
theorem one_piece (A : Option Addr) (c : Nat) (l : List Int) (w : World) (hr : Kd.C (Kd.int .u8) w A l.length l) (hc : l.length ≤ c) (hl : l.length ≤ 140737488355328) (hb : l.all byteB = true) :
    Calls Try.prog 67 #[.slice A l.length c] w fun e w' => (∃ v, e = .returned v ∧ PieceIs A l (oneL l) v) ∧ Below w.heap.size w w' := one_calls A c l w hr hc hb
theorem numL_le : ∀ (l : List Int) (n : Int) (i : Nat), (numL l n i).2.2 = 0 → (numL l n i).2.1 ≤ i + l.length
  | [], _, _ => by simp [numL]
  | c :: t, n, i => by
    unfold numL
    split
    · simp
    split
    · simp
    split
    · simp
    · intro h
      have := numL_le t _ _ h
      simp; omega
theorem num_fits (l : List Int) (h : (numL l 0 0).2.2 = 0) : (numL l 0 0).2.1 ≤ l.length := by have := numL_le l 0 0 h; omega
theorem one_fits (l : List Int) (h : (oneL l).2.2 = 0) : (oneL l).2.1 ≤ l.length := by rcases l with _ | ⟨c, t⟩ <;> simp [oneL] at h ⊢
theorem sig_fits (l : List Int) (h : (sigL l).2.2 = 0) : (sigL l).2.1 ≤ l.length := by
  rcases l with _ | ⟨c, t⟩
  · simp [sigL]
  · have hn := num_fits t
    simp only [sigL] at h ⊢
    generalize numL t 0 0 = q at hn h ⊢
    obtain ⟨n, u, er⟩ := q
    dsimp only [sigL] at h ⊢
    by_cases h1 : c ≠ 43 ∧ c ≠ 45
    · rw [if_pos h1] at h; simp at h
    rw [if_neg h1] at h ⊢
    by_cases h2 : er ≠ 0
    · rw [if_pos h2] at h; exact absurd h h2
    rw [if_neg h2] at h ⊢
    by_cases h3 : c = 45 ∧ n = 0
    · rw [if_pos h3] at h; simp at h
    rw [if_neg h3] at h ⊢
    by_cases h4 : 9223372036854775808 < n ∨ (n = 9223372036854775808 ∧ c = 43)
    · rw [if_pos h4] at h; simp at h
    rw [if_neg h4]
    have := hn (by simpa using h2)
    simp at this ⊢; omega
theorem StripAt.keep {W W1 : World} {g : Nat} {f0 : List Int} {f1 : Int} {A : Option Addr} {c : Nat} (h : StripAt W g f0 f1 A c) (hk : KeepBut W W1 g none) : StripAt W1 g f0 f1 A c :=
  h.step (fun k ⟨_, hc⟩ hn => hk.2 k (blk_lt hc) hn (by simp)) hk.1
/-- A strip's reading goes on behind a piece that was read. -/
theorem StripAt.read {W : World} {g : Nat} {f0 : List Int} {f1 : Int} {A : Option Addr} {c u : Nat} {L : Value} (h : StripAt W g f0 f1 A c) (hu : u ≤ f0.length - f1.toNat) (hL : LeftOf A (f0.drop f1.toNat) u L) :
    ∃ B k, L = .slice B (f0.length - (f1 + (u : Int)).toNat) k ∧ StripAt W g f0 (f1 + (u : Int)) B k := by
  obtain ⟨B, k, rfl, h1, h2⟩ := hL
  obtain ⟨s1, s2, s3, s4, s5, s6, s7⟩ := h
  have e1 : (f0.drop f1.toNat).length = f0.length - f1.toNat := by simp
  rw [e1] at h1 h2
  have e2 : (f1 + (u : Int)).toNat = f1.toNat + u := by omega
  refine ⟨B, k, by rw [e1, e2, Nat.sub_add_eq], by omega, by omega, s3, s4, by omega, ?_, ?_⟩
  · intro ad hB hlt
    have hB2 := h2 (by omega)
    rw [hB2] at hB
    obtain ⟨ad0, rfl, rfl⟩ := Option.map_eq_some_iff.1 hB
    obtain ⟨q1, q2⟩ := s6 ad0 rfl (by omega)
    rw [add_block]
    exact ⟨q1, q2⟩
  · have s8 : Kd.C (Kd.int .u8) W A (f0.drop f1.toNat).length (f0.drop f1.toNat) := by rw [e1]; exact s7
    refine ⟨by simp, by omega, fun hp => ?_⟩
    rw [h2 (by omega)]
    obtain ⟨ad, rfl, hx⟩ := s7.2.2 (by omega)
    refine ⟨ad.add u, rfl, fun j p hj => ?_⟩
    rw [e2, ← List.drop_drop, List.getElem?_drop] at hj
    obtain ⟨c2, q1, q2, q3⟩ := hx (u + j) p hj
    refine ⟨c2, q1, q2, fun i v hi => ?_⟩
    rw [add_add', show u + (j * (Kd.int IntKind.u8).sz + i) = (u + j) * (Kd.int IntKind.u8).sz + i by show u + (j * 1 + i) = (u + j) * 1 + i; omega]
    exact q3 i v hi
set_option maxHeartbeats 400000 in
set_option maxRecDepth 100000 in
theorem read_number (g : Nat) (f0 : List Int) (f1 f2 f3 : Int) (w0 w : World) (hI : StripIs w0 w g f0 f1 f2 f3) (hB : Below w0.heap.size w0 w) (n p e s : Int) (hq : readP (fun l => numL l 0 0) f0 f1 f2 f3 = (n, p, e, s)) :
    Calls Try.prog 62 #[.pointer (some ⟨g, 0, none⟩), .func (.func 63) #[] #[]] w fun e' w' => e' = .returned (.int .u64 n) ∧ StripIs w0 w' g f0 p e s ∧ Below w0.heap.size w0 w' ∧ KeepBut w w' g none := by
  obtain ⟨A, c, hb, hg, hS⟩ := hI
  have s3 := hS.2.2.1
  have s7 := hS.2.2.2.2.2.2
  have c0 := blk_cell hb 0
  have c2 := blk_cell hb 2
  simp at c0 c2
  have hlen : (f0.drop f1.toNat).length = f0.length - f1.toNat := by simp
  by_cases h2 : f2 = 0
  · subst h2
    obtain ⟨v, u, er, hv⟩ : ∃ v u er, (fun l => numL l 0 0) (f0.drop f1.toNat) = (v, u, er) := ⟨_, _, _, rfl⟩
    have hfit := num_fits (f0.drop f1.toNat)
    have HP : Aside0 (∀ W, Kd.C (Kd.int .u8) W A (f0.length - f1.toNat) (f0.drop f1.toNat) → Calls Try.prog 63 #[.slice A (f0.length - f1.toNat) c] W fun e w' => (∃ n B m k, e = .returned (.agg #[.int .u64 n, .slice B m k, .int .i64 er]) ∧ (er = 0 → n = v ∧ LeftOf A (f0.drop f1.toNat) u (.slice B m k))) ∧ Below W.heap.size W w') := ⟨by
      intro W h
      have := number_piece A c (f0.drop f1.toNat) W (by rw [hlen]; exact h) (by rw [hlen]; exact hS.2.2.2.2.1) (by omega) (List.all_eq_true.mpr fun x hx => List.all_eq_true.mp hS.2.2.2.1 x (List.mem_of_mem_drop hx))
      rw [hlen] at this
      refine this.mono ?_
      rintro e w' ⟨⟨q, h1, n, B, m, k, h2, h3⟩, hb⟩
      subst h1; subst h2
      try dsimp only at hv
      rw [hv] at h3 ⊢
      exact ⟨⟨n, B, m, k, rfl, h3⟩, hb⟩⟩
    have hq2 : (if er ≠ 0 then ((0 : Int), f1, er, f1) else (v, f1 + (u : Int), 0, f3)) = (n, p, e, s) := by
      rw [← hq]; (try dsimp only at hv); simp [readP, hv]
    try dsimp only at hv
    rw [hv] at hfit
    have HFIT := Aside0.mk hfit
    have HS := Aside0.mk hS; have HG := Aside0.mk hg; have HB := Aside0.mk hB; have HBL := Aside0.mk hb; have H7 := Aside0.mk s7
    clear hS s7 hg hB hb hq hv s3 hfit
    have CALL : ∀ W, KeepBut w W g none → True := fun _ _ => trivial
    by_cases he : er = 0
    · subst he
      obtain ⟨rfl, rfl, rfl, rfl⟩ : v = n ∧ f1 + (u : Int) = p ∧ 0 = e ∧ f3 = s := by simpa using hq2
      clear hq2
      go_enter Try.func62, Try.ntmps62
      go_wp2_with (go_at_call 63; refine (HP.out _ H7.out).mono ?_; rintro e w1 ⟨⟨n, B, m, k, rfl, hL⟩, hb1⟩; obtain ⟨rfl, hL⟩ := hL rfl; have hb2 := blk_below HBL.out hb1; obtain ⟨c0', f0'⟩ : (∀ o, (w1.alloc o).cell? ⟨g, 0, none⟩ = some (.slice A (f0.length - f1.toNat) c)) ∧ (∀ o, (w1.alloc o).frozen? ⟨g, 0, none⟩ = false) := ⟨fun o => by simpa using blk_cell (blk_alloc hb2 o) 0, fun o => blk_frozen (blk_alloc hb2 o) 0⟩; have c0'' : w1.cell? ⟨g, 0, none⟩ = some (.slice A (f0.length - f1.toNat) c) := (by simpa using blk_cell hb2 0); have f0'' : w1.frozen? ⟨g, 0, none⟩ = false := blk_frozen hb2 0; have hlt1 := blk_lt hb2; have HB2 := Aside0.mk hb2; have HB1 := Aside0.mk hb1; have HL := Aside0.mk hL; clear hb1 hb2 hL)
      go_ret
      obtain ⟨B', k', eL, hS'⟩ := StripAt.read HS.out (by have := HFIT.out trivial; omega) (HL.out trivial).2
      injection eL with e1 e2 e3
      subst e1; subst e2; subst e3
      have hk : KeepBut w ((w1.setCell ⟨g, 0, none⟩ (.slice B (f0.length - (f1 + (u : Int)).toNat) k)).alloc (.cells #[.int .u64 n, .slice B (f0.length - (f1 + (u : Int)).toNat) k, .int .i64 0] 97)) g none := keep_alloc (KeepBut.set_ (KeepBut.of_below HB1.out g none) 0 _) _
      exact ⟨rfl, ⟨B, k, blk_alloc (by simpa using blk_set HB2.out 0 (.slice B (f0.length - (f1 + (u : Int)).toNat) k)) _, HG.out, hS'.keep hk⟩, below_alloc (below_set (below_weaken HB.out HB.out.size HB1.out) HG.out) _, hk⟩
    · have he1 : (er != 0) = true := bne_iff_ne.mpr he
      obtain ⟨rfl, rfl, rfl, rfl⟩ : 0 = n ∧ f1 = p ∧ er = e ∧ f1 = s := by simpa [he] using hq2
      clear hq2
      go_enter Try.func62, Try.ntmps62
      go_wp2_with (go_at_call 63; refine (HP.out _ H7.out).mono ?_; rintro e w1 ⟨⟨n, B, m, k, rfl, hL⟩, hb1⟩; have hb2 := blk_below HBL.out hb1; have hlt1 := blk_lt hb2; have HB2 := Aside0.mk hb2; have HB1 := Aside0.mk hb1; clear hb1 hb2 hL)
      have hI5 : ∀ o, StripIs w0 (w1.alloc o).drew g f0 f1 0 f3 := fun o => ⟨A, c, blk_drew (blk_alloc HB2.out o), HG.out, HS.out.keep (keep_drew (keep_alloc (KeepBut.of_below HB1.out g none) o))⟩
      have HI5 := Aside0.mk hI5
      clear hI5
      obtain ⟨c2', f2', c3', f3'⟩ : w1.cell? ⟨g, 2, none⟩ = some (.int .i64 0) ∧ w1.frozen? ⟨g, 2, none⟩ = false ∧ w1.cell? ⟨g, 3, none⟩ = some (.int .i64 f3) ∧ w1.frozen? ⟨g, 3, none⟩ = false := ⟨by simpa using blk_cell HB2.out 2, blk_frozen HB2.out 2, by simpa using blk_cell HB2.out 3, blk_frozen HB2.out 3⟩
      go_region_with (go_at_call 35; refine (where_calls g f0 f1 0 f3 w0 _ (HI5.out _)).mono ?_; rintro e w2 ⟨rfl, ⟨nd, rfl⟩⟩)
      all_goals go_wp2
      all_goals go_ret
      all_goals
        have hk := KeepBut.set_ (KeepBut.set_ (keep_drewN (keep_alloc (KeepBut.of_below HB1.out g none) (.cells #[.int .u64 n, .slice B m k, .int .i64 er] 97)) (1 + nd)) 2 (.int .i64 er)) 3 (.int .i64 f1)
        exact ⟨rfl, ⟨A, c, by simpa using blk_set (blk_set (blk_drewN (blk_alloc HB2.out (.cells #[.int .u64 n, .slice B m k, .int .i64 er] 97)) (1 + nd)) 2 (.int .i64 er)) 3 (.int .i64 f1), HG.out, HS.out.keep hk⟩, below_set (below_set (pw_below_drewN (below_alloc (below_weaken HB.out HB.out.size HB1.out) _) _) HG.out) HG.out, hk⟩
  · have hb2 : (f2 != 0) = true := bne_iff_ne.mpr h2
    obtain ⟨rfl, rfl, rfl, rfl⟩ : 0 = n ∧ f1 = p ∧ f2 = e ∧ f3 = s := by simpa [readP, h2] using hq
    have hI2 : StripIs w0 w g f0 f1 f2 f3 := ⟨A, c, hb, hg, hS⟩
    clear hb s7 hS
    go_enter Try.func62, Try.ntmps62
    go_wp2
    go_ret
    exact ⟨rfl, hI2, hB, KeepBut.refl _ _ _⟩
set_option maxHeartbeats 400000 in
set_option maxRecDepth 100000 in
theorem read_signed (g : Nat) (f0 : List Int) (f1 f2 f3 : Int) (w0 w : World) (hI : StripIs w0 w g f0 f1 f2 f3) (hB : Below w0.heap.size w0 w) (n p e s : Int) (hq : readP sigL f0 f1 f2 f3 = (n, p, e, s)) :
    Calls Try.prog 62 #[.pointer (some ⟨g, 0, none⟩), .func (.func 64) #[] #[]] w fun e' w' => e' = .returned (.int .u64 n) ∧ StripIs w0 w' g f0 p e s ∧ Below w0.heap.size w0 w' ∧ KeepBut w w' g none := by
  obtain ⟨A, c, hb, hg, hS⟩ := hI
  have s3 := hS.2.2.1
  have s7 := hS.2.2.2.2.2.2
  have c0 := blk_cell hb 0
  have c2 := blk_cell hb 2
  simp at c0 c2
  have hlen : (f0.drop f1.toNat).length = f0.length - f1.toNat := by simp
  by_cases h2 : f2 = 0
  · subst h2
    obtain ⟨v, u, er, hv⟩ : ∃ v u er, sigL (f0.drop f1.toNat) = (v, u, er) := ⟨_, _, _, rfl⟩
    have hfit := sig_fits (f0.drop f1.toNat)
    have HP : Aside0 (∀ W, Kd.C (Kd.int .u8) W A (f0.length - f1.toNat) (f0.drop f1.toNat) → Calls Try.prog 64 #[.slice A (f0.length - f1.toNat) c] W fun e w' => (∃ n B m k, e = .returned (.agg #[.int .u64 n, .slice B m k, .int .i64 er]) ∧ (er = 0 → n = v ∧ LeftOf A (f0.drop f1.toNat) u (.slice B m k))) ∧ Below W.heap.size W w') := ⟨by
      intro W h
      have := signed_calls A c (f0.drop f1.toNat) W (by rw [hlen]; exact h) (by rw [hlen]; exact hS.2.2.2.2.1) (by omega) (List.all_eq_true.mpr fun x hx => List.all_eq_true.mp hS.2.2.2.1 x (List.mem_of_mem_drop hx))
      rw [hlen] at this
      refine this.mono ?_
      rintro e w' ⟨⟨q, h1, n, B, m, k, h2, h3⟩, hb⟩
      subst h1; subst h2
      try dsimp only at hv
      rw [hv] at h3 ⊢
      exact ⟨⟨n, B, m, k, rfl, h3⟩, hb⟩⟩
    have hq2 : (if er ≠ 0 then ((0 : Int), f1, er, f1) else (v, f1 + (u : Int), 0, f3)) = (n, p, e, s) := by
      rw [← hq]; (try dsimp only at hv); simp [readP, hv]
    try dsimp only at hv
    rw [hv] at hfit
    have HFIT := Aside0.mk hfit
    have HS := Aside0.mk hS; have HG := Aside0.mk hg; have HB := Aside0.mk hB; have HBL := Aside0.mk hb; have H7 := Aside0.mk s7
    clear hS s7 hg hB hb hq hv s3 hfit
    have CALL : ∀ W, KeepBut w W g none → True := fun _ _ => trivial
    by_cases he : er = 0
    · subst he
      obtain ⟨rfl, rfl, rfl, rfl⟩ : v = n ∧ f1 + (u : Int) = p ∧ 0 = e ∧ f3 = s := by simpa using hq2
      clear hq2
      go_enter Try.func62, Try.ntmps62
      go_wp2_with (go_at_call 64; refine (HP.out _ H7.out).mono ?_; rintro e w1 ⟨⟨n, B, m, k, rfl, hL⟩, hb1⟩; obtain ⟨rfl, hL⟩ := hL rfl; have hb2 := blk_below HBL.out hb1; obtain ⟨c0', f0'⟩ : (∀ o, (w1.alloc o).cell? ⟨g, 0, none⟩ = some (.slice A (f0.length - f1.toNat) c)) ∧ (∀ o, (w1.alloc o).frozen? ⟨g, 0, none⟩ = false) := ⟨fun o => by simpa using blk_cell (blk_alloc hb2 o) 0, fun o => blk_frozen (blk_alloc hb2 o) 0⟩; have c0'' : w1.cell? ⟨g, 0, none⟩ = some (.slice A (f0.length - f1.toNat) c) := (by simpa using blk_cell hb2 0); have f0'' : w1.frozen? ⟨g, 0, none⟩ = false := blk_frozen hb2 0; have hlt1 := blk_lt hb2; have HB2 := Aside0.mk hb2; have HB1 := Aside0.mk hb1; have HL := Aside0.mk hL; clear hb1 hb2 hL)
      go_ret
      obtain ⟨B', k', eL, hS'⟩ := StripAt.read HS.out (by have := HFIT.out trivial; omega) (HL.out trivial).2
      injection eL with e1 e2 e3
      subst e1; subst e2; subst e3
      have hk : KeepBut w ((w1.setCell ⟨g, 0, none⟩ (.slice B (f0.length - (f1 + (u : Int)).toNat) k)).alloc (.cells #[.int .u64 n, .slice B (f0.length - (f1 + (u : Int)).toNat) k, .int .i64 0] 97)) g none := keep_alloc (KeepBut.set_ (KeepBut.of_below HB1.out g none) 0 _) _
      exact ⟨rfl, ⟨B, k, blk_alloc (by simpa using blk_set HB2.out 0 (.slice B (f0.length - (f1 + (u : Int)).toNat) k)) _, HG.out, hS'.keep hk⟩, below_alloc (below_set (below_weaken HB.out HB.out.size HB1.out) HG.out) _, hk⟩
    · have he1 : (er != 0) = true := bne_iff_ne.mpr he
      obtain ⟨rfl, rfl, rfl, rfl⟩ : 0 = n ∧ f1 = p ∧ er = e ∧ f1 = s := by simpa [he] using hq2
      clear hq2
      go_enter Try.func62, Try.ntmps62
      go_wp2_with (go_at_call 64; refine (HP.out _ H7.out).mono ?_; rintro e w1 ⟨⟨n, B, m, k, rfl, hL⟩, hb1⟩; have hb2 := blk_below HBL.out hb1; have hlt1 := blk_lt hb2; have HB2 := Aside0.mk hb2; have HB1 := Aside0.mk hb1; clear hb1 hb2 hL)
      have hI5 : ∀ o, StripIs w0 (w1.alloc o).drew g f0 f1 0 f3 := fun o => ⟨A, c, blk_drew (blk_alloc HB2.out o), HG.out, HS.out.keep (keep_drew (keep_alloc (KeepBut.of_below HB1.out g none) o))⟩
      have HI5 := Aside0.mk hI5
      clear hI5
      obtain ⟨c2', f2', c3', f3'⟩ : w1.cell? ⟨g, 2, none⟩ = some (.int .i64 0) ∧ w1.frozen? ⟨g, 2, none⟩ = false ∧ w1.cell? ⟨g, 3, none⟩ = some (.int .i64 f3) ∧ w1.frozen? ⟨g, 3, none⟩ = false := ⟨by simpa using blk_cell HB2.out 2, blk_frozen HB2.out 2, by simpa using blk_cell HB2.out 3, blk_frozen HB2.out 3⟩
      go_region_with (go_at_call 35; refine (where_calls g f0 f1 0 f3 w0 _ (HI5.out _)).mono ?_; rintro e w2 ⟨rfl, ⟨nd, rfl⟩⟩)
      all_goals go_wp2
      all_goals go_ret
      all_goals
        have hk := KeepBut.set_ (KeepBut.set_ (keep_drewN (keep_alloc (KeepBut.of_below HB1.out g none) (.cells #[.int .u64 n, .slice B m k, .int .i64 er] 97)) (1 + nd)) 2 (.int .i64 er)) 3 (.int .i64 f1)
        exact ⟨rfl, ⟨A, c, by simpa using blk_set (blk_set (blk_drewN (blk_alloc HB2.out (.cells #[.int .u64 n, .slice B m k, .int .i64 er] 97)) (1 + nd)) 2 (.int .i64 er)) 3 (.int .i64 f1), HG.out, HS.out.keep hk⟩, below_set (below_set (pw_below_drewN (below_alloc (below_weaken HB.out HB.out.size HB1.out) _) _) HG.out) HG.out, hk⟩
  · have hb2 : (f2 != 0) = true := bne_iff_ne.mpr h2
    obtain ⟨rfl, rfl, rfl, rfl⟩ : 0 = n ∧ f1 = p ∧ f2 = e ∧ f3 = s := by simpa [readP, h2] using hq
    have hI2 : StripIs w0 w g f0 f1 f2 f3 := ⟨A, c, hb, hg, hS⟩
    clear hb s7 hS
    go_enter Try.func62, Try.ntmps62
    go_wp2
    go_ret
    exact ⟨rfl, hI2, hB, KeepBut.refl _ _ _⟩
set_option maxHeartbeats 400000 in
set_option maxRecDepth 100000 in
theorem read_one (g : Nat) (f0 : List Int) (f1 f2 f3 : Int) (w0 w : World) (hI : StripIs w0 w g f0 f1 f2 f3) (hB : Below w0.heap.size w0 w) (n p e s : Int) (hq : readP oneL f0 f1 f2 f3 = (n, p, e, s)) :
    Calls Try.prog 62 #[.pointer (some ⟨g, 0, none⟩), .func (.func 67) #[] #[]] w fun e' w' => e' = .returned (.int .u64 n) ∧ StripIs w0 w' g f0 p e s ∧ Below w0.heap.size w0 w' ∧ KeepBut w w' g none := by
  obtain ⟨A, c, hb, hg, hS⟩ := hI
  have s3 := hS.2.2.1
  have s7 := hS.2.2.2.2.2.2
  have c0 := blk_cell hb 0
  have c2 := blk_cell hb 2
  simp at c0 c2
  have hlen : (f0.drop f1.toNat).length = f0.length - f1.toNat := by simp
  by_cases h2 : f2 = 0
  · subst h2
    obtain ⟨v, u, er, hv⟩ : ∃ v u er, oneL (f0.drop f1.toNat) = (v, u, er) := ⟨_, _, _, rfl⟩
    have hfit := one_fits (f0.drop f1.toNat)
    have HP : Aside0 (∀ W, Kd.C (Kd.int .u8) W A (f0.length - f1.toNat) (f0.drop f1.toNat) → Calls Try.prog 67 #[.slice A (f0.length - f1.toNat) c] W fun e w' => (∃ n B m k, e = .returned (.agg #[.int .u64 n, .slice B m k, .int .i64 er]) ∧ (er = 0 → n = v ∧ LeftOf A (f0.drop f1.toNat) u (.slice B m k))) ∧ Below W.heap.size W w') := ⟨by
      intro W h
      have := one_piece A c (f0.drop f1.toNat) W (by rw [hlen]; exact h) (by rw [hlen]; exact hS.2.2.2.2.1) (by omega) (List.all_eq_true.mpr fun x hx => List.all_eq_true.mp hS.2.2.2.1 x (List.mem_of_mem_drop hx))
      rw [hlen] at this
      refine this.mono ?_
      rintro e w' ⟨⟨q, h1, n, B, m, k, h2, h3⟩, hb⟩
      subst h1; subst h2
      try dsimp only at hv
      rw [hv] at h3 ⊢
      exact ⟨⟨n, B, m, k, rfl, h3⟩, hb⟩⟩
    have hq2 : (if er ≠ 0 then ((0 : Int), f1, er, f1) else (v, f1 + (u : Int), 0, f3)) = (n, p, e, s) := by
      rw [← hq]; (try dsimp only at hv); simp [readP, hv]
    try dsimp only at hv
    rw [hv] at hfit
    have HFIT := Aside0.mk hfit
    have HS := Aside0.mk hS; have HG := Aside0.mk hg; have HB := Aside0.mk hB; have HBL := Aside0.mk hb; have H7 := Aside0.mk s7
    clear hS s7 hg hB hb hq hv s3 hfit
    have CALL : ∀ W, KeepBut w W g none → True := fun _ _ => trivial
    by_cases he : er = 0
    · subst he
      obtain ⟨rfl, rfl, rfl, rfl⟩ : v = n ∧ f1 + (u : Int) = p ∧ 0 = e ∧ f3 = s := by simpa using hq2
      clear hq2
      go_enter Try.func62, Try.ntmps62
      go_wp2_with (go_at_call 67; refine (HP.out _ H7.out).mono ?_; rintro e w1 ⟨⟨n, B, m, k, rfl, hL⟩, hb1⟩; obtain ⟨rfl, hL⟩ := hL rfl; have hb2 := blk_below HBL.out hb1; obtain ⟨c0', f0'⟩ : (∀ o, (w1.alloc o).cell? ⟨g, 0, none⟩ = some (.slice A (f0.length - f1.toNat) c)) ∧ (∀ o, (w1.alloc o).frozen? ⟨g, 0, none⟩ = false) := ⟨fun o => by simpa using blk_cell (blk_alloc hb2 o) 0, fun o => blk_frozen (blk_alloc hb2 o) 0⟩; have c0'' : w1.cell? ⟨g, 0, none⟩ = some (.slice A (f0.length - f1.toNat) c) := (by simpa using blk_cell hb2 0); have f0'' : w1.frozen? ⟨g, 0, none⟩ = false := blk_frozen hb2 0; have hlt1 := blk_lt hb2; have HB2 := Aside0.mk hb2; have HB1 := Aside0.mk hb1; have HL := Aside0.mk hL; clear hb1 hb2 hL)
      go_ret
      obtain ⟨B', k', eL, hS'⟩ := StripAt.read HS.out (by have := HFIT.out trivial; omega) (HL.out trivial).2
      injection eL with e1 e2 e3
      subst e1; subst e2; subst e3
      have hk : KeepBut w ((w1.setCell ⟨g, 0, none⟩ (.slice B (f0.length - (f1 + (u : Int)).toNat) k)).alloc (.cells #[.int .u64 n, .slice B (f0.length - (f1 + (u : Int)).toNat) k, .int .i64 0] 97)) g none := keep_alloc (KeepBut.set_ (KeepBut.of_below HB1.out g none) 0 _) _
      exact ⟨rfl, ⟨B, k, blk_alloc (by simpa using blk_set HB2.out 0 (.slice B (f0.length - (f1 + (u : Int)).toNat) k)) _, HG.out, hS'.keep hk⟩, below_alloc (below_set (below_weaken HB.out HB.out.size HB1.out) HG.out) _, hk⟩
    · have he1 : (er != 0) = true := bne_iff_ne.mpr he
      obtain ⟨rfl, rfl, rfl, rfl⟩ : 0 = n ∧ f1 = p ∧ er = e ∧ f1 = s := by simpa [he] using hq2
      clear hq2
      go_enter Try.func62, Try.ntmps62
      go_wp2_with (go_at_call 67; refine (HP.out _ H7.out).mono ?_; rintro e w1 ⟨⟨n, B, m, k, rfl, hL⟩, hb1⟩; have hb2 := blk_below HBL.out hb1; have hlt1 := blk_lt hb2; have HB2 := Aside0.mk hb2; have HB1 := Aside0.mk hb1; clear hb1 hb2 hL)
      have hI5 : ∀ o, StripIs w0 (w1.alloc o).drew g f0 f1 0 f3 := fun o => ⟨A, c, blk_drew (blk_alloc HB2.out o), HG.out, HS.out.keep (keep_drew (keep_alloc (KeepBut.of_below HB1.out g none) o))⟩
      have HI5 := Aside0.mk hI5
      clear hI5
      obtain ⟨c2', f2', c3', f3'⟩ : w1.cell? ⟨g, 2, none⟩ = some (.int .i64 0) ∧ w1.frozen? ⟨g, 2, none⟩ = false ∧ w1.cell? ⟨g, 3, none⟩ = some (.int .i64 f3) ∧ w1.frozen? ⟨g, 3, none⟩ = false := ⟨by simpa using blk_cell HB2.out 2, blk_frozen HB2.out 2, by simpa using blk_cell HB2.out 3, blk_frozen HB2.out 3⟩
      go_region_with (go_at_call 35; refine (where_calls g f0 f1 0 f3 w0 _ (HI5.out _)).mono ?_; rintro e w2 ⟨rfl, ⟨nd, rfl⟩⟩)
      all_goals go_wp2
      all_goals go_ret
      all_goals
        have hk := KeepBut.set_ (KeepBut.set_ (keep_drewN (keep_alloc (KeepBut.of_below HB1.out g none) (.cells #[.int .u64 n, .slice B m k, .int .i64 er] 97)) (1 + nd)) 2 (.int .i64 er)) 3 (.int .i64 f1)
        exact ⟨rfl, ⟨A, c, by simpa using blk_set (blk_set (blk_drewN (blk_alloc HB2.out (.cells #[.int .u64 n, .slice B m k, .int .i64 er] 97)) (1 + nd)) 2 (.int .i64 er)) 3 (.int .i64 f1), HG.out, HS.out.keep hk⟩, below_set (below_set (pw_below_drewN (below_alloc (below_weaken HB.out HB.out.size HB1.out) _) _) HG.out) HG.out, hk⟩
  · have hb2 : (f2 != 0) = true := bne_iff_ne.mpr h2
    obtain ⟨rfl, rfl, rfl, rfl⟩ : 0 = n ∧ f1 = p ∧ f2 = e ∧ f3 = s := by simpa [readP, h2] using hq
    have hI2 : StripIs w0 w g f0 f1 f2 f3 := ⟨A, c, hb, hg, hS⟩
    clear hb s7 hS
    go_enter Try.func62, Try.ntmps62
    go_wp2
    go_ret
    exact ⟨rfl, hI2, hB, KeepBut.refl _ _ _⟩
theorem LeftOf.reads {W : World} {A B : Option Addr} {l : List Int} {u m k : Nat} (hu : u ≤ l.length) (h : Kd.C (Kd.int .u8) W A l.length l) (hL : LeftOf A l u (.slice B m k)) : m = l.length - u ∧ m ≤ k ∧ Kd.C (Kd.int .u8) W B (l.drop u).length (l.drop u) := by
  obtain ⟨B', k', e, h1, h2⟩ := hL
  injection e with e1 e2 e3
  subst e1; subst e2; subst e3
  refine ⟨rfl, h1, rfl, by have := h.2.1; simp; omega, fun hp => ?_⟩
  have hul : u < l.length := by simp at hp; omega
  rw [h2 hul]
  obtain ⟨ad, rfl, hx⟩ := h.2.2 (by omega)
  refine ⟨ad.add u, rfl, fun j p hj => ?_⟩
  rw [List.getElem?_drop] at hj
  obtain ⟨c2, q1, q2, q3⟩ := hx (u + j) p hj
  refine ⟨c2, q1, q2, fun i v hi => ?_⟩
  rw [add_add', show u + (j * (Kd.int IntKind.u8).sz + i) = (u + j) * (Kd.int IntKind.u8).sz + i by show u + (j * 1 + i) = (u + j) * 1 + i; omega]
  exact q3 i v hi
theorem numL_range : ∀ (l : List Int) (n : Int) (i : Nat), 0 ≤ n → l.all byteB = true → 0 ≤ (numL l n i).1 ∧ (numL l n i).1 < 18446744073709551616
  | [], _, _, _, _ => by simp [numL]
  | c :: t, n, i, hn, hb => by
    have hc : 0 ≤ c ∧ c < 256 := by have := List.all_eq_true.mp hb c (by simp); simpa [byteB] using this
    have ht : t.all byteB = true := by simp at hb ⊢; exact hb.2
    unfold numL
    split
    · simp
    split
    · simp
    split
    · simp; omega
    · exact numL_range t _ _ (by omega) ht
/-- A text, as it is read. -/
def textL (most : Int) (l : List Int) : Int × Nat × Int :=
  if (numL l 0 0).2.2 ≠ 0 then (0, 0, (numL l 0 0).2.2) else if max most 0 < (numL l 0 0).1 then (0, 0, 1) else if ((l.length - (numL l 0 0).2.1 : Nat) : Int) < (numL l 0 0).1 then (0, 0, 3) else ((numL l 0 0).1, (numL l 0 0).2.1 + (numL l 0 0).1.toNat, 0)
/-- The text's bytes. -/
def textS (l : List Int) : List Int := (l.drop (numL l 0 0).2.1).take (numL l 0 0).1.toNat
theorem LeftOf.cut {A B : Option Addr} {l : List Int} {u m k n : Nat} (hL : LeftOf A l u (.slice B m k)) (hn : n ≤ m) (hu : u ≤ l.length) : LeftOf A l (u + n) (.slice (if k = n then B else B.map (·.add n)) (m - n) (k - n)) := by
  obtain ⟨B', k', e, h1, h2⟩ := hL
  injection e with e1 e2 e3
  subst e1; subst e2; subst e3
  refine ⟨_, _, by rw [Nat.sub_add_eq], by omega, fun h => ?_⟩
  rw [if_neg (by omega), h2 (by omega)]
  cases A <;> simp [add_add']
theorem text_ok {W1 : World} {A B : Option Addr} {l : List Int} {u m k : Nat} {n : Int} (hu : u ≤ l.length) (hL : LeftOf A l u (.slice B m k)) (hn0 : 0 ≤ n) (hn : n ≤ ((l.length - u : Nat) : Int)) (h : Kd.C (Kd.int .u8) W1 A l.length l) :
    m = l.length - u ∧ n ≤ (k : Int) ∧ ∀ q, (convert 50 9 (.slice B n.toNat q)).run Try.prog W1 = .ok (.string (strOfNums ((l.drop u).take n.toNat))) W1 := by
  obtain ⟨h1, h2, h3⟩ := LeftOf.reads hu h hL
  have h4 := Kd.C_take (m := n.toNat) h3 (by simp; omega)
  rw [show ((l.drop u).take n.toNat).length = n.toNat by simp; omega] at h4
  exact ⟨h1, by omega, fun q => Kd.C_string Try.underlying50 Try.underlying5 Try.underlying9 h4⟩
set_option maxHeartbeats 400000 in
set_option maxRecDepth 100000 in
theorem text_piece (A : Option Addr) (c : Nat) (l : List Int) (most : Int) (gm go_ : Nat) (S out : ByteArray) (w : World) (B0 : Nat) (hB0 : B0 ≤ go_) (hBw : B0 ≤ w.heap.size) (hr : Kd.C (Kd.int .u8) w A l.length l) (hc : l.length ≤ c) (hl : l.length ≤ 140737488355328) (hb : l.all byteB = true) (hm0 : -9223372036854775808 ≤ most) (hm1 : most < 9223372036854775808)
    (hgm : w.heap[gm]? = some (.cells #[.int .i64 most] 3 (0, 0))) (hgo : w.heap[go_]? = some (.cells #[.string S] 9 (0, 0))) (hout : (textL most l).2.2 = 0 → out = strOfNums (textS l)) (hout2 : ¬ (textL most l).2.2 = 0 → out = S) :
    Calls Try.prog 66 #[.slice A l.length c, .pointer (some ⟨gm, 0, none⟩), .pointer (some ⟨go_, 0, none⟩)] w fun e w' => (∃ v, e = .returned v ∧ PieceIs A l (textL most l) v) ∧ KeepBut w w' go_ none ∧
      w'.heap[go_]? = some (.cells #[.string out] 9 (0, 0)) ∧ Below B0 w w' := by
  obtain ⟨n, u, er, hq⟩ : ∃ n u er, numL l 0 0 = (n, u, er) := ⟨_, _, _, rfl⟩
  have hnr := numL_range l 0 0 (by omega) hb
  have hfit := num_fits l
  rw [hq] at hnr hfit
  obtain ⟨hn0, hn1⟩ := hnr
  dsimp only at hn0 hn1 hfit
  have hT : textL most l = if er ≠ 0 then (0, 0, er) else if max most 0 < n then (0, 0, 1) else if ((l.length - u : Nat) : Int) < n then (0, 0, 3) else (n, u + n.toNat, 0) := by simp only [textL, hq]
  have hTS : textS l = (l.drop u).take n.toNat := by simp only [textS, hq]
  have HT := Aside0.mk hT; have HTS := Aside0.mk hTS; have HR := Aside0.mk hr; have HC := Aside0.mk hc; have HLN := Aside0.mk hl; have HBY := Aside0.mk hb; have HNQ := Aside0.mk hq; have HGM := Aside0.mk hgm; have HGO := Aside0.mk hgo; have HFIT := Aside0.mk hfit
  have HO := Aside0.mk hout; have HO2 := Aside0.mk hout2
  have hlgo := blk_lt hgo
  clear hT hTS hr hc hl hb hq hfit hout hout2 hgm hgo
  have hmx0 : 0 ≤ max most 0 := by omega
  have hmx1 : max most 0 < 9223372036854775808 := by omega
  have hmx : IntKind.u64.wrap (max most 0) = max most 0 := by rw [IntKind.wrap_u64]; omega
  by_cases he : er = 0
  · subst he
    have HFIT2 : Aside0 (u ≤ l.length) := ⟨HFIT.out rfl⟩
    by_cases h1 : max most 0 < n
    · have g1 : decide (max most 0 < n) = true := decide_eq_true h1
      have HQ : Aside0 (textL most l = (0, 0, 1)) := ⟨by rw [HT.out]; simp [h1]⟩
      have hne : ¬ ((0, 0, 1) : Int × Nat × Int).2.2 = 0 := by decide
      obtain rfl : S = out := (HO2.out (by rw [HQ.out]; exact hne)).symm
      go_enter Try.func66, Try.ntmps66
      go_wp2_with (go_at_call 63; refine (number_calls' A c l n u 0 _ (Kd.C_alloc HR.out _) HC.out HLN.out HBY.out HNQ.out).mono ?_; rintro e w1 ⟨⟨B, m, k, rfl, hL⟩, hb⟩; have hz0 := blk_below (blk_new w (.cells #[.int .u64 0, .slice none 0 0, .int .i64 0] 97)) hb; have hB1 : w.heap.size < w1.heap.size := (by have := hb.size; simp at this; omega); obtain ⟨z0, z1, z2, f0, f1, f2⟩ : w1.cell? ⟨w.heap.size, 0, none⟩ = some (.int .u64 0) ∧ w1.cell? ⟨w.heap.size, 1, none⟩ = some (.slice none 0 0) ∧ w1.cell? ⟨w.heap.size, 2, none⟩ = some (.int .i64 0) ∧ w1.frozen? ⟨w.heap.size, 0, none⟩ = false ∧ w1.frozen? ⟨w.heap.size, 1, none⟩ = false ∧ w1.frozen? ⟨w.heap.size, 2, none⟩ = false := ⟨blk_cell hz0 0, blk_cell hz0 1, blk_cell hz0 2, blk_frozen hz0 0, blk_frozen hz0 1, blk_frozen hz0 2⟩; have HL := Aside0.mk hL; have HZ := Aside0.mk hz0; have HB := Aside0.mk hb; have HGO1 := Aside0.mk (blk_below (blk_alloc HGO.out (.cells #[.int .u64 0, .slice none 0 0, .int .i64 0] 97)) hb); have HGM1 := Aside0.mk (blk_below (blk_alloc HGM.out (.cells #[.int .u64 0, .slice none 0 0, .int .i64 0] 97)) hb); obtain ⟨y0, y1, y2, y3⟩ : w1.cell? ⟨gm, 0, none⟩ = some (.int .i64 most) ∧ w1.cell? ⟨go_, 0, none⟩ = some (.string S) ∧ w1.frozen? ⟨go_, 0, none⟩ = false ∧ gm < w1.heap.size := ⟨by simpa using blk_cell HGM1.out 0, by simpa using blk_cell HGO1.out 0, blk_frozen HGO1.out 0, blk_lt HGM1.out⟩; have y4 : go_ < w1.heap.size := blk_lt HGO1.out; have hmv := LeftOf.reads HFIT2.out HR.out (HL.out (by first | rfl | trivial)); have e_m := hmv.1; subst e_m; clear hb hL hz0)
      all_goals refine bodyPost_ret (results_cell_row rfl _ _ w.heap.size 97 _ (0, 0) _ rfl (blk_alloc (three_put HZ.out _ _ _) _) Try.underlying97 rfl (by kernel_rfl)) rfl ?_
      all_goals exact ⟨⟨_, rfl, _, _, _, _, by rw [HQ.out], fun h => absurd h (by rw [HQ.out]; first | exact hne | decide)⟩, keep_alloc (keep_far (keep_far (keep_far (KeepBut.trans (keep_alloc (KeepBut.refl w go_ none) _) (KeepBut.of_below HB.out go_ none) (.inl rfl)) (Nat.le_refl _) _) (Nat.le_refl _) _) (Nat.le_refl _) _) _, blk_alloc (blk_far (blk_far (blk_far HGO1.out (by simp; omega) _) (by simp; omega) _) (by simp; omega) _) _, (three_below (((Below.refl B0 w).alloc hBw (.cells #[.int .u64 0, .slice none 0 0, .int .i64 0] 97)).trans (HB.out.mono (by simp; omega))) hBw _ _ _).alloc (by simp; omega) _⟩
    · have g1 : decide (max most 0 < n) = false := decide_eq_false h1
      have hw2 : IntKind.u64.wrap (((l.length - u : Nat) : Int)) = ((l.length - u : Nat) : Int) := by rw [IntKind.wrap_u64]; have := HLN.out; omega
      by_cases h2 : ((l.length - u : Nat) : Int) < n
      · have g2 : decide (((l.length - u : Nat) : Int) < n) = true := decide_eq_true h2
        have HQ : Aside0 (textL most l = (0, 0, 3)) := ⟨by rw [HT.out]; simp [h1, h2]⟩
        have hne : ¬ ((0, 0, 3) : Int × Nat × Int).2.2 = 0 := by decide
        obtain rfl : S = out := (HO2.out (by rw [HQ.out]; exact hne)).symm
        go_enter Try.func66, Try.ntmps66
        go_wp2_with (go_at_call 63; refine (number_calls' A c l n u 0 _ (Kd.C_alloc HR.out _) HC.out HLN.out HBY.out HNQ.out).mono ?_; rintro e w1 ⟨⟨B, m, k, rfl, hL⟩, hb⟩; have hz0 := blk_below (blk_new w (.cells #[.int .u64 0, .slice none 0 0, .int .i64 0] 97)) hb; have hB1 : w.heap.size < w1.heap.size := (by have := hb.size; simp at this; omega); obtain ⟨z0, z1, z2, f0, f1, f2⟩ : w1.cell? ⟨w.heap.size, 0, none⟩ = some (.int .u64 0) ∧ w1.cell? ⟨w.heap.size, 1, none⟩ = some (.slice none 0 0) ∧ w1.cell? ⟨w.heap.size, 2, none⟩ = some (.int .i64 0) ∧ w1.frozen? ⟨w.heap.size, 0, none⟩ = false ∧ w1.frozen? ⟨w.heap.size, 1, none⟩ = false ∧ w1.frozen? ⟨w.heap.size, 2, none⟩ = false := ⟨blk_cell hz0 0, blk_cell hz0 1, blk_cell hz0 2, blk_frozen hz0 0, blk_frozen hz0 1, blk_frozen hz0 2⟩; have HL := Aside0.mk hL; have HZ := Aside0.mk hz0; have HB := Aside0.mk hb; have HGO1 := Aside0.mk (blk_below (blk_alloc HGO.out (.cells #[.int .u64 0, .slice none 0 0, .int .i64 0] 97)) hb); have HGM1 := Aside0.mk (blk_below (blk_alloc HGM.out (.cells #[.int .u64 0, .slice none 0 0, .int .i64 0] 97)) hb); obtain ⟨y0, y1, y2, y3⟩ : w1.cell? ⟨gm, 0, none⟩ = some (.int .i64 most) ∧ w1.cell? ⟨go_, 0, none⟩ = some (.string S) ∧ w1.frozen? ⟨go_, 0, none⟩ = false ∧ gm < w1.heap.size := ⟨by simpa using blk_cell HGM1.out 0, by simpa using blk_cell HGO1.out 0, blk_frozen HGO1.out 0, blk_lt HGM1.out⟩; have y4 : go_ < w1.heap.size := blk_lt HGO1.out; have hmv := LeftOf.reads HFIT2.out HR.out (HL.out (by first | rfl | trivial)); have e_m := hmv.1; subst e_m; clear hb hL hz0)
        all_goals refine bodyPost_ret (results_cell_row rfl _ _ w.heap.size 97 _ (0, 0) _ rfl (blk_alloc (three_put HZ.out _ _ _) _) Try.underlying97 rfl (by kernel_rfl)) rfl ?_
        all_goals exact ⟨⟨_, rfl, _, _, _, _, by rw [HQ.out], fun h => absurd h (by rw [HQ.out]; first | exact hne | decide)⟩, keep_alloc (keep_far (keep_far (keep_far (KeepBut.trans (keep_alloc (KeepBut.refl w go_ none) _) (KeepBut.of_below HB.out go_ none) (.inl rfl)) (Nat.le_refl _) _) (Nat.le_refl _) _) (Nat.le_refl _) _) _, blk_alloc (blk_far (blk_far (blk_far HGO1.out (by simp; omega) _) (by simp; omega) _) (by simp; omega) _) _, (three_below (((Below.refl B0 w).alloc hBw (.cells #[.int .u64 0, .slice none 0 0, .int .i64 0] 97)).trans (HB.out.mono (by simp; omega))) hBw _ _ _).alloc (by simp; omega) _⟩
      · have g2 : decide (((l.length - u : Nat) : Int) < n) = false := decide_eq_false h2
        have HQ : Aside0 (textL most l = (n, u + n.toNat, 0)) := ⟨by rw [HT.out]; simp [h1, h2]⟩
        obtain rfl : strOfNums ((l.drop u).take n.toNat) = out := by rw [HO.out (by rw [HQ.out]), HTS.out]
        have hn3 : n ≤ ((l.length - u : Nat) : Int) := by omega
        go_enter Try.func66, Try.ntmps66
        go_wp2_with (go_at_call 63; refine (number_calls' A c l n u 0 _ (Kd.C_alloc HR.out _) HC.out HLN.out HBY.out HNQ.out).mono ?_; rintro e w1 ⟨⟨B, m, k, rfl, hL⟩, hb⟩; have hz0 := blk_below (blk_new w (.cells #[.int .u64 0, .slice none 0 0, .int .i64 0] 97)) hb; have hB1 : w.heap.size < w1.heap.size := (by have := hb.size; simp at this; omega); obtain ⟨z0, z1, z2, f0, f1, f2⟩ : w1.cell? ⟨w.heap.size, 0, none⟩ = some (.int .u64 0) ∧ w1.cell? ⟨w.heap.size, 1, none⟩ = some (.slice none 0 0) ∧ w1.cell? ⟨w.heap.size, 2, none⟩ = some (.int .i64 0) ∧ w1.frozen? ⟨w.heap.size, 0, none⟩ = false ∧ w1.frozen? ⟨w.heap.size, 1, none⟩ = false ∧ w1.frozen? ⟨w.heap.size, 2, none⟩ = false := ⟨blk_cell hz0 0, blk_cell hz0 1, blk_cell hz0 2, blk_frozen hz0 0, blk_frozen hz0 1, blk_frozen hz0 2⟩; have HL := Aside0.mk hL; have HZ := Aside0.mk hz0; have HB := Aside0.mk hb; have HGO1 := Aside0.mk (blk_below (blk_alloc HGO.out (.cells #[.int .u64 0, .slice none 0 0, .int .i64 0] 97)) hb); have HGM1 := Aside0.mk (blk_below (blk_alloc HGM.out (.cells #[.int .u64 0, .slice none 0 0, .int .i64 0] 97)) hb); obtain ⟨y0, y1, y2, y3⟩ : w1.cell? ⟨gm, 0, none⟩ = some (.int .i64 most) ∧ w1.cell? ⟨go_, 0, none⟩ = some (.string S) ∧ w1.frozen? ⟨go_, 0, none⟩ = false ∧ gm < w1.heap.size := ⟨by simpa using blk_cell HGM1.out 0, by simpa using blk_cell HGO1.out 0, blk_frozen HGO1.out 0, blk_lt HGM1.out⟩; have y4 : go_ < w1.heap.size := blk_lt HGO1.out; have hL0 := hL (by first | rfl | trivial); have h9 := fun o => text_ok (W1 := (w1.alloc o).drew) (l := l) (A := A) HFIT2.out hL0 hn0 hn3 (Kd.C_drew (Kd.C_alloc (Kd.C_below (Kd.C_alloc HR.out (.cells #[.int .u64 0, .slice none 0 0, .int .i64 0] 97)) hb) o)); have e_m := (h9 (.cells #[] 5)).1; subst e_m; have hk1 := (h9 (.cells #[] 5)).2.1; have hcv := fun o => (h9 o).2.2; clear h9 hL0; clear hb hL hz0)
        all_goals go_region
        all_goals go_wp2
        all_goals refine bodyPost_ret (results_cell_row rfl _ _ w.heap.size 97 _ (0, 0) _ rfl (blk_drew (blk_alloc (three_put (blk_far HZ.out (by simp; omega) _) _ _ _) _)) Try.underlying97 rfl (by kernel_rfl)) rfl ?_
        all_goals exact ⟨⟨_, rfl, _, _, _, _, by rw [HQ.out], fun _ => by rw [HQ.out]; exact ⟨rfl, by simpa [*] using LeftOf.cut (n := n.toNat) (HL.out (by first | rfl | trivial)) (by omega) HFIT2.out⟩⟩, keep_drew (keep_alloc (keep_far (keep_far (keep_far (KeepBut.set_ (KeepBut.trans (keep_alloc (KeepBut.refl w go_ none) _) (KeepBut.of_below HB.out go_ none) (.inl rfl)) 0 _) (Nat.le_refl _) _) (Nat.le_refl _) _) (Nat.le_refl _) _) _), blk_drew (blk_alloc (blk_far (blk_far (blk_far (by simpa using blk_set HGO1.out 0 (.string (strOfNums (List.take n.toNat (List.drop u l))))) (by simp; omega) _) (by simp; omega) _) (by simp; omega) _) _), below_drew1 ((three_below ((((Below.refl B0 w).alloc hBw (.cells #[.int .u64 0, .slice none 0 0, .int .i64 0] 97)).trans (HB.out.mono (by simp; omega))).setCell hB0 _) hBw _ _ _).alloc (by simp; omega) _)⟩
  · have he1 : (er != 0) = true := bne_iff_ne.mpr he
    have HQ : Aside0 (textL most l = (0, 0, er)) := ⟨by rw [HT.out]; simp [he]⟩
    have hne : ¬ ((0, 0, er) : Int × Nat × Int).2.2 = 0 := he
    obtain rfl : S = out := (HO2.out (by rw [HQ.out]; exact hne)).symm
    go_enter Try.func66, Try.ntmps66
    go_wp2_with (go_at_call 63; refine (number_calls' A c l n u er _ (Kd.C_alloc HR.out _) HC.out HLN.out HBY.out HNQ.out).mono ?_; rintro e w1 ⟨⟨B, m, k, rfl, hL⟩, hb⟩; have hz0 := blk_below (blk_new w (.cells #[.int .u64 0, .slice none 0 0, .int .i64 0] 97)) hb; have hB1 : w.heap.size < w1.heap.size := (by have := hb.size; simp at this; omega); obtain ⟨z0, z1, z2, f0, f1, f2⟩ : w1.cell? ⟨w.heap.size, 0, none⟩ = some (.int .u64 0) ∧ w1.cell? ⟨w.heap.size, 1, none⟩ = some (.slice none 0 0) ∧ w1.cell? ⟨w.heap.size, 2, none⟩ = some (.int .i64 0) ∧ w1.frozen? ⟨w.heap.size, 0, none⟩ = false ∧ w1.frozen? ⟨w.heap.size, 1, none⟩ = false ∧ w1.frozen? ⟨w.heap.size, 2, none⟩ = false := ⟨blk_cell hz0 0, blk_cell hz0 1, blk_cell hz0 2, blk_frozen hz0 0, blk_frozen hz0 1, blk_frozen hz0 2⟩; have HL := Aside0.mk hL; have HZ := Aside0.mk hz0; have HB := Aside0.mk hb; have HGO1 := Aside0.mk (blk_below (blk_alloc HGO.out (.cells #[.int .u64 0, .slice none 0 0, .int .i64 0] 97)) hb); have HGM1 := Aside0.mk (blk_below (blk_alloc HGM.out (.cells #[.int .u64 0, .slice none 0 0, .int .i64 0] 97)) hb); obtain ⟨y0, y1, y2, y3⟩ : w1.cell? ⟨gm, 0, none⟩ = some (.int .i64 most) ∧ w1.cell? ⟨go_, 0, none⟩ = some (.string S) ∧ w1.frozen? ⟨go_, 0, none⟩ = false ∧ gm < w1.heap.size := ⟨by simpa using blk_cell HGM1.out 0, by simpa using blk_cell HGO1.out 0, blk_frozen HGO1.out 0, blk_lt HGM1.out⟩; have y4 : go_ < w1.heap.size := blk_lt HGO1.out; clear hb hL hz0)
    all_goals refine bodyPost_ret (results_cell_row rfl _ _ w.heap.size 97 _ (0, 0) _ rfl (blk_alloc (three_put HZ.out _ _ _) _) Try.underlying97 rfl (by kernel_rfl)) rfl ?_
    all_goals exact ⟨⟨_, rfl, _, _, _, _, by rw [HQ.out], fun h => absurd h (by rw [HQ.out]; first | exact hne | decide)⟩, keep_alloc (keep_far (keep_far (keep_far (KeepBut.trans (keep_alloc (KeepBut.refl w go_ none) _) (KeepBut.of_below HB.out go_ none) (.inl rfl)) (Nat.le_refl _) _) (Nat.le_refl _) _) (Nat.le_refl _) _) _, blk_alloc (blk_far (blk_far (blk_far HGO1.out (by simp; omega) _) (by simp; omega) _) (by simp; omega) _) _, (three_below (((Below.refl B0 w).alloc hBw (.cells #[.int .u64 0, .slice none 0 0, .int .i64 0] 97)).trans (HB.out.mono (by simp; omega))) hBw _ _ _).alloc (by simp; omega) _⟩
theorem text_fits (most : Int) (l : List Int) {v : Int} {u : Nat} {er : Int} (h : textL most l = (v, u, er)) (hb : l.all byteB = true) : er = 0 → u ≤ l.length := by
  intro he
  have hn := num_fits l
  have hr := numL_range l 0 0 (by omega) hb
  simp only [textL] at h
  generalize numL l 0 0 = q at hn h hr
  obtain ⟨n, u', er'⟩ := q
  dsimp only at hn h hr
  by_cases h2 : er' ≠ 0
  · rw [if_pos h2] at h; simp at h; omega
  rw [if_neg h2] at h
  by_cases h3 : max most 0 < n
  · rw [if_pos h3] at h; simp at h; omega
  rw [if_neg h3] at h
  by_cases h4 : ((l.length - u' : Nat) : Int) < n
  · rw [if_pos h4] at h; simp at h; omega
  rw [if_neg h4] at h
  simp at h
  have := hn (by simpa using h2)
  omega
theorem StripAt.keep2 {W W1 : World} {g go_ : Nat} {f0 : List Int} {f1 : Int} {A : Option Addr} {c : Nat} {cs : Array Value} (h : StripAt W g f0 f1 A c) (ho : W.heap[go_]? = some (.cells cs 9 (0, 0))) (hk : KeepBut W W1 g (some go_)) : StripAt W1 g f0 f1 A c :=
  h.step (fun k ⟨cells, hc⟩ hn => hk.2 k (blk_lt hc) hn (fun e => by injection e with e; subst e; rw [ho] at hc; simp at hc)) hk.1
theorem KeepBut.swap {w w1 : World} {g go_ : Nat} (h : KeepBut w w1 go_ none) : KeepBut w w1 g (some go_) := ⟨h.1, fun i hi _ hn => h.2 i hi (fun e => hn (by rw [e])) (by simp)⟩
theorem keep_alloc' {w W : World} {g : Nat} {row : Option Nat} (h : KeepBut w W g row) (o : Obj) : KeepBut w (W.alloc o) g row :=
  ⟨Nat.le_trans h.1 (by simp), fun i hi h1 h2 => (Below.heap_alloc W o i (Nat.lt_of_lt_of_le hi h.1)).trans (h.2 i hi h1 h2)⟩
set_option maxHeartbeats 400000 in
set_option maxRecDepth 100000 in
theorem read_text (g : Nat) (f0 : List Int) (f1 f2 f3 : Int) (most : Int) (gm go_ : Nat) (S out : ByteArray) (w0 w : World) (hI : StripIs w0 w g f0 f1 f2 f3) (hB : Below w0.heap.size w0 w) (hm0 : -9223372036854775808 ≤ most) (hm1 : most < 9223372036854775808)
    (hgm : w.heap[gm]? = some (.cells #[.int .i64 most] 3 (0, 0))) (hgo : w.heap[go_]? = some (.cells #[.string S] 9 (0, 0))) (hgo0 : w0.heap.size ≤ go_) (n p e s : Int) (hq : readP (textL most) f0 f1 f2 f3 = (n, p, e, s))
    (hout : out = if f2 = 0 ∧ (textL most (f0.drop f1.toNat)).2.2 = 0 then strOfNums (textS (f0.drop f1.toNat)) else S) :
    Calls Try.prog 62 #[.pointer (some ⟨g, 0, none⟩), .func (.func 66) #[] #[.pointer (some ⟨gm, 0, none⟩), .pointer (some ⟨go_, 0, none⟩)]] w fun e' w' => e' = .returned (.int .u64 n) ∧ StripIs w0 w' g f0 p e s ∧ Below w0.heap.size w0 w' ∧ KeepBut w w' g (some go_) ∧ w'.heap[go_]? = some (.cells #[.string out] 9 (0, 0)) := by
  obtain ⟨A, c, hb, hg, hS⟩ := hI
  have s3 := hS.2.2.1
  have s7 := hS.2.2.2.2.2.2
  have c0 := blk_cell hb 0
  have c2 := blk_cell hb 2
  simp at c0 c2
  have hlen : (f0.drop f1.toNat).length = f0.length - f1.toNat := by simp
  have hne : g ≠ go_ := by rintro rfl; rw [hb] at hgo; simp at hgo
  by_cases h2 : f2 = 0
  · subst h2
    obtain ⟨v, u, er, hv⟩ : ∃ v u er, textL most (f0.drop f1.toNat) = (v, u, er) := ⟨_, _, _, rfl⟩
    have hfit : er = 0 → u ≤ (f0.drop f1.toNat).length := text_fits most _ hv (List.all_eq_true.mpr fun x hx => List.all_eq_true.mp hS.2.2.2.1 x (List.mem_of_mem_drop hx))
    have HP : Aside0 (∀ W, W.heap[gm]? = some (.cells #[.int .i64 most] 3 (0, 0)) → W.heap[go_]? = some (.cells #[.string S] 9 (0, 0)) → Kd.C (Kd.int .u8) W A (f0.length - f1.toNat) (f0.drop f1.toNat) → Calls Try.prog 66 #[.slice A (f0.length - f1.toNat) c, .pointer (some ⟨gm, 0, none⟩), .pointer (some ⟨go_, 0, none⟩)] W fun e w' => (∃ n B m k, e = .returned (.agg #[.int .u64 n, .slice B m k, .int .i64 er]) ∧ (er = 0 → n = v ∧ LeftOf A (f0.drop f1.toNat) u (.slice B m k))) ∧ KeepBut W w' go_ none ∧ w'.heap[go_]? = some (.cells #[.string out] 9 (0, 0)) ∧ (w0.heap.size ≤ W.heap.size → Below w0.heap.size W w')) := ⟨by
      intro W h1 h2 h
      have := text_piece A c (f0.drop f1.toNat) most gm go_ S out W (min w0.heap.size W.heap.size) (by omega) (by omega) (by rw [hlen]; exact h) (by rw [hlen]; exact hS.2.2.2.2.1) (by omega) (List.all_eq_true.mpr fun x hx => List.all_eq_true.mp hS.2.2.2.1 x (List.mem_of_mem_drop hx)) hm0 hm1 h1 h2 (fun h => by rw [hout, if_pos ⟨rfl, h⟩]) (fun h => by rw [hout, if_neg (fun x => h x.2)])
      rw [hlen] at this
      refine this.mono ?_
      rintro e w' ⟨⟨q, h1, n, B, m, k, h2, h3⟩, hb⟩
      subst h1; subst h2
      rw [hv] at h3 ⊢
      exact ⟨⟨n, B, m, k, rfl, h3⟩, hb.1, hb.2.1, fun hle => by have := hb.2.2; rwa [Nat.min_eq_left hle] at this⟩⟩
    have hq2 : (if er ≠ 0 then ((0 : Int), f1, er, f1) else (v, f1 + (u : Int), 0, f3)) = (n, p, e, s) := by
      rw [← hq]; simp [readP, hv]
    have HFIT := Aside0.mk hfit
    have HS := Aside0.mk hS; have HG := Aside0.mk hg; have HB := Aside0.mk hB; have HBL := Aside0.mk hb; have H7 := Aside0.mk s7; have HGM := Aside0.mk hgm; have HGO := Aside0.mk hgo
    clear hS s7 hg hB hb hq hv s3 hfit hout hgm hgo
    by_cases he : er = 0
    · subst he
      obtain ⟨rfl, rfl, rfl, rfl⟩ : v = n ∧ f1 + (u : Int) = p ∧ 0 = e ∧ f3 = s := by simpa using hq2
      clear hq2
      go_enter Try.func62, Try.ntmps62
      go_wp2_with (go_at_call 66; refine (HP.out _ HGM.out HGO.out H7.out).mono ?_; rintro e w1 ⟨⟨n, B, m, k, rfl, hL⟩, hk1, hgo1, hbb⟩; obtain ⟨rfl, hL⟩ := hL rfl; have hb2 := KeepBut.blk hk1 HBL.out hne (by simp); obtain ⟨c0', f0'⟩ : (∀ o, (w1.alloc o).cell? ⟨g, 0, none⟩ = some (.slice A (f0.length - f1.toNat) c)) ∧ (∀ o, (w1.alloc o).frozen? ⟨g, 0, none⟩ = false) := ⟨fun o => by simpa using blk_cell (blk_alloc hb2 o) 0, fun o => blk_frozen (blk_alloc hb2 o) 0⟩; have c0'' : w1.cell? ⟨g, 0, none⟩ = some (.slice A (f0.length - f1.toNat) c) := (by simpa using blk_cell hb2 0); have f0'' : w1.frozen? ⟨g, 0, none⟩ = false := blk_frozen hb2 0; have hlt1 := blk_lt hb2; have HB2 := Aside0.mk hb2; have HK1 := Aside0.mk hk1; have HB1 := Aside0.mk (below_weaken HB.out (Nat.le_refl _) (hbb HB.out.size)); have HL := Aside0.mk hL; have HGO1 := Aside0.mk hgo1; clear hk1 hb2 hL hgo1 hbb)
      go_ret
      obtain ⟨B', k', eL, hS'⟩ := StripAt.read HS.out (by have := HFIT.out trivial; omega) (HL.out trivial).2
      injection eL with e1 e2 e3
      subst e1; subst e2; subst e3
      have hk : KeepBut w ((w1.setCell ⟨g, 0, none⟩ (.slice B (f0.length - (f1 + (u : Int)).toNat) k)).alloc (.cells #[.int .u64 n, .slice B (f0.length - (f1 + (u : Int)).toNat) k, .int .i64 0] 97)) g (some go_) := keep_alloc' (KeepBut.set_ (KeepBut.swap HK1.out) 0 _) _
      exact ⟨rfl, ⟨B, k, blk_alloc (by simpa using blk_set HB2.out 0 (.slice B (f0.length - (f1 + (u : Int)).toNat) k)) _, HG.out, hS'.keep2 HGO.out hk⟩, below_alloc (below_set HB1.out HG.out) _, hk, blk_alloc (blk_far HGO1.out (Ne.symm hne) _) _⟩
    · have he1 : (er != 0) = true := bne_iff_ne.mpr he
      obtain ⟨rfl, rfl, rfl, rfl⟩ : 0 = n ∧ f1 = p ∧ er = e ∧ f1 = s := by simpa [he] using hq2
      clear hq2
      go_enter Try.func62, Try.ntmps62
      go_wp2_with (go_at_call 66; refine (HP.out _ HGM.out HGO.out H7.out).mono ?_; rintro e w1 ⟨⟨n, B, m, k, rfl, hL⟩, hk1, hgo1, hbb⟩; have hb2 := KeepBut.blk hk1 HBL.out hne (by simp); have hlt1 := blk_lt hb2; have HB2 := Aside0.mk hb2; have HK1 := Aside0.mk hk1; have HB1 := Aside0.mk (below_weaken HB.out (Nat.le_refl _) (hbb HB.out.size)); have HGO1 := Aside0.mk hgo1; clear hk1 hb2 hL hgo1 hbb)
      have hI5 : ∀ o, StripIs w0 (w1.alloc o).drew g f0 f1 0 f3 := fun o => ⟨A, c, blk_drew (blk_alloc HB2.out o), HG.out, HS.out.keep2 HGO.out (keep_drew (keep_alloc' (KeepBut.swap HK1.out) o))⟩
      have HI5 := Aside0.mk hI5
      clear hI5
      obtain ⟨c2', f2', c3', f3'⟩ : w1.cell? ⟨g, 2, none⟩ = some (.int .i64 0) ∧ w1.frozen? ⟨g, 2, none⟩ = false ∧ w1.cell? ⟨g, 3, none⟩ = some (.int .i64 f3) ∧ w1.frozen? ⟨g, 3, none⟩ = false := ⟨by simpa using blk_cell HB2.out 2, blk_frozen HB2.out 2, by simpa using blk_cell HB2.out 3, blk_frozen HB2.out 3⟩
      go_region_with (go_at_call 35; refine (where_calls g f0 f1 0 f3 w0 _ (HI5.out _)).mono ?_; rintro e w2 ⟨rfl, ⟨nd, rfl⟩⟩)
      all_goals go_wp2
      all_goals go_ret
      all_goals
        have hk := KeepBut.set_ (KeepBut.set_ (keep_drewN (keep_alloc' (KeepBut.swap (g := g) HK1.out) (.cells #[.int .u64 n, .slice B m k, .int .i64 er] 97)) (1 + nd)) 2 (.int .i64 er)) 3 (.int .i64 f1)
        exact ⟨rfl, ⟨A, c, by simpa using blk_set (blk_set (blk_drewN (blk_alloc HB2.out (.cells #[.int .u64 n, .slice B m k, .int .i64 er] 97)) (1 + nd)) 2 (.int .i64 er)) 3 (.int .i64 f1), HG.out, HS.out.keep2 HGO.out hk⟩, below_set (below_set (pw_below_drewN (below_alloc HB1.out _) _) HG.out) HG.out, hk, blk_far (blk_far (blk_drewN (blk_alloc HGO1.out _) _) (Ne.symm hne) _) (Ne.symm hne) _⟩
  · have hb2 : (f2 != 0) = true := bne_iff_ne.mpr h2
    obtain ⟨rfl, rfl, rfl, rfl⟩ : 0 = n ∧ f1 = p ∧ f2 = e ∧ f3 = s := by simpa [readP, h2] using hq
    have hI2 : StripIs w0 w g f0 f1 f2 f3 := ⟨A, c, hb, hg, hS⟩
    obtain rfl : S = out := by rw [hout, if_neg (fun x => h2 x.1)]
    clear hb s7 hS hout
    go_enter Try.func62, Try.ntmps62
    go_wp2
    go_ret
    exact ⟨rfl, hI2, hB, KeepBut.refl _ _ _, hgo⟩
theorem StripIs.alloc {w0 W : World} {g : Nat} {f0 : List Int} {f1 f2 f3 : Int} (h : StripIs w0 W g f0 f1 f2 f3) (o : Obj) : StripIs w0 (W.alloc o) g f0 f1 f2 f3 := by
  obtain ⟨A, c, hb, hg, hS⟩ := h
  exact ⟨A, c, blk_alloc hb o, hg, hS.keep (keep_alloc (KeepBut.refl W g none) o)⟩
theorem StripIs.far9 {w0 W : World} {g b j : Nat} {f0 : List Int} {f1 f2 f3 : Int} {cs : Array Value} (h : StripIs w0 W g f0 f1 f2 f3) (ho : W.heap[b]? = some (.cells cs 9 (0, 0))) (u : Value) : StripIs w0 (W.setCell ⟨b, j, none⟩ u) g f0 f1 f2 f3 := by
  obtain ⟨A, c, hb, hg, hS⟩ := h
  have hne : g ≠ b := by rintro rfl; rw [hb] at ho; simp at ho
  refine ⟨A, c, blk_far hb hne u, hg, hS.step (fun k ⟨cells, hc⟩ hn => Below.heap_setCell W _ u k ?_) (by simp)⟩
  rintro rfl
  rw [ho] at hc; simp at hc
theorem keep_two {w w1 : World} {g : Nat} {o1 o2 : Obj} (h : KeepBut ((w.alloc o1).alloc o2) w1 g (some (w.heap.size + 1))) : KeepBut w w1 g none := by
  refine ⟨by have := h.1; simp at this; omega, fun i hi hn _ => ?_⟩
  rw [h.2 i (by simp; omega) hn (by simp; omega), Below.heap_alloc _ o2 i (by simp; omega), Below.heap_alloc w o1 i hi]
def stripText_f (s0_0 : List Int) (s0_1 s0_2 s0_3 : Int) (a1 : Int) : Option (ByteArray × Int × Int × Int) :=
  if -9223372036854775808 ≤ a1 ∧ a1 < 9223372036854775808 then some ((if s0_2 = 0 ∧ (textL a1 (s0_0.drop s0_1.toNat)).2.2 = 0 then strOfNums (textS (s0_0.drop s0_1.toNat)) else (⟨#[]⟩ : ByteArray)), (readP (textL a1) s0_0 s0_1 s0_2 s0_3).2) else none
set_option maxHeartbeats 400000 in
set_option maxRecDepth 100000 in
theorem stripText_calls (g : Nat) (s0_0 : List Int) (s0_1 s0_2 s0_3 : Int) (a1 : Int) (r1 : ByteArray) (r2 r3 r4 : Int) (w0 w : World) (hI : StripIs w0 w g s0_0 s0_1 s0_2 s0_3) (hB : Below w0.heap.size w0 w) (h : stripText_f s0_0 s0_1 s0_2 s0_3 a1 = some (r1, r2, r3, r4)) :
    Calls Try.prog 44 #[.pointer (some ⟨g, 0, none⟩), .int .i64 a1] w fun e w' => e = .returned (.string r1) ∧ StripIs w0 w' g s0_0 r2 r3 r4 ∧ Below w0.heap.size w0 w' ∧ KeepBut w w' g none := by
  unfold stripText_f at h
  by_cases ha : -9223372036854775808 ≤ a1 ∧ a1 < 9223372036854775808
  case neg => rw [if_neg ha] at h; cases h
  rw [if_pos ha] at h
  obtain ⟨n, p, e, s, hq⟩ : ∃ n p e s, readP (textL a1) s0_0 s0_1 s0_2 s0_3 = (n, p, e, s) := ⟨_, _, _, _, rfl⟩
  rw [hq] at h
  simp only [Option.some.injEq, Prod.mk.injEq] at h
  obtain ⟨ho, rfl, rfl, rfl⟩ := h
  have HI := Aside0.mk hI; have HB := Aside0.mk hB; have HQ := Aside0.mk hq; have HO := Aside0.mk ho; have HA := Aside0.mk ha
  have hlt : g < w.heap.size := by obtain ⟨A, c, hb, _⟩ := hI; exact blk_lt hb
  have HG0 := Aside0.mk hB.size
  clear hI hB hq ho ha
  go_enter Try.func44, Try.ntmps44
  go_wp2_with (go_at_call 62; refine (read_text g s0_0 s0_1 s0_2 s0_3 a1 w.heap.size (w.heap.size + 1) (⟨#[]⟩ : ByteArray) r1 w0 _ ((HI.out.alloc _).alloc _) (below_alloc (below_alloc HB.out _) _) HA.out.1 HA.out.2 (blk_alloc (blk_new w _) _) (by simpa using blk_new (w.alloc (.cells #[.int .i64 a1] 3)) (.cells #[.string (⟨#[]⟩ : ByteArray)] 9)) (by have := HG0.out; omega) n p e s HQ.out HO.out.symm).mono ?_; rintro e w1 ⟨rfl, hi, hb, hk, ho⟩; obtain ⟨y0, y1⟩ : w1.cell? ⟨w.heap.size + 1, 0, none⟩ = some (.string r1) ∧ w1.frozen? ⟨w.heap.size + 1, 0, none⟩ = false := ⟨by simpa using blk_cell ho 0, blk_frozen ho 0⟩; have HI1 := Aside0.mk hi; have HB1 := Aside0.mk hb; have HK1 := Aside0.mk hk; have HO1 := Aside0.mk ho; clear hi hb hk ho)
  have hc := blk_cell (blk_set HO1.out 0 (.string r1)) 0
  have hc2 : (w1.setCell ⟨w.heap.size + 1, 0, none⟩ (.string r1)).cell? ⟨w.heap.size + 1, 0, none⟩ = some (.string r1) := by simpa using hc
  refine bodyPost_ret (v := .string r1) (by simp [results, Try.results44, go_sem, hc2]) rfl ?_
  exact ⟨rfl, HI1.out.far9 HO1.out _, below_set HB1.out (by have := HG0.out; omega), keep_far (keep_two HK1.out) (by simp) _⟩
def stripNumber_f (s0_0 : List Int) (s0_1 s0_2 s0_3 : Int) : Option (Int × Int × Int × Int) := some ((readP (fun l => numL l 0 0) s0_0 s0_1 s0_2 s0_3).1, (readP (fun l => numL l 0 0) s0_0 s0_1 s0_2 s0_3).2)
set_option maxHeartbeats 400000 in
set_option maxRecDepth 100000 in
theorem stripNumber_calls (g : Nat) (s0_0 : List Int) (s0_1 s0_2 s0_3 : Int) (r1 r2 r3 r4 : Int) (w0 w : World) (hI : StripIs w0 w g s0_0 s0_1 s0_2 s0_3) (hB : Below w0.heap.size w0 w) (h : stripNumber_f s0_0 s0_1 s0_2 s0_3 = some (r1, r2, r3, r4)) :
    Calls Try.prog 31 #[.pointer (some ⟨g, 0, none⟩)] w fun e w' => e = .returned (.int .u64 r1) ∧ StripIs w0 w' g s0_0 r2 r3 r4 ∧ Below w0.heap.size w0 w' ∧ KeepBut w w' g none := by
  unfold stripNumber_f at h
  obtain ⟨n, p, e, s, hq⟩ : ∃ n p e s, readP (fun l => numL l 0 0) s0_0 s0_1 s0_2 s0_3 = (n, p, e, s) := ⟨_, _, _, _, rfl⟩
  rw [hq] at h
  simp only [Option.some.injEq, Prod.mk.injEq] at h
  obtain ⟨rfl, rfl, rfl, rfl⟩ := h
  have HI := Aside0.mk hI; have HB := Aside0.mk hB; have HQ := Aside0.mk hq
  clear hI hB hq
  go_enter Try.func31, Try.ntmps31
  go_wp2_with (go_at_call 62; refine (read_number g s0_0 s0_1 s0_2 s0_3 w0 _ HI.out HB.out n p e s HQ.out).mono ?_; rintro e w1 ⟨rfl, hi, hb, hk⟩; have HI1 := Aside0.mk hi; have HB1 := Aside0.mk hb; have HK1 := Aside0.mk hk; clear hi hb hk)
  go_ret
  exact ⟨by first | rfl | simp, HI1.out, HB1.out, HK1.out⟩
def stripSigned_f (s0_0 : List Int) (s0_1 s0_2 s0_3 : Int) : Option (Int × Int × Int × Int) := some (wrap64 (readP sigL s0_0 s0_1 s0_2 s0_3).1, (readP sigL s0_0 s0_1 s0_2 s0_3).2)
set_option maxHeartbeats 400000 in
set_option maxRecDepth 100000 in
theorem stripSigned_calls (g : Nat) (s0_0 : List Int) (s0_1 s0_2 s0_3 : Int) (r1 r2 r3 r4 : Int) (w0 w : World) (hI : StripIs w0 w g s0_0 s0_1 s0_2 s0_3) (hB : Below w0.heap.size w0 w) (h : stripSigned_f s0_0 s0_1 s0_2 s0_3 = some (r1, r2, r3, r4)) :
    Calls Try.prog 33 #[.pointer (some ⟨g, 0, none⟩)] w fun e w' => e = .returned (.int .i64 r1) ∧ StripIs w0 w' g s0_0 r2 r3 r4 ∧ Below w0.heap.size w0 w' ∧ KeepBut w w' g none := by
  unfold stripSigned_f at h
  obtain ⟨n, p, e, s, hq⟩ : ∃ n p e s, readP sigL s0_0 s0_1 s0_2 s0_3 = (n, p, e, s) := ⟨_, _, _, _, rfl⟩
  rw [hq] at h
  simp only [Option.some.injEq, Prod.mk.injEq] at h
  obtain ⟨rfl, rfl, rfl, rfl⟩ := h
  have HI := Aside0.mk hI; have HB := Aside0.mk hB; have HQ := Aside0.mk hq
  clear hI hB hq
  go_enter Try.func33, Try.ntmps33
  go_wp2_with (go_at_call 62; refine (read_signed g s0_0 s0_1 s0_2 s0_3 w0 _ HI.out HB.out n p e s HQ.out).mono ?_; rintro e w1 ⟨rfl, hi, hb, hk⟩; have HI1 := Aside0.mk hi; have HB1 := Aside0.mk hb; have HK1 := Aside0.mk hk; clear hi hb hk)
  go_ret
  exact ⟨by first | rfl | simp, HI1.out, HB1.out, HK1.out⟩
def stripOne_f (s0_0 : List Int) (s0_1 s0_2 s0_3 : Int) : Option (Int × Int × Int × Int) := some ((readP oneL s0_0 s0_1 s0_2 s0_3).1 % 256, (readP oneL s0_0 s0_1 s0_2 s0_3).2)
set_option maxHeartbeats 400000 in
set_option maxRecDepth 100000 in
theorem stripOne_calls (g : Nat) (s0_0 : List Int) (s0_1 s0_2 s0_3 : Int) (r1 r2 r3 r4 : Int) (w0 w : World) (hI : StripIs w0 w g s0_0 s0_1 s0_2 s0_3) (hB : Below w0.heap.size w0 w) (h : stripOne_f s0_0 s0_1 s0_2 s0_3 = some (r1, r2, r3, r4)) :
    Calls Try.prog 46 #[.pointer (some ⟨g, 0, none⟩)] w fun e w' => e = .returned (.int .u8 r1) ∧ StripIs w0 w' g s0_0 r2 r3 r4 ∧ Below w0.heap.size w0 w' ∧ KeepBut w w' g none := by
  unfold stripOne_f at h
  obtain ⟨n, p, e, s, hq⟩ : ∃ n p e s, readP oneL s0_0 s0_1 s0_2 s0_3 = (n, p, e, s) := ⟨_, _, _, _, rfl⟩
  rw [hq] at h
  simp only [Option.some.injEq, Prod.mk.injEq] at h
  obtain ⟨rfl, rfl, rfl, rfl⟩ := h
  have HI := Aside0.mk hI; have HB := Aside0.mk hB; have HQ := Aside0.mk hq
  clear hI hB hq
  go_enter Try.func46, Try.ntmps46
  go_wp2_with (go_at_call 62; refine (read_one g s0_0 s0_1 s0_2 s0_3 w0 _ HI.out HB.out n p e s HQ.out).mono ?_; rintro e w1 ⟨rfl, hi, hb, hk⟩; have HI1 := Aside0.mk hi; have HB1 := Aside0.mk hb; have HK1 := Aside0.mk hk; clear hi hb hk)
  go_ret
  exact ⟨by first | rfl | simp, HI1.out, HB1.out, HK1.out⟩
theorem StripIs.drewN {w0 W : World} {g : Nat} {f0 : List Int} {f1 f2 f3 : Int} (h : StripIs w0 W g f0 f1 f2 f3) (m : Nat) : StripIs w0 (W.drewN m) g f0 f1 f2 f3 := h
def stripWhere_f (s0_0 : List Int) (s0_1 s0_2 s0_3 : Int) : Option (Int × Int × Int × Int) := some (s0_1, s0_1, s0_2, s0_3)
theorem stripWhere_calls (g : Nat) (s0_0 : List Int) (s0_1 s0_2 s0_3 : Int) (r1 r2 r3 r4 : Int) (w0 w : World) (hI : StripIs w0 w g s0_0 s0_1 s0_2 s0_3) (hB : Below w0.heap.size w0 w) (h : stripWhere_f s0_0 s0_1 s0_2 s0_3 = some (r1, r2, r3, r4)) :
    Calls Try.prog 35 #[.pointer (some ⟨g, 0, none⟩)] w fun e w' => e = .returned (.int .i64 r1) ∧ StripIs w0 w' g s0_0 r2 r3 r4 ∧ Below w0.heap.size w0 w' ∧ KeepBut w w' g none := by
  simp only [stripWhere_f, Option.some.injEq, Prod.mk.injEq] at h
  obtain ⟨rfl, rfl, rfl, rfl⟩ := h
  refine (where_calls g s0_0 s0_1 s0_2 s0_3 w0 w hI).mono ?_
  rintro e w' ⟨rfl, ⟨nd, rfl⟩⟩
  exact ⟨rfl, hI, pw_below_drewN hB nd, keep_drewN (KeepBut.refl _ _ _) nd⟩
theorem bad_calls (g : Nat) (f0 : List Int) (f1 f2 f3 : Int) (w0 w : World) (hI : StripIs w0 w g f0 f1 f2 f3) :
    Calls Try.prog 32 #[.pointer (some ⟨g, 0, none⟩)] w fun e w' => e = .returned (.tuple #[.int .i64 f2, .int .i64 f3]) ∧ Drawn0 w w' := by
  obtain ⟨A, c, hb, _, _⟩ := hI
  have c2 := blk_cell hb 2
  have c3 := blk_cell hb 3
  simp at c2 c3
  clear hb
  go_enter Try.func32, Try.ntmps32
  go_wp2
  go_quiet (fail)
  go_wp2
  go_ret2
  exact ⟨rfl, by repeat (first | exact Drawn0.refl _ | apply Drawn0.step)⟩
theorem more_calls (g : Nat) (f0 : List Int) (f1 f2 f3 : Int) (w0 w : World) (hI : StripIs w0 w g f0 f1 f2 f3) :
    Calls Try.prog 47 #[.pointer (some ⟨g, 0, none⟩)] w fun e w' => e = .returned (.int .i64 ((f0.length - f1.toNat : Nat) : Int)) ∧ Drawn0 w w' := by
  obtain ⟨A, c, hb, _, _⟩ := hI
  have c0 := blk_cell hb 0
  simp at c0
  clear hb
  go_enter Try.func47, Try.ntmps47
  go_wp2
  go_ret
  exact ⟨rfl, by repeat (first | exact Drawn0.refl _ | apply Drawn0.step)⟩
def stripBad_f (s0_0 : List Int) (s0_1 s0_2 s0_3 : Int) : Option (Int × Int × Int × Int × Int) := some (s0_2, s0_3, s0_1, s0_2, s0_3)
theorem stripBad_calls (g : Nat) (s0_0 : List Int) (s0_1 s0_2 s0_3 : Int) (r1 r2 r3 r4 r5 : Int) (w0 w : World) (hI : StripIs w0 w g s0_0 s0_1 s0_2 s0_3) (hB : Below w0.heap.size w0 w) (h : stripBad_f s0_0 s0_1 s0_2 s0_3 = some (r1, r2, r3, r4, r5)) :
    Calls Try.prog 32 #[.pointer (some ⟨g, 0, none⟩)] w fun e w' => e = .returned (.tuple #[.int .i64 r1, .int .i64 r2]) ∧ StripIs w0 w' g s0_0 r3 r4 r5 ∧ Below w0.heap.size w0 w' ∧ KeepBut w w' g none := by
  simp only [stripBad_f, Option.some.injEq, Prod.mk.injEq] at h
  obtain ⟨rfl, rfl, rfl, rfl, rfl⟩ := h
  refine (bad_calls g s0_0 s0_1 s0_2 s0_3 w0 w hI).mono ?_
  rintro e w' ⟨rfl, ⟨nd, rfl⟩⟩
  exact ⟨rfl, hI, pw_below_drewN hB nd, keep_drewN (KeepBut.refl _ _ _) nd⟩
def stripMore_f (s0_0 : List Int) (s0_1 s0_2 s0_3 : Int) : Option (Int × Int × Int × Int) := some (((s0_0.length - s0_1.toNat : Nat) : Int), s0_1, s0_2, s0_3)
theorem stripMore_calls (g : Nat) (s0_0 : List Int) (s0_1 s0_2 s0_3 : Int) (r1 r2 r3 r4 : Int) (w0 w : World) (hI : StripIs w0 w g s0_0 s0_1 s0_2 s0_3) (hB : Below w0.heap.size w0 w) (h : stripMore_f s0_0 s0_1 s0_2 s0_3 = some (r1, r2, r3, r4)) :
    Calls Try.prog 47 #[.pointer (some ⟨g, 0, none⟩)] w fun e w' => e = .returned (.int .i64 r1) ∧ StripIs w0 w' g s0_0 r2 r3 r4 ∧ Below w0.heap.size w0 w' ∧ KeepBut w w' g none := by
  simp only [stripMore_f, Option.some.injEq, Prod.mk.injEq] at h
  obtain ⟨rfl, rfl, rfl, rfl⟩ := h
  refine (more_calls g s0_0 s0_1 s0_2 s0_3 w0 w hI).mono ?_
  rintro e w' ⟨rfl, ⟨nd, rfl⟩⟩
  exact ⟨rfl, hI, pw_below_drewN hB nd, keep_drewN (KeepBut.refl _ _ _) nd⟩
def overP (f0 : List Int) (f1 f2 : Int) : Int := if f2 = 0 ∧ 0 < ((f0.length - f1.toNat : Nat) : Int) then 4 else f2
set_option maxHeartbeats 400000 in
set_option maxRecDepth 100000 in
theorem over_calls (g : Nat) (f0 : List Int) (f1 f2 f3 : Int) (w0 w : World) (hI : StripIs w0 w g f0 f1 f2 f3) :
    Calls Try.prog 45 #[.pointer (some ⟨g, 0, none⟩)] w fun e w' => e = .returned (.int .i64 (overP f0 f1 f2)) ∧ Drawn0 w w' := by
  have HI := Aside0.mk hI
  clear hI
  by_cases h2 : f2 = 0
  · have b2 : (f2 == 0) = true := beq_iff_eq.mpr h2
    by_cases h3 : 0 < f0.length - f1.toNat
    · have b3 : decide (0 < f0.length - f1.toNat) = true := decide_eq_true h3
      have hO : overP f0 f1 f2 = 4 := if_pos ⟨h2, by omega⟩
      rw [hO]
      clear h2 h3 hO
      go_enter Try.func45, Try.ntmps45
      go_wp2_with (first | (go_at_call 32; refine (bad_calls g f0 f1 f2 f3 w0 _ HI.out).mono ?_; rintro e w1 ⟨rfl, ⟨nd, rfl⟩⟩) | (go_at_call 47; refine (more_calls g f0 f1 f2 f3 w0 _ (HI.out.drewN _)).mono ?_; rintro e w1 ⟨rfl, ⟨nd2, rfl⟩⟩))
      go_ret
      exact ⟨rfl, by repeat (first | exact Drawn0.refl _ | apply Drawn0.step | exact ⟨_, rfl⟩)⟩
    · have b3 : decide (0 < f0.length - f1.toNat) = false := decide_eq_false h3
      have hO : overP f0 f1 f2 = f2 := if_neg (fun h => h3 (by omega))
      rw [hO]
      clear h2 h3 hO
      go_enter Try.func45, Try.ntmps45
      go_wp2_with (first | (go_at_call 32; refine (bad_calls g f0 f1 f2 f3 w0 _ HI.out).mono ?_; rintro e w1 ⟨rfl, ⟨nd, rfl⟩⟩) | (go_at_call 47; refine (more_calls g f0 f1 f2 f3 w0 _ (HI.out.drewN _)).mono ?_; rintro e w1 ⟨rfl, ⟨nd2, rfl⟩⟩))
      go_ret
      exact ⟨rfl, by repeat (first | exact Drawn0.refl _ | apply Drawn0.step | exact ⟨_, rfl⟩)⟩
  · have b2 : (f2 == 0) = false := beq_eq_false_iff_ne.mpr h2
    have hO : overP f0 f1 f2 = f2 := if_neg (fun h => h2 h.1)
    rw [hO]
    clear h2 hO
    go_enter Try.func45, Try.ntmps45
    go_wp2_with (first | (go_at_call 32; refine (bad_calls g f0 f1 f2 f3 w0 _ HI.out).mono ?_; rintro e w1 ⟨rfl, ⟨nd, rfl⟩⟩) | (go_at_call 47; refine (more_calls g f0 f1 f2 f3 w0 _ (HI.out.drewN _)).mono ?_; rintro e w1 ⟨rfl, ⟨nd2, rfl⟩⟩))
    go_ret
    exact ⟨rfl, by repeat (first | exact Drawn0.refl _ | apply Drawn0.step | exact ⟨_, rfl⟩)⟩
def stripOver_f (s0_0 : List Int) (s0_1 s0_2 s0_3 : Int) : Option (Int × Int × Int × Int) := some (overP s0_0 s0_1 s0_2, s0_1, s0_2, s0_3)
theorem stripOver_calls (g : Nat) (s0_0 : List Int) (s0_1 s0_2 s0_3 : Int) (r1 r2 r3 r4 : Int) (w0 w : World) (hI : StripIs w0 w g s0_0 s0_1 s0_2 s0_3) (hB : Below w0.heap.size w0 w) (h : stripOver_f s0_0 s0_1 s0_2 s0_3 = some (r1, r2, r3, r4)) :
    Calls Try.prog 45 #[.pointer (some ⟨g, 0, none⟩)] w fun e w' => e = .returned (.int .i64 r1) ∧ StripIs w0 w' g s0_0 r2 r3 r4 ∧ Below w0.heap.size w0 w' ∧ KeepBut w w' g none := by
  simp only [stripOver_f, Option.some.injEq, Prod.mk.injEq] at h
  obtain ⟨rfl, rfl, rfl, rfl⟩ := h
  refine (over_calls g s0_0 s0_1 s0_2 s0_3 w0 w hI).mono ?_
  rintro e w' ⟨rfl, ⟨nd, rfl⟩⟩
  exact ⟨rfl, hI, pw_below_drewN hB nd, keep_drewN (KeepBut.refl _ _ _) nd⟩
set_option maxHeartbeats 400000 in
theorem nil_calls (w : World) :
    (Calls Try.prog 32 #[.pointer none] w fun e w' => e = .returned (.tuple #[.int .i64 0, .int .i64 0]) ∧ Drawn0 w w') ∧ (Calls Try.prog 35 #[.pointer none] w fun e w' => e = .returned (.int .i64 0) ∧ Drawn0 w w') ∧ (Calls Try.prog 47 #[.pointer none] w fun e w' => e = .returned (.int .i64 0) ∧ Drawn0 w w') := by
  refine ⟨?_, ?_, ?_⟩
  · go_enter Try.func32, Try.ntmps32
    go_wp2
    go_ret2
    exact ⟨rfl, by repeat (first | exact Drawn0.refl _ | apply Drawn0.step)⟩
  · go_enter Try.func35, Try.ntmps35
    go_wp2
    go_ret
    exact ⟨rfl, by repeat (first | exact Drawn0.refl _ | apply Drawn0.step)⟩
  · go_enter Try.func47, Try.ntmps47
    go_wp2
    go_ret
    exact ⟨rfl, by repeat (first | exact Drawn0.refl _ | apply Drawn0.step)⟩
theorem eql_nil (c : Nat) (w : World) : (binOp .eql 50 (.slice none 0 c) (.slice none 0 0)).run Try.prog w = .ok (.bool true) w := by kernel_rfl
theorem eql_some (ad : Addr) (n c : Nat) (w : World) : (binOp .eql 50 (.slice (some ad) n c) (.slice none 0 0)).run Try.prog w = .ok (.bool false) w := by kernel_rfl
set_option maxHeartbeats 400000 in
set_option maxRecDepth 100000 in
theorem clone_calls (A : Option Addr) (c : Nat) (l : List Int) (w : World) (hr : Kd.C (Kd.int .u8) w A l.length l) (hl : l.length < 140737488355328) :
    Calls Try.prog 61 #[.slice A l.length c] w fun e w' => ∃ v0_ : Value, e = .returned v0_ ∧ Kd.R (Kd.int .u8) 5 w' w.heap.size (fun _ => True) v0_ l ∧ Below w.heap.size w w' := by
  rcases A with _ | ad
  · obtain rfl : l = [] := by
      rcases Nat.eq_zero_or_pos l.length with h | h
      · exact List.eq_nil_of_length_eq_zero h
      · obtain ⟨ad, e, _⟩ := hr.2.2 h; cases e
    have e1 := eql_nil
    go_enter Try.func61, Try.ntmps61
    go_wp2
    go_ret
    exact ⟨_, rfl, Kd.R_nil _ _ _ _ _, Below.refl _ _⟩
  · have HR := Aside0.mk hr; have HL := Aside0.mk hl
    clear hr hl
    have e1 := eql_some
    have HO : Aside0 (Kd.R (Kd.int .u8) 5 (w.alloc (.cells #[] 5)) w.heap.size (fun _ => True) (.slice (some ⟨w.heap.size, 0, none⟩) 0 0) []) := ⟨⟨fun _ _ => trivial, [], ⟨rfl, .inr ⟨w.heap.size, 0, #[], rfl, Nat.le_refl _, blk_new w _, Nat.le_refl _, by simp [maxLen], rfl, rfl⟩⟩, Reps.none _ _⟩⟩
    have HR2 := Aside0.mk (Kd.C_alloc HR.out (.cells #[] 5))
    have HB := Aside0.mk (below_alloc (Below.refl w.heap.size w) (.cells #[] 5))
    go_enter Try.func61, Try.ntmps61
    go_wp2_with ((with_reducible refine gate_builtin (b := .append) (xs := #[.tmp 5, .tmp 6]) rfl ?_); at_builtin; refine Kd.R_append_rows (Kd.int .u8) (Rr := fun (x : Int) (c : List Value) => c = [.int .u8 x]) (w0 := w) w.heap.size rfl (.tmp 5) (.tmp 6) 50 5 (.int .u8 0) 1 rfl Try.underlying50 info_u8 rfl (by decide) (by omega) (.slice (some ⟨w.heap.size, 0, none⟩) 0 0) [] l (some ad) l.length c (fun _ => True) (fun _ => False) rfl rfl ?HO HR2.out (fun _ _ h => h) (fun _ hk => hk.elim) (fun _ _ => trivial) ?HB ?hbase ?hl ?_; (case HO => exact HO.out); (case HB => exact HB.out); (case hbase => exact HB.out.size); (case hl => have := HL.out; simp; omega); intro v1 w1 hr hb hg hat; have n0_ := Aside0.mk hr; have n1_ := Aside0.mk hb; clear hr hb hg hat)
    go_ret
    exact ⟨_, rfl, by simpa using n0_.out, n1_.out⟩
/-- A fresh strip. -/
theorem strip_of_clone {w0 w1 : World} {l : List Int} {v : Value} {base : Nat} (hr : Kd.R (Kd.int .u8) 5 w1 base (fun _ => True) v l) (hl : l.length ≤ 140737488355328) (hb : l.all byteB = true) (h0 : w0.heap.size ≤ w1.heap.size) :
    ∃ A c, v = .slice A l.length c ∧ StripIs w0 (w1.alloc (.cells #[.slice A l.length c, .int .i64 l.length, .int .i64 0, .int .i64 0] 91)) w1.heap.size l 0 0 0 := by
  obtain ⟨A, c, rfl, hc, hC⟩ := Kd.R_reads hr
  refine ⟨A, c, rfl, A, c, by simpa using blk_new w1 _, h0, by omega, by simp, hl, hb, by simpa using hc, fun ad hA hlt => ?_, ?_⟩
  · subst hA
    obtain ⟨g, cap, e, _, hlt2, cells, hg⟩ := Kd.R_form hr (by simpa using hlt)
    injection e with e1 e2 e3
    injection e1 with e1
    subst e1
    exact ⟨by dsimp only; omega, cells, blk_alloc hg _⟩
  · simpa using Kd.C_alloc hC (.cells #[.slice A l.length c, .int .i64 l.length, .int .i64 0, .int .i64 0] 91)
def unroll_f (l0 : List Int) : Option (List Int × Int × Int × Int) := if l0.length < 140737488355328 ∧ l0.all byteB = true then some (l0, 0, 0, 0) else none
set_option maxHeartbeats 400000 in
set_option maxRecDepth 100000 in
theorem unroll_calls (A0 : Option Addr) (c0 : Nat) (l0 : List Int) (r1 : List Int) (r2 r3 r4 : Int) (w0 w : World) (hB : Below w0.heap.size w0 w) (hr0 : Kd.C (Kd.int .u8) w A0 l0.length l0) (hc0 : l0.length ≤ c0) (h : unroll_f l0 = some (r1, r2, r3, r4)) :
    Calls Try.prog 30 #[.slice A0 l0.length c0] w fun e w' => ∃ g_ : Nat, e = .returned (.pointer (some ⟨g_, 0, none⟩)) ∧ StripIs w0 w' g_ r1 r2 r3 r4 ∧ Below w0.heap.size w0 w' ∧ Below w.heap.size w w' := by
  unfold unroll_f at h
  by_cases hc : l0.length < 140737488355328 ∧ l0.all byteB = true
  case neg => rw [if_neg hc] at h; cases h
  rw [if_pos hc] at h
  simp only [Option.some.injEq, Prod.mk.injEq] at h
  obtain ⟨rfl, rfl, rfl, rfl⟩ := h
  have HR := Aside0.mk hr0; have HC := Aside0.mk hc; have HB := Aside0.mk hB
  clear hr0 hc hB hc0
  go_enter Try.func30, Try.ntmps30
  go_wp2_with (go_at_call 61; refine (clone_calls A0 c0 l0 w HR.out HC.out.1).mono ?_; rintro e w1 ⟨v, rfl, hr, hb⟩; obtain ⟨A, c, rfl, hi⟩ := strip_of_clone (w0 := w0) hr (by have := HC.out.1; omega) HC.out.2 (Nat.le_trans HB.out.size hb.size); have HI := Aside0.mk hi; have HB1 := Aside0.mk hb; clear hr hb hi)
  go_ret
  exact ⟨_, rfl, HI.out, below_alloc (below_weaken HB.out HB.out.size HB1.out) _, below_alloc HB1.out _⟩
end Go.Proofs.YtmcnipjfigbkeaaK
