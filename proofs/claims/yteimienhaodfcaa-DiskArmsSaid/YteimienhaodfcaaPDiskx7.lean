-- Written by a program of this session (wip/myprint.py), which drives the kit's print; read and checked by Lean alone.
import Derived.Test.YteimienhaodfcaaPDiskx0
namespace Go.Proofs.Yteimienhaodfcaa.PDisk
open Go.RowKit Go.Proofs.YteimienhaodfcaaW.PrintWords Go.Proofs.YteimienhaodfcaaW.PrintLast Go.Proofs.YteimienhaodfcaaW.PrintMore
attribute [local go_sem] max2_int min2_int max_two min_two max_three min_three max_four min_four   -- for this text's walks alone
set_option linter.unusedVariables false
set_option linter.unusedSimpArgs false

-- NOT PRINTED: function 104 (slices_partitionOrdered_int)

-- NOT PRINTED: function 94 (slices_pdqsortOrdered_int)

-- NOT PRINTED: function 86 (slices_Sort_int_int)

-- NOT PRINTED: function 60 (slices_Sorted_int)

-- NOT PRINTED: function 61 (maps_Keys_map_int_byte_int_byte)

-- NOT PRINTED: function 20 (disk_Disk_Unsafe)

-- NOT PRINTED: function 62 (slices_Clone_byte_byte)

-- NOT PRINTED: function 21 (disk_Disk_Read)

-- NOT PRINTED: function 22 (disk_Disk_Crash)

-- NOT PRINTED: function 23 (disk_Disk_Arm)

-- NOT PRINTED: function 24 (disk_Disk_Dead)

-- NOT PRINTED: function 25 (disk_Disk_Ops)

/-! ### klaxonref02_Ints: function 54 -/
def klaxonref02_Ints.l0 : Nat → List Int → List Int → Int → Option (Bool)
  | 0, _, _, _ => none
  | k + 1, x0, x1, x5 => if x5 < (x0.length : Int) then (if 0 ≤ x5 then (if x5 < (x1.length : Int) then (if (rd x0 x5) = (rd x1 x5) then (klaxonref02_Ints.l0 k x0 x1 (wrap64 (x5 + 1))) else (some false)) else (none)) else (none)) else (some true)
def klaxonref02_Ints.f (k : Nat) (l0 : List Int) (l1 : List Int) : Option (Bool) := if (l0.length : Int) = (l1.length : Int) then (klaxonref02_Ints.l0 k l0 l1 0) else (some false)
theorem klaxonref02_Ints.mono_l : ∀ k, (∀ y0 y1 y2, LeO (klaxonref02_Ints.l0 k y0 y1 y2) (klaxonref02_Ints.l0 (k + 1) y0 y1 y2))
  | 0 => fun _ _ _ r h => by simp [klaxonref02_Ints.l0] at h
  | k + 1 => by
    have ih0 := klaxonref02_Ints.mono_l k
    · intro y0 y1 y2
      unfold klaxonref02_Ints.l0
      repeat' first
      | (with_reducible exact ih0 _ _ _)
      | (with_reducible exact LeO.refl _)
      | (with_reducible exact LeO.none _)
      | (with_reducible refine LeO.ite ?_ ?_)
      | (with_reducible refine LeO.bind ?_ (fun _ => ?_))
      | exact ih0 _ _ _
      | exact LeO.none _
      | refine LeO.ite ?_ ?_
      | refine LeO.bind ?_ (fun _ => ?_)
theorem klaxonref02_Ints.mono : ∀ a0 a1 k, LeO (klaxonref02_Ints.f k a0 a1) (klaxonref02_Ints.f (k + 1) a0 a1) := by
  intro a0 a1 k
  have ih0 := klaxonref02_Ints.mono_l k
  unfold klaxonref02_Ints.f
  repeat' first
      | (with_reducible exact ih0 _ _ _)
      | (with_reducible exact LeO.refl _)
      | (with_reducible exact LeO.none _)
      | (with_reducible refine LeO.ite ?_ ?_)
      | (with_reducible refine LeO.bind ?_ (fun _ => ?_))
      | exact ih0 _ _ _
      | exact LeO.none _
      | refine LeO.ite ?_ ?_
      | refine LeO.bind ?_ (fun _ => ?_)
set_option maxHeartbeats 8000000 in
set_option maxRecDepth 100000 in
theorem klaxonref02_Ints.calls (k : Nat) (A0 : Option Addr) (c0 : Nat) (l0 : List Int) (A1 : Option Addr) (c1 : Nat) (l1 : List Int) (r : Bool) (w : World) (hr0 : Kd.C (Kd.int .i64) w A0 l0.length l0) (hc0 : l0.length ≤ c0) (hr1 : Kd.C (Kd.int .i64) w A1 l1.length l1) (hc1 : l1.length ≤ c1) (h : klaxonref02_Ints.f k l0 l1 = some r) :
    Calls Try.prog 54 #[.slice A0 l0.length c0, .slice A1 l1.length c1] w fun e w' => e = .returned (.bool r) ∧ Drawn0 w w' := by
  have HR0 := Aside0.mk hr0
  have HC0 := Aside0.mk hc0
  clear hr0 hc0
  have HR1 := Aside0.mk hr1
  have HC1 := Aside0.mk hc1
  clear hr1 hc1
  have H : (if (l0.length : Int) = (l1.length : Int) then (klaxonref02_Ints.l0 k l0 l1 0) else (some false)) = some r := h
  clear h
  by_cases c3 : (l0.length : Int) = (l1.length : Int)
  · rw [if_pos c3] at H
    have c3b0 : ((l0.length : Int) == (l1.length : Int)) = true := beq_iff_eq.mpr c3
    have c3b1 : ((l0.length : Int) != (l1.length : Int)) = false := bne_eq_false_iff_eq.mpr c3
    have c3b2 : (l0.length == l1.length) = true := by first | simpa using c3 | (simp at c3 ⊢; omega)
    clear c3
    have H' := Aside0.mk H
    clear H
    go_enter Try.func54, Try.ntmps54
    go_wp2
    repeat (go_quiet (fail); try go_wp2)
    go_loopg [5] k (fun kq v5 w' => ∃ (x5_1 : Int), v5 = .int .i64 x5_1 ∧ Aside0 (klaxonref02_Ints.l0 kq l0 l1 x5_1 = some r) ∧ Aside0 (kq ≤ k) ∧ Drawn0 w w')
    case atStart => exact ⟨(0), (by first | rfl | (simp; done) | (simp [*]; done)), H', ⟨Nat.le_refl _⟩, by repeat (first | exact Drawn0.refl _ | apply Drawn0.step)⟩
    case round =>
      clear H'
      try clear c1
      try clear p2
      try clear c3
      try clear c3b0
      try clear c3b1
      try clear c3b2
      obtain ⟨x5_1, rfl, HA, HK1, ⟨m1, rfl⟩⟩ := hrel
      cases gk with
      | zero => exact absurd HA.out (by simp [klaxonref02_Ints.l0])
      | succ k1 =>
        have H := HA.out
        clear HA
        simp only [klaxonref02_Ints.l0] at H
        by_cases c4 : x5_1 < (l0.length : Int)
        · rw [if_pos c4] at H
          have c4b0 : decide (x5_1 < (l0.length : Int)) = true := decide_eq_true c4
          clear c4
          by_cases c5 : 0 ≤ x5_1
          · rw [if_pos c5] at H
            have c5b0 : decide (0 ≤ x5_1) = true := decide_eq_true c5
            clear c5
            by_cases c6 : x5_1 < (l1.length : Int)
            · rw [if_pos c6] at H
              have c6b0 : decide (x5_1 < (l1.length : Int)) = true := decide_eq_true c6
              clear c6
              by_cases c7 : (rd l0 x5_1) = (rd l1 x5_1)
              · rw [if_pos c7] at H
                have c7b0 : ((rd l0 x5_1) == (rd l1 x5_1)) = true := beq_iff_eq.mpr c7
                have c7b1 : ((rd l0 x5_1) != (rd l1 x5_1)) = false := bne_eq_false_iff_eq.mpr c7
                clear c7
                have H' := Aside0.mk H
                clear H
                have p203 : 0 ≤ (x5_1 : Int) := of_decide_eq_true (by first | (with_reducible assumption) | assumption)
                have q203 : x5_1 < (l0.length : Int) := of_decide_eq_true (by first | (with_reducible assumption) | assumption)
                obtain ⟨ad203, e203, hx203_0⟩ := Kd.at_int HR0.out x5_1 p203 q203
                cases e203
                replace p203 := eq_true p203
                replace q203 := eq_true q203
                have p204 : 0 ≤ (x5_1 : Int) := of_decide_eq_true (by first | (with_reducible assumption) | assumption)
                have q204 : x5_1 < (l1.length : Int) := of_decide_eq_true (by first | (with_reducible assumption) | assumption)
                obtain ⟨ad204, e204, hx204_0⟩ := Kd.at_int HR1.out x5_1 p204 q204
                cases e204
                replace p204 := eq_true p204
                replace q204 := eq_true q204
                go_wp2
                repeat (go_quiet (fail); try go_wp2)
                go_roundg k1
                case measure => have := HK1.out; omega
                case rel => exact ⟨(wrap64 (x5_1 + 1)), (by first | rfl | (simp; done) | (simp [*]; done)), H', ⟨by have := HK1.out; omega⟩, by repeat (first | exact Drawn0.refl _ | apply Drawn0.step)⟩
              · rw [if_neg c7] at H
                have c7b0 : ((rd l0 x5_1) == (rd l1 x5_1)) = false := beq_eq_false_iff_ne.mpr c7
                have c7b1 : ((rd l0 x5_1) != (rd l1 x5_1)) = true := bne_iff_ne.mpr c7
                obtain rfl := Option.some.inj H
                have p203 : 0 ≤ (x5_1 : Int) := of_decide_eq_true (by first | (with_reducible assumption) | assumption)
                have q203 : x5_1 < (l0.length : Int) := of_decide_eq_true (by first | (with_reducible assumption) | assumption)
                obtain ⟨ad203, e203, hx203_0⟩ := Kd.at_int HR0.out x5_1 p203 q203
                cases e203
                replace p203 := eq_true p203
                replace q203 := eq_true q203
                have p204 : 0 ≤ (x5_1 : Int) := of_decide_eq_true (by first | (with_reducible assumption) | assumption)
                have q204 : x5_1 < (l1.length : Int) := of_decide_eq_true (by first | (with_reducible assumption) | assumption)
                obtain ⟨ad204, e204, hx204_0⟩ := Kd.at_int HR1.out x5_1 p204 q204
                cases e204
                replace p204 := eq_true p204
                replace q204 := eq_true q204
                go_wp2
                repeat (go_quiet (fail); try go_wp2)
                go_ret
                exact ⟨by first | rfl | (simp; done) | (simp [*]; done), by repeat (first | exact Drawn0.refl _ | apply Drawn0.step)⟩
            · rw [if_neg c6] at H
              exact absurd H (by simp)
          · rw [if_neg c5] at H
            exact absurd H (by simp)
        · rw [if_neg c4] at H
          have c4b0 : decide (x5_1 < (l0.length : Int)) = false := decide_eq_false c4
          clear c4
          obtain rfl := Option.some.inj H
          go_wp2
          repeat (go_quiet (fail); try go_wp2)
          go_ret
          exact ⟨by first | rfl | (simp; done) | (simp [*]; done), by repeat (first | exact Drawn0.refl _ | apply Drawn0.step)⟩
  · rw [if_neg c3] at H
    have c3b0 : ((l0.length : Int) == (l1.length : Int)) = false := beq_eq_false_iff_ne.mpr c3
    have c3b1 : ((l0.length : Int) != (l1.length : Int)) = true := bne_iff_ne.mpr c3
    have c3b2 : (l0.length == l1.length) = false := by first | simpa using c3 | (simp at c3 ⊢; omega)
    obtain rfl := Option.some.inj H
    go_enter Try.func54, Try.ntmps54
    go_wp2
    repeat (go_quiet (fail); try go_wp2)
    go_ret
    exact ⟨by first | rfl | (simp; done) | (simp [*]; done), by repeat (first | exact Drawn0.refl _ | apply Drawn0.step)⟩

-- NOT PRINTED: function 15 (klaxonlaw02_live)


/-! ### klaxonlaw02_DiskArms: function 5 -/
open Go.Proofs.YteimienhaodfcaaK Go.Crc
namespace DAr
namespace L2A
structure StA (n i : Nat) (D : Dk) : Prop where
  sec : D.sectors = 4
  siz : D.size = 64
  dead : D.dead = false
  ops : D.ops = (i : Int)
  left : D.left = (n : Int) - (i : Int)
  le : i ≤ n
  bd : n ≤ 60
theorem StA.start (n : Nat) (hn : n ≤ 60) : StA n 0 ((Dk.made 4 64).armed (n : Int)) := by
  have e : (Dk.made 4 64).armed (n : Int) = { Dk.made 4 64 with left := if (n : Int) < -1 then -1 else (n : Int) } := by
    unfold Dk.armed; rw [if_neg (by decide)]
  rw [e]
  refine ⟨rfl, rfl, rfl, rfl, ?_, Nat.zero_le _, hn⟩
  show (if (n : Int) < -1 then -1 else (n : Int)) = _
  rw [if_neg (by omega)]; omega
theorem StA.may {n i : Nat} {D : Dk} (h : StA n i D) (hi : i < n) : ¬ (D.dead = true ∨ D.left = 0) := by
  rw [h.dead, h.left]; simp; omega
theorem StA.begE {n i : Nat} {D : Dk} (h : StA n i D) (hi : i < n) : D.beginE = 0 := by
  unfold Dk.beginE; rw [if_neg (h.may hi)]
theorem StA.beg {n i : Nat} {D : Dk} (h : StA n i D) (hi : i < n) : StA n (i + 1) D.begun := by
  have hl := h.left; have ho := h.ops; have hb := h.bd
  unfold Dk.begun
  rw [if_neg (h.may hi)]
  refine ⟨h.sec, h.siz, h.dead, ?_, ?_, hi, hb⟩
  · show wrap64 (D.ops + 1) = _
    rw [ho]; unfold wrap64; omega
  · show (if 0 < D.left then D.left - 1 else D.left) = _
    rw [if_pos (by omega), hl]; omega
theorem StA.put {n i : Nat} {D : Dk} (h : StA n i D) (k : Nat) (l : List Int) : StA n i (D.put k l) := ⟨h.sec, h.siz, h.dead, h.ops, h.left, h.le, h.bd⟩
theorem StA.settle {n i : Nat} {D : Dk} (h : StA n i D) (f : Nat → Nat) : StA n i (D.settle f) := ⟨h.sec, h.siz, h.dead, h.ops, h.left, h.le, h.bd⟩
theorem StA.write {n i : Nat} {D : Dk} (h : StA n i D) (hi : i < n) (k : Int) (hk : 0 ≤ k ∧ k < 4) (x : Int) : D.writeE k [x] = 0 ∧ StA n (i + 1) (D.written k [x]) := by
  have hh : D.has k = true := by unfold Dk.has; rw [h.sec]; simp; omega
  have hs : ¬ D.size < ([x] : List Int).length := by rw [h.siz, List.length_singleton]; decide
  unfold Dk.writeE Dk.written
  rw [hh, if_neg (by decide), if_neg hs, if_neg (by decide), if_neg hs, if_pos (h.begE hi)]
  exact ⟨h.begE hi, (h.beg hi).put _ _⟩
theorem StA.sync {n i : Nat} {D : Dk} (h : StA n i D) (hi : i < n) : D.beginE = 0 ∧ StA n (i + 1) D.synced := by
  unfold Dk.synced
  rw [if_pos (h.begE hi)]
  exact ⟨h.begE hi, (h.beg hi).settle _⟩
/-- The arm has run out. -/
structure StB (n : Nat) (D : Dk) : Prop where
  sec : D.sectors = 4
  siz : D.size = 64
  ops : D.ops = (n : Int)
  left : D.left = 0
theorem StA.done {n : Nat} {D : Dk} (h : StA n n D) : StB n D := ⟨h.sec, h.siz, h.ops, by rw [h.left]; omega⟩
theorem StB.begE {n : Nat} {D : Dk} (h : StB n D) : D.beginE = 20 := by unfold Dk.beginE; rw [if_pos (.inr h.left)]
theorem StB.beg {n : Nat} {D : Dk} (h : StB n D) : StB n D.begun ∧ D.begun.dead = true := by
  unfold Dk.begun; rw [if_pos (.inr h.left)]
  exact ⟨⟨h.sec, h.siz, h.ops, h.left⟩, rfl⟩
theorem StB.write {n : Nat} {D : Dk} (h : StB n D) : D.writeE 0 [] = 20 ∧ StB n (D.written 0 []) := by
  have hh : D.has 0 = true := by unfold Dk.has; rw [h.sec]; decide
  have hs : ¬ D.size < ([] : List Int).length := by rw [h.siz]; decide
  unfold Dk.writeE Dk.written
  rw [hh, if_neg (by decide), if_neg hs, if_neg (by decide), if_neg hs, h.begE, if_neg (by decide)]
  exact ⟨rfl, h.beg.1⟩
theorem StB.sync {n : Nat} {D : Dk} (h : StB n D) : StB n D.synced ∧ D.synced.dead = true := by
  unfold Dk.synced; rw [h.begE, if_neg (by decide)]; exact h.beg
theorem StB.crash {n : Nat} {D : Dk} (h : StB n D) : (D.crashed [] []).ops = n ∧ (D.crashed [] []).dead = false ∧ (D.crashed [] []).beginE = 0 :=
  ⟨h.ops, rfl, rfl⟩
end L2A
theorem rows1 {W : World} {a0 : Option Addr} {b2 : Nat} {x : Int} (c0 : Kd.C (Kd.int .u8) W a0 1 [x]) (h2 : W.heap[b2]? = some (.cells #[.slice a0 1 1] 33 (0, 0))) : Kd.C (Kd.slice 5 (Kd.int .u8)) W (some ⟨b2, 0, none⟩) 1 [[x]] := by
  refine ⟨rfl, by decide, fun _ => ⟨_, rfl, fun j p hj => ?_⟩⟩
  match j, hj with
  | 0, hj =>
    obtain rfl : [x] = p := by simpa using hj
    refine ⟨[.slice a0 1 1], rfl, ⟨_, _, rfl, Nat.le_refl _, c0⟩, fun i u hu => ?_⟩
    obtain ⟨rfl, rfl⟩ : i = 0 ∧ u = .slice a0 1 1 := by
      rcases i with _ | i
      · exact ⟨rfl, by simpa using hu.symm⟩
      · simp at hu
    rw [add_plain, blk_cell h2]; rfl
  | j + 1, hj => simp at hj
set_option maxHeartbeats 4000000 in
set_option maxRecDepth 100000 in
theorem arms_good (n m : Nat) (w : World) (hn : n ≤ 60) (hm : 1 ≤ m ∧ m ≤ 60) : Calls Try.prog 5 #[.int .i64 (n : Int), .int .i64 (m : Int)] w fun e w' => e = .returned (.bool true) ∧ Below w.heap.size w w' := by
  have g1 : decide ((n : Int) < 0) = false := decide_eq_false (by omega)
  have g2 : decide (60 < (n : Int)) = false := decide_eq_false (by omega)
  have g3 : decide ((m : Int) < 1) = false := decide_eq_false (by omega)
  have g4 : decide (60 < (m : Int)) = false := decide_eq_false (by omega)
  go_enter Try.func5, Try.ntmps5
  go_wp2_with fail
  refine (LS.new w 4 64 (by decide) (by decide) (by decide) (by decide)).mono ?_
  rintro e w1 ⟨d, rfl, h1⟩
  have H1 := Aside0.mk (show LS w w1 d (Dk.made 4 64) from h1)
  clear h1 g1 g2 g3 g4
  go_wp2_with fail
  refine (num2_calls 0 w1).mono ?_
  rintro e w2 ⟨rfl, hd2⟩
  have H2 := Aside0.mk (H1.out.step hd2.below)
  clear hd2
  go_wp2_with fail
  refine (H2.out.arm n (by omega)).mono ?_
  rintro e w3 ⟨rfl, h3, _⟩
  have H3 : Aside0 (∃ D, LS w w3 d D ∧ L2A.StA n 0 D) := ⟨⟨_, h3, L2A.StA.start n hn⟩⟩
  clear h3
  go_wp2_with fail
  go_loopw [7] (fun i wr => ∃ k : Nat, k ≤ n ∧ i = .int .i64 (k : Int) ∧ Aside0 (∃ D, LS w wr d D ∧ L2A.StA n k D)) (fun i _ => n - (intOf i).toNat)
  case atStart => exact ⟨0, Nat.zero_le _, rfl, H3⟩
  case round =>
    obtain ⟨k, hk, rfl, HK⟩ := hrel
    by_cases hlt : k < n
    · obtain ⟨D, hL, hS⟩ := HK.out
      have HL := Aside0.mk hL; have HS := Aside0.mk hS
      clear hL hS
      by_cases h2 : k % 3 = 2
      · go_wp2_with fail
        refine (HL.out.sync).mono ?_
        rintro e w4 ⟨rfl, h4, _⟩
        obtain ⟨he, hS4⟩ := HS.out.sync hlt
        rw [he]
        have H4 : Aside0 (∃ D, LS w w4 d D ∧ L2A.StA n (k + 1) D) := ⟨⟨_, h4, hS4⟩⟩
        clear h4 hS4 he
        go_wp2_with fail
        refine (num2_calls 0 w4).mono ?_
        rintro e w5 ⟨rfl, hd5⟩
        have H5 : Aside0 (∃ D, LS w w5 d D ∧ L2A.StA n (k + 1) D) := ⟨by obtain ⟨D, a, b⟩ := H4.out; exact ⟨D, a.step hd5.below, b⟩⟩
        clear hd5
        go_wp2_with fail
        go_roundw
        case rel => exact ⟨k + 1, by omega, by go_num, H5⟩
        case measure => simp [intOf]; omega
      · obtain ⟨W4, hW4⟩ : ∃ W, W = (wr.alloc (.cells #[.int .u8 (k : Int)] 5)).alloc (.cells #[.slice (some ⟨wr.heap.size, 0, none⟩) 1 1] 33) := ⟨_, rfl⟩
        have hb4 : Below wr.heap.size wr W4 := by rw [hW4]; exact below_alloc (below_alloc (Below.refl _ _) _) _
        have hR4 : Kd.C (Kd.slice 5 (Kd.int .u8)) W4 (some ⟨wr.heap.size + 1, 0, none⟩) 1 [[(k : Int)]] := by
          refine rows1 (a0 := some ⟨wr.heap.size, 0, none⟩) (one_C (t := 5) (fr := (0, 0)) ?_) ?_
          · rw [hW4]; exact blk_alloc (blk_new wr _) _
          · have := blk_new (wr.alloc (.cells #[.int .u8 (k : Int)] 5)) (.cells #[.slice (some ⟨wr.heap.size, 0, none⟩) 1 1] 33)
            rw [World.size_alloc] at this
            rw [hW4]; exact this
        have HL4 := Aside0.mk (HL.out.step hb4)
        have HR4 := Aside0.mk hR4
        clear hb4 hR4
        go_wp2_with fail
        rw [← hW4]
        clear hW4
        refine (HL4.out.write ((k : Int) % 4) (some ⟨wr.heap.size + 1, 0, none⟩) 1 [[(k : Int)]] HR4.out (by show 1 ≤ 1099511627776; decide) (by intro x hx; have : x = (k : Int) := (by simpa using hx); omega)).mono ?_
        rintro e w4 ⟨rfl, h4, _⟩
        obtain ⟨he, hS4⟩ := HS.out.write hlt ((k : Int) % 4) (by omega) (k : Int)
        rw [show Dk.writeE D ((k : Int) % 4) ([[(k : Int)]] : List (List Int)).flatten = 0 from he]
        have H4 : Aside0 (∃ D, LS w w4 d D ∧ L2A.StA n (k + 1) D) := ⟨⟨_, h4, hS4⟩⟩
        clear h4 hS4 he
        go_wp2_with fail
        refine (num2_calls 0 w4).mono ?_
        rintro e w5 ⟨rfl, hd5⟩
        have H5 : Aside0 (∃ D, LS w w5 d D ∧ L2A.StA n (k + 1) D) := ⟨by obtain ⟨D, a, b⟩ := H4.out; exact ⟨D, a.step hd5.below, b⟩⟩
        clear hd5
        go_wp2_with fail
        go_roundw
        case rel => exact ⟨k + 1, by omega, by go_num, H5⟩
        case measure => simp [intOf]; omega
    · obtain rfl : k = n := by omega
      have HB : Aside0 (∃ D, LS w wr d D ∧ L2A.StB k D) := ⟨by obtain ⟨D, a, b⟩ := HK.out; exact ⟨D, a, b.done⟩⟩
      clear HK H3
      go_wp2_with fail
      go_loopw [8] (fun i wq => ∃ j : Nat, j ≤ m ∧ i = .int .i64 (j : Int) ∧ Aside0 (∃ D, LS w wq d D ∧ L2A.StB k D)) (fun i _ => m - (intOf i).toNat)
      case atStart => exact ⟨0, Nat.zero_le _, rfl, HB⟩
      case round =>
        obtain ⟨j, hj, rfl, HJ⟩ := hrel
        obtain ⟨D, hL, hS⟩ := HJ.out
        have HL := Aside0.mk hL; have HS := Aside0.mk hS
        clear hL hS
        by_cases hjm : j < m
        · go_wp2_with fail
          refine (HL.out.write 0 none 0 [] (Kd.C_nil _ _) (by decide) (by intro x hx; simp at hx)).mono ?_
          rintro e w4 ⟨rfl, h4, _⟩
          rw [show Dk.writeE D 0 ([] : List (List Int)).flatten = 20 from HS.out.write.1]
          have H4 := Aside0.mk (show LS w w4 d (D.written 0 []) from h4)
          clear h4
          go_wp2_with fail
          refine (num2_calls 20 w4).mono ?_
          rintro e w5 ⟨rfl, hd5⟩
          have H5 := Aside0.mk (H4.out.step hd5.below)
          clear hd5
          go_wp2_with fail
          refine (H5.out.sync).mono ?_
          rintro e w6 ⟨rfl, h6, _⟩
          rw [HS.out.write.2.begE]
          have H6 := Aside0.mk h6
          clear h6
          go_wp2_with fail
          refine (num2_calls 20 w6).mono ?_
          rintro e w7 ⟨rfl, hd7⟩
          have H7 := Aside0.mk (H6.out.step hd7.below)
          clear hd7
          go_wp2_with fail
          refine (H7.out.dead).mono ?_
          rintro e w8 ⟨rfl, hd8⟩
          rw [HS.out.write.2.sync.2]
          have H8 : Aside0 (∃ D, LS w w8 d D ∧ L2A.StB k D) := ⟨⟨_, H7.out.step hd8.below, HS.out.write.2.sync.1⟩⟩
          clear hd8
          go_wp2_with fail
          go_roundw
          case rel => exact ⟨j + 1, by omega, by go_num, H8⟩
          case measure => simp [intOf]; omega
        · go_wp2_with fail
          refine (HL.out.crash (Below.refl _ _) [] [] none none 0 0 (fun W' _ => Kd.C_nil _ _) (fun W' _ => Kd.C_nil _ _) (by intro t ht; simp at ht)).mono ?_
          rintro e w4 ⟨rfl, h4, _⟩
          have H4 := Aside0.mk (show LS w w4 d (D.crashed [] []) from h4)
          clear h4
          obtain ⟨c1, c2, c3⟩ := HS.out.crash
          go_wp2_with fail
          refine (H4.out.ops).mono ?_
          rintro e w5 ⟨rfl, hd5⟩
          rw [c1]
          have H5 := Aside0.mk (H4.out.step hd5.below)
          clear hd5
          go_wp2_with fail
          refine (H5.out.dead).mono ?_
          rintro e w6 ⟨rfl, hd6⟩
          rw [c2]
          have H6 := Aside0.mk (H5.out.step hd6.below)
          clear hd6
          go_wp2_with fail
          refine (H6.out.sync).mono ?_
          rintro e w7 ⟨rfl, h7, _⟩
          rw [c3]
          have H7 := Aside0.mk h7
          clear h7
          go_wp2_with fail
          refine (num2_calls 0 w7).mono ?_
          rintro e w8 ⟨rfl, hd8⟩
          have H8 := Aside0.mk (H7.out.step hd8.below)
          clear hd8
          go_wp2_with fail
          refine (live2_calls w8).mono ?_
          rintro e w9 ⟨rfl, hb9⟩
          have H9 := Aside0.mk (H8.out.step hb9)
          clear hb9
          go_wp2_with fail
          go_ret
          exact ⟨rfl, H9.out.bel⟩

set_option maxHeartbeats 4000000 in
theorem arms_bad (n m : Int) (w : World) (hb : n < 0 ∨ 60 < n ∨ m < 1 ∨ 60 < m) : Calls Try.prog 5 #[.int .i64 n, .int .i64 m] w fun e w' => e = .returned (.bool true) ∧ Below w.heap.size w w' := by
  go_enter Try.func5, Try.ntmps5
  by_cases h1 : n < 0
  · have d1 : decide (n < 0) = true := decide_eq_true h1
    go_wp2_with fail
    refine (live2_calls _).mono ?_
    rintro e w1 ⟨rfl, hb1⟩
    have HB1 := Aside0.mk hb1
    clear hb1
    go_wp2_with fail
    go_ret
    exact ⟨rfl, HB1.out⟩
  have d1 : decide (n < 0) = false := decide_eq_false h1
  by_cases h2 : 60 < n
  · have d2 : decide (60 < n) = true := decide_eq_true h2
    go_wp2_with fail
    refine (live2_calls _).mono ?_
    rintro e w1 ⟨rfl, hb1⟩
    have HB1 := Aside0.mk hb1
    clear hb1
    go_wp2_with fail
    go_ret
    exact ⟨rfl, HB1.out⟩
  have d2 : decide (60 < n) = false := decide_eq_false h2
  by_cases h3 : m < 1
  · have d3 : decide (m < 1) = true := decide_eq_true h3
    go_wp2_with fail
    refine (live2_calls _).mono ?_
    rintro e w1 ⟨rfl, hb1⟩
    have HB1 := Aside0.mk hb1
    clear hb1
    go_wp2_with fail
    go_ret
    exact ⟨rfl, HB1.out⟩
  have d3 : decide (m < 1) = false := decide_eq_false h3
  have d4 : decide (60 < m) = true := decide_eq_true (by omega)
  go_wp2_with fail
  refine (live2_calls _).mono ?_
  rintro e w1 ⟨rfl, hb1⟩
  have HB1 := Aside0.mk hb1
  clear hb1
  go_wp2_with fail
  go_ret
  exact ⟨rfl, HB1.out⟩
theorem diskarms_law (n m : Int) (w : World) : Calls Try.prog 5 #[.int .i64 n, .int .i64 m] w fun e w' => e = .returned (.bool true) ∧ Below w.heap.size w w' := by
  by_cases hb : n < 0 ∨ 60 < n ∨ m < 1 ∨ 60 < m
  · exact arms_bad n m w hb
  · obtain ⟨a, rfl⟩ : ∃ a : Nat, n = a := ⟨n.toNat, by omega⟩
    obtain ⟨b, rfl⟩ : ∃ b : Nat, m = b := ⟨m.toNat, by omega⟩
    exact arms_good a b w (by omega) (by omega)
end DAr
def klaxonlaw02_DiskArms.f (a0 : Int) (a1 : Int) : Option Bool := some true
theorem klaxonlaw02_DiskArms.calls (a0 : Int) (a1 : Int) (r : Bool) (w : World) (h : klaxonlaw02_DiskArms.f a0 a1 = some r) :
    Calls Try.prog 5 #[.int .i64 a0, .int .i64 a1] w fun e w' => e = .returned (.bool r) ∧ Below w.heap.size w w' := by
  obtain rfl : true = r := Option.some.inj h
  exact DAr.diskarms_law a0 a1 w

-- NOT PRINTED: function 26 (disk_Disk_Sectors)

-- NOT PRINTED: function 27 (disk_Disk_Size)


/-! ### klaxonlaw02_DiskNil: function 6 -/
open Go.Proofs.YteimienhaodfcaaK Go.Crc
namespace DNl
set_option maxHeartbeats 1000000 in
theorem read_nil (n : Int) (w : World) : Calls Try.prog 21 #[.pointer none, .int .i64 n] w fun e w' => e = .returned (.tuple #[.slice none 0 0, .int .i64 7]) ∧ Below w.heap.size w w' := by
  go_enter Try.func21, Try.ntmps21
  go_wp2_with fail
  exact bodyPost_ret (v := .tuple #[.slice none 0 0, .int .i64 7]) (by simp [results, Try.results21, go_sem]) rfl ⟨rfl, by repeat (first | exact Below.refl _ _ | (refine below_set ?_ (Nat.le_refl _)) | apply below_alloc | apply pw_below_drewN | apply below_drew1)⟩
set_option maxHeartbeats 1000000 in
theorem write_nil (n : Int) (A : Option Addr) (k c : Nat) (w : World) : Calls Try.prog 18 #[.pointer none, .int .i64 n, .slice A k c] w fun e w' => e = .returned (.int .i64 7) ∧ Below w.heap.size w w' := by
  go_enter Try.func18, Try.ntmps18
  go_wp2
  go_ret
  exact ⟨rfl, by repeat (first | exact Below.refl _ _ | apply below_alloc | apply pw_below_drewN | apply below_drew1)⟩
set_option maxHeartbeats 4000000 in
set_option maxRecDepth 100000 in
theorem disknil_law (n : Int) (A : Option Addr) (m c : Nat) (w : World) (hm : m ≤ 9223372036854775807) : Calls Try.prog 6 #[.int .i64 n, .slice A m c] w fun e w' => e = .returned (.bool true) ∧ Below w.heap.size w w' := by
  by_cases h1 : 40000 < (m : Int)
  · have d1 : decide (40000 < (m : Int)) = true := decide_eq_true h1
    go_enter Try.func6, Try.ntmps6
    go_wp2_with fail
    refine (live2_calls _).mono ?_
    rintro e w1 ⟨rfl, hb⟩
    have HB := Aside0.mk hb
    clear hb
    go_wp2_with fail
    go_ret
    exact ⟨rfl, HB.out⟩
  have d1 : decide (40000 < (m : Int)) = false := decide_eq_false h1
  go_enter Try.func6, Try.ntmps6
  go_wp2_with fail
  refine (arm_nil n _).mono ?_
  rintro e w1 ⟨rfl, hd1⟩
  have HB1 := Aside0.mk hd1.below
  clear hd1
  obtain ⟨W2, hW2⟩ : ∃ W, W = (w1.alloc (.cells #[.int .i64 n] 3)).alloc (.cells #[.int .i64 n, .int .i64 0] 44) := ⟨_, rfl⟩
  have HB2 : Aside0 (Below w.heap.size w W2) := ⟨by rw [hW2]; exact below_alloc (below_alloc HB1.out _) _⟩
  go_wp2_with fail
  rw [← hW2]
  clear hW2
  refine (crash_nil _ _ _ _ _ _ W2).mono ?_
  rintro e w3 ⟨rfl, hb3⟩
  have HB3 := Aside0.mk (below_step HB2.out hb3)
  clear hb3
  go_wp2_with fail
  refine (read_nil n w3).mono ?_
  rintro e w4 ⟨rfl, hb4⟩
  have HB4 := Aside0.mk (below_step HB3.out hb4)
  clear hb4
  obtain ⟨W5, hW5⟩ : ∃ W, W = w4.alloc (.cells #[.slice A m c] 33) := ⟨_, rfl⟩
  have HB5 : Aside0 (Below w.heap.size w W5) := ⟨by rw [hW5]; exact below_alloc HB4.out _⟩
  go_wp2_with fail
  rw [← hW5]
  clear hW5
  refine (write_nil n _ _ _ W5).mono ?_
  rintro e w6 ⟨rfl, hb6⟩
  have HB6 := Aside0.mk (below_step HB5.out hb6)
  clear hb6
  go_wp2_with fail
  refine (num2_calls 7 w6).mono ?_
  rintro e w7 ⟨rfl, hd7⟩
  have HB7 := Aside0.mk (below_step HB6.out hd7.below)
  clear hd7
  go_wp2_with fail
  refine (num2_calls 7 w7).mono ?_
  rintro e w8 ⟨rfl, hd8⟩
  have HB8 := Aside0.mk (below_step HB7.out hd8.below)
  clear hd8
  go_wp2_with fail
  refine (sync_nil w8).mono ?_
  rintro e w9 ⟨rfl, hb9⟩
  have HB9 := Aside0.mk (below_step HB8.out hb9)
  clear hb9
  go_wp2_with fail
  refine (num2_calls 7 w9).mono ?_
  rintro e w10 ⟨rfl, hd10⟩
  have HB10 := Aside0.mk (below_step HB9.out hd10.below)
  clear hd10
  go_wp2_with fail
  refine (dead_nil w10).mono ?_
  rintro e w11 ⟨rfl, hd11⟩
  have HB11 := Aside0.mk (below_step HB10.out hd11.below)
  clear hd11
  go_wp2_with fail
  refine (unsafe_nil w11).mono ?_
  rintro e w12 ⟨rfl, hd12⟩
  have HB12 := Aside0.mk (below_step HB11.out hd12.below)
  clear hd12
  go_wp2_with fail
  refine (ops_nil w12).mono ?_
  rintro e w13 ⟨rfl, hd13⟩
  have HB13 := Aside0.mk (below_step HB12.out hd13.below)
  clear hd13
  go_wp2_with fail
  refine (sectors_nil w13).mono ?_
  rintro e w14 ⟨rfl, hd14⟩
  have HB14 := Aside0.mk (below_step HB13.out hd14.below)
  clear hd14
  go_wp2_with fail
  refine (size_nil w14).mono ?_
  rintro e w15 ⟨rfl, hd15⟩
  have HB15 := Aside0.mk (below_step HB14.out hd15.below)
  clear hd15
  go_wp2_with fail
  refine (live2_calls w15).mono ?_
  rintro e w16 ⟨rfl, hb16⟩
  have HB16 := Aside0.mk (below_step HB15.out hb16)
  clear hb16
  go_wp2_with fail
  go_ret
  exact ⟨rfl, HB16.out⟩
end DNl
def klaxonlaw02_DiskNil.f (a0 : Int) (l1 : List Int) : Option Bool := some true
theorem klaxonlaw02_DiskNil.calls (a0 : Int) (A1 : Option Addr) (c1 : Nat) (l1 : List Int) (r : Bool) (w : World) (hr1 : Kd.C (Kd.int .u8) w A1 l1.length l1) (hc1 : l1.length ≤ c1) (h : klaxonlaw02_DiskNil.f a0 l1 = some r) :
    Calls Try.prog 6 #[.int .i64 a0, .slice A1 l1.length c1] w fun e w' => e = .returned (.bool r) ∧ Below w.heap.size w w' := by
  obtain rfl : true = r := Option.some.inj h
  exact DNl.disknil_law a0 A1 l1.length c1 w hr1.2.1

end Go.Proofs.Yteimienhaodfcaa.PDisk
