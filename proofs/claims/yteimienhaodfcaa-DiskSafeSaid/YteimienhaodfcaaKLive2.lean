/- Law 2's live, walked. -/
import Derived.Test.YteimienhaodfcaaKUns
import Derived.Lib.UnsafeStr
import Derived.Test.YteimienhaodfcaaKLive4
import Derived.Test.YteimienhaodfcaaKMetaP
import Derived.Test.YteimienhaodfcaaKFlow
import Derived.Test.YteimienhaodfcaaKClone
import Derived.Deep.QuietTactic
import Derived.BigQuiet
import Derived.Outline
import Derived.Deep.RegionHeld3
import Derived.Lib.AppendZerosOnto
import Derived.Lib.SliceRun
import Derived.Lib.Walk
namespace Go.Proofs.YteimienhaodfcaaK
open Go.RowKit Go.Proofs.YteimienhaodfcaaW.PrintWords Go.Proofs.YteimienhaodfcaaW.PrintLast Go.Proofs.YteimienhaodfcaaW.PrintMore Go.Crc
open Go.ChangeMaps (setBlock)
attribute [local go_sem] max2_int min2_int max_two min_two
set_option linter.unusedVariables false
set_option linter.unusedSimpArgs false
variable {w w' : World} {X X' S : Nat → Prop} {d sb mb clock : Nat} {es : Array MapEntry} {safe : List Int} {D : Dk}
theorem one_C {W : World} {g t : Nat} {x : Int} {fr : Nat × Nat} (h : W.heap[g]? = some (.cells #[.int .u8 x] t fr)) : Kd.C (Kd.int .u8) W (some ⟨g, 0, none⟩) 1 [x] := by
  refine ⟨rfl, by decide, fun _ => ⟨_, rfl, fun j p hj => ⟨[.int .u8 p], rfl, rfl, fun i u hu => ?_⟩⟩⟩
  obtain ⟨rfl, rfl⟩ : j = 0 ∧ p = x := by
    match j, hj with
    | 0, hj => exact ⟨rfl, by simpa using hj.symm⟩
    | j + 1, hj => simp at hj
  obtain ⟨rfl, rfl⟩ : i = 0 ∧ u = .int .u8 p := by
    match i, hu with
    | 0, hu => exact ⟨rfl, by simpa using hu.symm⟩
    | i + 1, hu => simp at hu
  rw [add_plain, cell_of_row W g _ _ t fr h]; rfl
theorem cv33 (w : World) (x : Int) : ∃ W', (convert 33 33 (.slice (some ⟨w.heap.size, 0, none⟩) 1 1)).run Try.prog (w.alloc (.cells #[.int .u8 x] 5)) = .ok (.slice (some ⟨w.heap.size, 0, none⟩) 1 1) W' ∧ Kd.C (Kd.int .u8) W' (some ⟨w.heap.size, 0, none⟩) 1 [x] ∧ Below w.heap.size w W' := by
  have hb : (w.alloc (.cells #[.int .u8 x] 5)).heap[w.heap.size]? = some (.cells #[.int .u8 x] 5 (0, 0)) := blk_new w _
  refine ⟨(w.alloc (.cells #[.int .u8 x] 5)).freeze ⟨w.heap.size, 1, none⟩ 1, ?_, ?_, ?_⟩
  · have hsh : (w.alloc (.cells #[.int .u8 x] 5)).shape? w.heap.size = some (5, 1) := by unfold World.shape?; rw [hb]; rfl
    simp [convert, run_underlying Try.underlying33, run_underlying Try.underlying5, markStringish, hsh]
  · refine one_C (t := 5) (fr := (1, 2)) ?_
    unfold World.freeze
    simp only [Nat.one_ne_zero, if_false]
    rw [Array.getElem?_modify]
    simp only [if_true, hb]
    rfl
  · exact Go.Lib.below_freeze (below_alloc (Below.refl _ _) _) (Nat.le_refl _) 1
theorem rows2 {W : World} {a0 a1 : Option Addr} {b2 : Nat} {x y : Int} (c0 : Kd.C (Kd.int .u8) W a0 1 [x]) (c1 : Kd.C (Kd.int .u8) W a1 1 [y]) (h2 : W.heap[b2]? = some (.cells #[.slice a0 1 1, .slice a1 1 1] 33 (0, 0))) : Kd.C (Kd.slice 5 (Kd.int .u8)) W (some ⟨b2, 0, none⟩) 2 [[x], [y]] := by
  refine ⟨rfl, by decide, fun _ => ⟨_, rfl, fun j p hj => ?_⟩⟩
  match j, hj with
  | 0, hj =>
    obtain rfl : [x] = p := by simpa using hj
    refine ⟨[.slice a0 1 1], rfl, ⟨_, _, rfl, Nat.le_refl _, c0⟩, fun i u hu => ?_⟩
    obtain ⟨rfl, rfl⟩ : i = 0 ∧ u = .slice a0 1 1 := by
      rcases i with _ | i
      · exact ⟨rfl, by simpa using hu.symm⟩
      · simp at hu
    rw [add_plain, blk_cell h2]; rfl
  | 1, hj =>
    obtain rfl : [y] = p := by simpa using hj
    refine ⟨[.slice a1 1 1], rfl, ⟨_, _, rfl, Nat.le_refl _, c1⟩, fun i u hu => ?_⟩
    obtain ⟨rfl, rfl⟩ : i = 0 ∧ u = .slice a1 1 1 := by
      rcases i with _ | i
      · exact ⟨rfl, by simpa using hu.symm⟩
      · simp at hu
    rw [add_plain, blk_cell h2]; rfl
  | j + 2, hj => simp at hj
theorem num2_calls (e : Int) (w : World) : Calls Try.prog 17 #[.int .i64 e] w fun r w' => r = .returned (.int .i64 e) ∧ Drawn0 w w' := by
  go_enter Try.func17, Try.ntmps17
  go_wp2
  go_ret
  exact ⟨rfl, by repeat (first | exact Drawn0.refl _ | apply Drawn0.step)⟩
theorem own_blk {w' : World} {base : Nat} {ok : Nat → Prop} {v : Value} {xs : List Int} (h : Kd.R (Kd.int .u8) 5 w' base ok v xs) (h0 : 0 < xs.length) : ∃ g cap cur, v = .slice (some ⟨g, 0, none⟩) xs.length cap ∧ xs.length ≤ cap ∧ base ≤ g ∧ w'.heap[g]? = some (.cells cur 5 (0, 0)) ∧ ∀ j (hj : j < xs.length), cur[j]? = some (.int .u8 xs[j]) := by
  obtain ⟨A, c, hv, hc, hC⟩ := Kd.R_reads h
  obtain ⟨_, inner, hown, _⟩ := h
  rcases hown.2 with ⟨rfl, hz⟩ | ⟨g, cap, cur, rfl, hbase, hgb, r1, r2, r3, r4⟩
  · omega
  · simp only [Value.slice.injEq] at hv
    obtain ⟨rfl, _, rfl⟩ := hv
    refine ⟨g, cap, cur, rfl, hc, hbase, hgb, fun j hj => ?_⟩
    obtain ⟨ad, hA, hl, hcell⟩ := ReadsInt.get (C_int hC) hj
    obtain rfl := Option.some.inj hA
    rw [add_plain, blk_cell hgb] at hcell
    exact hcell
set_option maxHeartbeats 2000000 in
set_option maxRecDepth 100000 in
theorem ints_one (g1 c1 g2 c2 t1 t2 : Nat) (k : Int) (cur1 cur2 : Array Value) (fr1 fr2 : Nat × Nat) (w : World) (hc1 : 1 ≤ c1) (hc2 : 1 ≤ c2) (h1 : w.heap[g1]? = some (.cells cur1 t1 fr1)) (h2 : w.heap[g2]? = some (.cells cur2 t2 fr2)) (e1 : cur1[0]? = some (.int .i64 k)) (e2 : cur2[0]? = some (.int .i64 k)) :
    Calls Try.prog 54 #[.slice (some ⟨g1, 0, none⟩) 1 c1, .slice (some ⟨g2, 0, none⟩) 1 c2] w fun e w' => e = .returned (.bool true) ∧ Drawn0 w w' := by
  have z1 : ∀ n, (w.drewN n).cell? ⟨g1, 0, none⟩ = some (.int .i64 k) := fun n => by rw [cell_of_row (w.drewN n) g1 0 cur1 t1 fr1 h1]; exact e1
  have z2 : ∀ n, (w.drewN n).cell? ⟨g2, 0, none⟩ = some (.int .i64 k) := fun n => by rw [cell_of_row (w.drewN n) g2 0 cur2 t2 fr2 h2]; exact e2
  go_enter Try.func54, Try.ntmps54
  go_wp2_with fail
  go_loopw [5] (fun i wr => (i = .int .i64 0 ∨ i = .int .i64 1) ∧ Drawn0 w wr) (fun i _ => (1 - intOf i).toNat)
  case atStart => exact ⟨.inl rfl, Drawn0.refl _⟩
  case round =>
    obtain ⟨hi, ⟨n, rfl⟩⟩ := hrel
    have y1 := z1 n; have y2 := z2 n
    rcases hi with rfl | rfl
    · go_upto_region 6 with (fail)
      go_region
      go_wp2
      go_roundw
      case rel => exact ⟨.inr (by go_num), by repeat (first | exact ⟨_, rfl⟩ | apply Drawn0.step)⟩
      case measure => simp [intOf]
    · go_wp2_with fail
      go_ret
      exact ⟨rfl, by repeat (first | exact ⟨_, rfl⟩ | apply Drawn0.step)⟩
namespace L2
abbrev d0 : Dk := Dk.made 8 64
abbrev d1 : Dk := d0.written 3 [97, 98]
abbrev d2 : Dk := d1.crashed [] [(3, 1)]
abbrev d3 : Dk := d2.armed 0
abbrev d4 : Dk := d3.synced
theorem e1 : d0.writeE 3 [97, 98] = 0 := by decide +kernel
theorem r1 : d2.readE 3 = 0 := by decide +kernel
theorem r2 : d2.readB 3 = 97 :: List.replicate 63 0 := by decide +kernel
theorem e4 : d3.beginE = 20 := by decide +kernel
theorem k4 : d4.dead = true := by decide +kernel
theorem o4 : d4.ops = 1 := by decide +kernel
theorem f1 : ∀ n, d1.fresh n ≠ none ↔ n = 3 := by
  intro n
  have e : d1 = d1 := rfl
  have h3 : d1.fresh 3 ≠ none := by decide +kernel
  constructor
  · intro h
    apply Classical.byContradiction
    intro hn
    apply h
    show (Dk.written (Dk.made 8 64) 3 [97, 98]).fresh n = none
    simp [Dk.written, Dk.made, Dk.has, Dk.beginE, Dk.begun, Dk.did, Dk.put, hn]
  · rintro rfl; exact h3
end L2
set_option maxHeartbeats 4000000 in
set_option maxRecDepth 100000 in
theorem live2_calls (w : World) : Calls Try.prog 15 #[] w fun e w' => e = .returned (.bool true) ∧ Below w.heap.size w w' := by
  go_enter Try.func15, Try.ntmps15
  go_wp2_with fail
  refine (LS.new w 8 64 (by decide) (by decide) (by decide) (by decide)).mono ?_
  rintro e w1 ⟨d, rfl, h1⟩
  have H1 := Aside0.mk (show LS w w1 d L2.d0 from h1)
  clear h1
  go_wp2_with fail
  refine (num2_calls 0 w1).mono ?_
  rintro e w2 ⟨rfl, hd2⟩
  have H2 := Aside0.mk (H1.out.step hd2.below)
  clear hd2
  obtain ⟨Wb, hcv1, hC1, hB1⟩ := cv33 w2 97
  obtain ⟨Wd, hcv2, hC2, hB2⟩ := cv33 Wb 98
  obtain ⟨b0, hb0⟩ : ∃ b, b = w2.heap.size := ⟨_, rfl⟩
  obtain ⟨b1, hb1⟩ : ∃ b, b = Wb.heap.size := ⟨_, rfl⟩
  obtain ⟨b2, hb2⟩ : ∃ b, b = Wd.heap.size := ⟨_, rfl⟩
  obtain ⟨W3, hW3⟩ : ∃ W, W = Wd.alloc (.cells #[.slice (some ⟨b0, 0, none⟩) 1 1, .slice (some ⟨b1, 0, none⟩) 1 1] 33) := ⟨_, rfl⟩
  have hbl : Below Wd.heap.size Wd W3 := by rw [hW3]; exact below_alloc (Below.refl _ _) _
  have hR3 : Kd.C (Kd.slice 5 (Kd.int .u8)) W3 (some ⟨b2, 0, none⟩) 2 [[97], [98]] := by
    rw [← hb0] at hC1; rw [← hb1] at hC2
    exact rows2 (Kd.C_below (Kd.C_below hC1 hB2) hbl) (Kd.C_below hC2 hbl) (by rw [hW3, hb2]; exact blk_new Wd _)
  have H3 := Aside0.mk (And.intro (((H2.out.step hB1).step hB2).step hbl) hR3)
  clear hbl hR3 hC1 hC2 hB1 hB2
  go_wp2_with fail
  rw [← hb0, ← hb1, ← hb2, ← hW3]
  clear hW3 hb0 hb1 hb2 hcv1 hcv2
  refine (H3.out.1.write 3 (some ⟨b2, 0, none⟩) 2 [[97], [98]] H3.out.2 (by decide) (by intro x hx; have : x = 97 ∨ x = 98 := (by simpa using hx); omega)).mono ?_
  rintro e w4 ⟨rfl, h4, _⟩
  rw [show (Dk.writeE L2.d0 3 ([[97], [98]] : List (List Int)).flatten) = 0 from L2.e1]
  have H4 := Aside0.mk (show LS w w4 d L2.d1 from h4)
  clear h4
  go_wp2_with fail
  refine (num2_calls 0 w4).mono ?_
  rintro e w5 ⟨rfl, hd5⟩
  have H5 := Aside0.mk (H4.out.step hd5.below)
  clear hd5
  go_wp2_with fail
  refine (H5.out.unsafe1 3 L2.f1).mono ?_
  rintro e w6 ⟨g, cap, rfl, hcap, hg, hc6, hb6⟩
  obtain ⟨cur, hC6, hcur⟩ := hc6
  obtain ⟨X5, hX5⟩ : ∃ X : Nat → Prop, X = fun k => w.heap.size ≤ k ∧ k < w5.heap.size := ⟨_, rfl⟩
  obtain ⟨sb, mb, es, clock, safe, hp5⟩ := H5.out.tight
  rw [← hX5] at hp5
  have hXg : ∀ k, w5.heap.size ≤ k → ¬ X5 k := by rw [hX5]; intro k h1 h2; omega
  have hXw : ∀ k, X5 k → w.heap.size ≤ k := by rw [hX5]; exact fun k h => h.1
  obtain ⟨tb, htb⟩ : ∃ n, n = w6.heap.size := ⟨_, rfl⟩
  obtain ⟨W7, hW7⟩ : ∃ W, W = w6.alloc (.cells #[.int .i64 3, .int .i64 1] 44) := ⟨_, rfl⟩
  have hb7 : Below w6.heap.size w6 W7 := by rw [hW7]; exact below_alloc (Below.refl _ _) _
  have ht7 : W7.heap[tb]? = some (.cells (flat2 [(3, 1)]).toArray 44) := by rw [hW7, htb]; exact blk_new w6 _
  have hb57 : Below w5.heap.size w5 W7 := below_step hb6 hb7
  have h56 := hb6.size
  have HP7 := Aside0.mk (hp5.frm (S := fun _ => False) (Frm.of_below hb57) (fun _ _ h => h))
  have HT7 := Aside0.mk ht7
  have HG7 := Aside0.mk (blk_below hC6 hb7)
  have HX := Aside0.mk (And.intro hXg hXw)
  have HLE := Aside0.mk (And.intro hg (And.intro hcur (show w5.heap.size ≤ tb by omega)))
  have HB7 := Aside0.mk (below_step H5.out.bel hb57)
  clear hb6 hC6 ht7 hb7 hg hcur hX5 hp5 hXg hXw hb57 h56
  go_wp2_with fail
  rw [← hW7, ← htb]
  clear hW7 htb
  refine (crash_calls HP7.out [] [(3, 1)] none (some ⟨tb, 0, none⟩) 0 1 (fun W' _ => Kd.C_nil _ _) (fun W' hk => torn_lit _ (by decide) (blk_kept HT7.out hk (HX.out.1 _ HLE.out.2.2))) (by intro t ht; obtain rfl : t = (3, 1) := (by simpa using ht); decide)).mono ?_
  rintro e w8 ⟨rfl, h8, hf8⟩
  obtain ⟨sb8, mb8, es8, cl8, safe8, hp8⟩ := h8
  have HP8 := Aside0.mk (show DParts w8 X5 d sb8 mb8 es8 cl8 safe8 L2.d2 from hp8)
  have HG8 := Aside0.mk (hf8.blk HG7.out (HX.out.1 _ HLE.out.1))
  have HB8 := Aside0.mk (HB7.out.trans (hf8.below HX.out.2 HB7.out.size))
  have hf8s := hf8.size
  clear hf8 hp8
  go_wp2_with fail
  refine (read_calls HP8.out 3).mono ?_
  rintro e w9 ⟨v, rfl, hr9, hb9⟩
  rw [L2.r1]
  obtain ⟨g2, cap2, cur2, rfl, hcap2, hg2, hgb2, hcell2⟩ := own_blk hr9 (by rw [L2.r2]; decide)
  have hl64 : (Dk.readB L2.d2 3).length = 64 := by rw [L2.r2]; decide
  have q0 : cur2[0]? = some (.int .u8 97) := by have := hcell2 0 (by omega); simpa [L2.r2] using this
  have q1 : cur2[1]? = some (.int .u8 0) := by have := hcell2 1 (by omega); simpa [L2.r2] using this
  rw [hl64] at hcap2
  rw [hl64]
  have HP9 := Aside0.mk (HP8.out.frm (S := fun _ => False) (Frm.of_below hb9) (fun _ _ h => h))
  have HG9 := Aside0.mk (blk_below HG8.out hb9)
  have HB9 := Aside0.mk (below_step HB8.out hb9)
  have HV9 := Aside0.mk hgb2
  have HQ := Aside0.mk (And.intro q0 (And.intro q1 (show w5.heap.size ≤ g2 by have := blk_lt HT7.out; have := HLE.out.2.2; have := hf8s; omega)))
  clear hr9 hb9 hcell2 hgb2 q0 q1 hl64
  go_wp2_with fail
  refine (arm_calls HP9.out 0 (by decide)).mono ?_
  rintro e w10 ⟨rfl, hp10, hf10, _⟩
  have HP10 := Aside0.mk (show DParts w10 X5 d sb8 mb8 es8 cl8 safe8 L2.d3 from hp10)
  have hf10' : Frm X5 w9 w10 := hf10.mono fun k hk => by subst hk; exact HP9.out.xd
  have HG10 := Aside0.mk (hf10'.blk HG9.out (HX.out.1 _ HLE.out.1))
  have HV10 := Aside0.mk (hf10'.blk HV9.out (HX.out.1 _ HQ.out.2.2))
  have HB10 := Aside0.mk (HB9.out.trans (hf10'.below HX.out.2 HB9.out.size))
  clear hp10 hf10 hf10'
  go_wp2_with fail
  refine (sync_calls HP10.out).mono ?_
  rintro e w11 ⟨rfl, h11, hf11⟩
  rw [L2.e4]
  obtain ⟨sb11, mb11, es11, cl11, safe11, hp11⟩ := h11
  have HP11 := Aside0.mk (show DParts w11 X5 d sb11 mb11 es11 cl11 safe11 L2.d4 from hp11)
  have HG11 := Aside0.mk (hf11.blk HG10.out (HX.out.1 _ HLE.out.1))
  have HV11 := Aside0.mk (hf11.blk HV10.out (HX.out.1 _ HQ.out.2.2))
  have HB11 := Aside0.mk (HB10.out.trans (hf11.below HX.out.2 HB10.out.size))
  clear hp11 hf11
  obtain ⟨lb, hlb⟩ : ∃ n, n = w11.heap.size := ⟨_, rfl⟩
  obtain ⟨W12, hW12⟩ : ∃ W, W = w11.alloc (.cells #[.int .i64 3] 3) := ⟨_, rfl⟩
  have hb12 : Below w11.heap.size w11 W12 := by rw [hW12]; exact below_alloc (Below.refl _ _) _
  have HL12 : Aside0 (W12.heap[lb]? = some (.cells #[.int .i64 3] 3 (0, 0))) := ⟨by rw [hW12, hlb]; exact blk_new w11 _⟩
  have HG12 := Aside0.mk (blk_below HG11.out hb12)
  have HV12 := Aside0.mk (blk_below HV11.out hb12)
  have HP12 := Aside0.mk (HP11.out.frm (S := fun _ => False) (Frm.of_below hb12) (fun _ _ h => h))
  have HB12 := Aside0.mk (below_step HB11.out hb12)
  clear hb12
  go_wp2_with fail
  rw [← hW12, ← hlb]
  clear hW12 hlb
  refine (ints_one g cap lb 1 3 3 3 cur _ _ _ W12 hcap (by decide) HG12.out HL12.out HLE.out.2.1 rfl).mono ?_
  rintro e w13 ⟨rfl, ⟨n13, rfl⟩⟩
  go_wp2_with fail
  refine (num2_calls 0 _).mono ?_
  rintro e w14 ⟨rfl, ⟨n14, rfl⟩⟩
  have y0 : W12.cell? ⟨g2, 0, none⟩ = some (.int .u8 97) := by rw [blk_cell HV12.out]; exact HQ.out.1
  have y1 : W12.cell? ⟨g2, 1, none⟩ = some (.int .u8 0) := by rw [blk_cell HV12.out]; exact HQ.out.2.1
  go_wp2_with fail
  refine (num2_calls 20 _).mono ?_
  rintro e w15 ⟨rfl, ⟨n15, rfl⟩⟩
  go_wp2_with fail
  have HP15 := Aside0.mk (HP12.out.frm (S := fun _ => False) (w' := W12.drewN (n13 + n14 + n15)) (Frm.of_below (pw_below_drewN (Below.refl _ _) _)) (fun _ _ h => h))
  refine (dead_calls HP15.out).mono ?_
  rintro e w16 ⟨rfl, ⟨n16, rfl⟩⟩
  rw [L2.k4]
  go_wp2_with fail
  have HP16 := Aside0.mk (HP12.out.frm (S := fun _ => False) (w' := W12.drewN (n13 + n14 + n15 + n16)) (Frm.of_below (pw_below_drewN (Below.refl _ _) _)) (fun _ _ h => h))
  refine (ops_calls HP16.out).mono ?_
  rintro e w17 ⟨rfl, ⟨n17, rfl⟩⟩
  rw [L2.o4]
  go_wp2_with fail
  go_ret
  exact ⟨rfl, by repeat (first | (with_reducible first | exact HB12.out | apply below_alloc | apply pw_below_drewN | apply below_drew1) | exact HB12.out)⟩
end Go.Proofs.YteimienhaodfcaaK
