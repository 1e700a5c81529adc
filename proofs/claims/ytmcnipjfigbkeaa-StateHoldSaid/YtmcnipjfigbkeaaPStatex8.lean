-- Written by a program of this session (wip/myprint.py), which drives the kit's print; read and checked by Lean alone.
import Derived.Test.YtmcnipjfigbkeaaPStatex0
import Derived.Test.YtmcnipjfigbkeaaPStatex4
namespace Go.Proofs.Ytmcnipjfigbkeaa.PState
open Go.RowKit Go.Proofs.YtmcnipjfigbkeaaW.PrintWords Go.Proofs.YtmcnipjfigbkeaaW.PrintLast Go.Proofs.YtmcnipjfigbkeaaW.PrintMore
attribute [local go_sem] max2_int min2_int max_two min_two max_three min_three max_four min_four   -- for this text's walks alone
set_option linter.unusedVariables false
set_option linter.unusedSimpArgs false

/-! ### klaxonref08_Null: function 25 -/
def klaxonref08_Null.f  : Option (Int × Int) := some (2, 0)
set_option maxHeartbeats 8000000 in
set_option maxRecDepth 100000 in
theorem klaxonref08_Null.calls  (r1 : Int) (r2 : Int) (w : World) (h : klaxonref08_Null.f  = some (r1, r2)) :
    Calls Try.prog 25 #[] w fun e w' => e = .returned (.agg #[.int .i64 r1, .int .i64 r2]) ∧ Below w.heap.size w w' := by
  have hu23 := Try.underlying23
  have HB := Aside0.mk (Below.refl w.heap.size w)
  have H : (some (2, 0)) = some (r1, r2) := h
  clear h
  simp only [Option.some.injEq, Prod.mk.injEq] at H
  obtain ⟨rfl, rfl⟩ := H
  go_enter Try.func25, Try.ntmps25
  go_wp2_with (first | ((with_reducible refine gate_dst (N := 0) rfl ?_); refine box_event ?hg (N := 0) ?hd (cs := #[.int .i64 0, .int .i64 0]) (t := 23) ?hr ?_; (case hd => rfl); (case hg => rfl); (case hr => first | (go_simp; done) | (go_simp; rfl)); intro gb166 hg w1 hbox hb; have n0_ := Aside0.mk (below_step (by repeat (first | (with_reducible first | exact HB.out | apply below_alloc | apply pw_below_drewN | apply below_drew1) | exact HB.out)) hb); have n1_ := Aside0.mk (hbox); have n2_ := Aside0.mk ((by rw [hg]; exact (below_size (by repeat (first | (with_reducible first | exact HB.out | apply below_alloc | apply pw_below_drewN | apply below_drew1) | exact HB.out))) : w.heap.size ≤ gb166)); have n3_ := Aside0.mk ((by rw [hg]; exact (below_size (by repeat (first | (with_reducible first | exact HB.out | apply below_alloc | apply pw_below_drewN | apply below_drew1) | exact HB.out))) : w.heap.size ≤ gb166)); clear HB; have HB := n0_; have BK166 := n1_; have GW166 := n2_; have GE166 := n3_; clear n0_ n1_ n2_ n3_; clear hb hbox hg; have hcz2_0 : w1.cell? ⟨gb166, 0, none⟩ = some (.int .i64 0) := (blk_cell BK166.out 0).trans rfl; have hcz2_1 : w1.cell? ⟨gb166, 1, none⟩ = some (.int .i64 0) := (blk_cell BK166.out 1).trans rfl; have hfz2_0 := blk_frozen BK166.out 0; have hfz2_1 := blk_frozen BK166.out 1))
  refine bodyPost_ret (results_cell_row rfl _ _ gb166 23 #[.int .i64 2, .int .i64 0] (0, 0) _ rfl (by (with_reducible repeat (first | refine blk_drewN ?_ _ | refine blk_drew ?_ | refine blk_alloc ?_ _)); refine blk_put (cs := #[.int .i64 2, .int .i64 0]) ?_ 1 _ rfl; (with_reducible repeat (first | refine blk_drewN ?_ _ | refine blk_drew ?_ | refine blk_alloc ?_ _)); refine blk_put (cs := #[.int .i64 0, .int .i64 0]) ?_ 0 _ rfl; (with_reducible repeat (first | refine blk_drewN ?_ _ | refine blk_drew ?_ | refine blk_alloc ?_ _)); exact BK166.out) Try.underlying23 rfl (by kernel_rfl)) rfl ?_
  exact ⟨by first | rfl | (simp [errW_none, errW_some] <;> rfl) | (simp [*, errW_none, errW_some] <;> rfl), by repeat (first | (with_reducible first | exact HB.out | apply below_alloc | apply pw_below_drewN | apply below_drew1 | refine below_set ?_ GE166.out) | exact HB.out)⟩

/-! ### klaxonref17_New: function 20 -/
def klaxonref17_New.f (a0 : Int) : Option (Int × Int × Int × Int × Int × Int × Int) := (klaxonref08_Null.f).bind fun bt168 => (some (1, a0, (-1), (-1), a0, bt168.1, bt168.2))
set_option maxHeartbeats 8000000 in
set_option maxRecDepth 100000 in
theorem klaxonref17_New.calls (a0 : Int) (r1 : Int) (r2 : Int) (r3 : Int) (r4 : Int) (r5 : Int) (r6 : Int) (r7 : Int) (w : World) (h : klaxonref17_New.f a0 = some (r1, r2, r3, r4, r5, r6, r7)) :
    Calls Try.prog 20 #[.int .i64 a0] w fun e w' => e = .returned (.agg #[.int .i64 r1, .int .i64 r2, .int .i64 r3, .int .i64 r4, .int .i64 r5, .int .i64 r6, .int .i64 r7]) ∧ Below w.heap.size w w' := by
  have hu25 := Try.underlying25
  have HB := Aside0.mk (Below.refl w.heap.size w)
  have H : ((klaxonref08_Null.f).bind fun bt168 => (some (1, a0, (-1), (-1), a0, bt168.1, bt168.2))) = some (r1, r2, r3, r4, r5, r6, r7) := h
  clear h
  replace H := Option.bind_eq_some_iff.mp H
  obtain ⟨⟨t168, t169⟩, A20, H⟩ := H
  replace H : (some (1, a0, (-1), (-1), a0, t168, t169)) = some (r1, r2, r3, r4, r5, r6, r7) := H
  have A2 := Aside0.mk A20
  clear A20
  simp only [Option.some.injEq, Prod.mk.injEq] at H
  obtain ⟨rfl, rfl, rfl, rfl, rfl, rfl, rfl⟩ := H
  go_enter Try.func20, Try.ntmps20
  go_wp2_with (first | ((with_reducible refine gate_dst (N := 2) rfl ?_); refine box_event ?hg (N := 2) ?hd (cs := #[.int .i64 0, .int .i64 0, .int .i64 0, .int .i64 0, .int .i64 0, .int .i64 0, .int .i64 0]) (t := 25) ?hr ?_; (case hd => rfl); (case hg => rfl); (case hr => first | (go_simp; done) | (go_simp; rfl)); intro gb167 hg w3 hbox hb; have n0_ := Aside0.mk (below_step (by repeat (first | (with_reducible first | exact HB.out | apply below_alloc | apply pw_below_drewN | apply below_drew1) | exact HB.out)) hb); have n1_ := Aside0.mk (hbox); have n2_ := Aside0.mk ((by rw [hg]; exact (below_size (by repeat (first | (with_reducible first | exact HB.out | apply below_alloc | apply pw_below_drewN | apply below_drew1) | exact HB.out))) : w.heap.size ≤ gb167)); have n3_ := Aside0.mk ((by rw [hg]; exact (below_size (by repeat (first | (with_reducible first | exact HB.out | apply below_alloc | apply pw_below_drewN | apply below_drew1) | exact HB.out))) : w.heap.size ≤ gb167)); clear HB; have HB := n0_; have BK167 := n1_; have GW167 := n2_; have GE167 := n3_; clear n0_ n1_ n2_ n3_; clear hb hbox hg) | ((with_reducible refine gate_callee (f := 25) rfl ?_); refine goesL_ (some 5) rfl rfl Try.func25 (by kernel_rfl) rfl #[] rfl (by (try simp only [List.map_toArray, List.map_cons, List.map_nil]); first | done | rfl | (simp only [List.length_drop, List.length_take]; rfl)) ?_; (with_reducible refine (klaxonref08_Null.calls  t168 t169 _ A2.out).mono ?_); rintro e w4 ⟨rfl, hb⟩; refine ⟨_, rfl, ?_⟩; have n0_ := Aside0.mk (blk_below (g := gb167) (o := .cells #[.int .i64 0, .int .i64 0, .int .i64 0, .int .i64 0, .int .i64 0, .int .i64 0, .int .i64 0] 25 (0, 0)) (by (with_reducible repeat (first | refine blk_drewN ?_ _ | refine blk_drew ?_ | refine blk_alloc ?_ _)); exact BK167.out) hb); have n1_ := Aside0.mk (below_step (by repeat (first | (with_reducible first | exact HB.out | apply below_alloc | apply pw_below_drewN | apply below_drew1 | refine below_set ?_ GE167.out) | exact HB.out)) hb); clear BK167; clear HB; have BK167 := n0_; have HB := n1_; clear n0_ n1_; (try clear hb); (try clear hb2); (try clear hk); (try clear hi); have hcz5_0 : w4.cell? ⟨gb167, 0, none⟩ = some (.int .i64 0) := (blk_cell BK167.out 0).trans rfl; have hcz5_1 : w4.cell? ⟨gb167, 1, none⟩ = some (.int .i64 0) := (blk_cell BK167.out 1).trans rfl; have hcz5_2 : w4.cell? ⟨gb167, 2, none⟩ = some (.int .i64 0) := (blk_cell BK167.out 2).trans rfl; have hcz5_3 : w4.cell? ⟨gb167, 3, none⟩ = some (.int .i64 0) := (blk_cell BK167.out 3).trans rfl; have hcz5_4 : w4.cell? ⟨gb167, 4, none⟩ = some (.int .i64 0) := (blk_cell BK167.out 4).trans rfl; have hcz5_5 : w4.cell? ⟨gb167, 5, none⟩ = some (.int .i64 0) := (blk_cell BK167.out 5).trans rfl; have hcz5_6 : w4.cell? ⟨gb167, 6, none⟩ = some (.int .i64 0) := (blk_cell BK167.out 6).trans rfl; have hfz5_0 := blk_frozen BK167.out 0; have hfz5_1 := blk_frozen BK167.out 1; have hfz5_2 := blk_frozen BK167.out 2; have hfz5_3 := blk_frozen BK167.out 3; have hfz5_4 := blk_frozen BK167.out 4; have hfz5_5 := blk_frozen BK167.out 5; have hfz5_6 := blk_frozen BK167.out 6))
  refine bodyPost_ret (results_cell_row rfl _ _ gb167 25 #[.int .i64 1, .int .i64 a0, .int .i64 (-1), .int .i64 (-1), .int .i64 a0, .int .i64 t168, .int .i64 t169] (0, 0) _ rfl (by (with_reducible repeat (first | refine blk_drewN ?_ _ | refine blk_drew ?_ | refine blk_alloc ?_ _)); refine blk_put (cs := #[.int .i64 1, .int .i64 a0, .int .i64 (-1), .int .i64 (-1), .int .i64 a0, .int .i64 t168, .int .i64 0]) ?_ 6 _ rfl; (with_reducible repeat (first | refine blk_drewN ?_ _ | refine blk_drew ?_ | refine blk_alloc ?_ _)); refine blk_put (cs := #[.int .i64 1, .int .i64 a0, .int .i64 (-1), .int .i64 (-1), .int .i64 a0, .int .i64 0, .int .i64 0]) ?_ 5 _ rfl; (with_reducible repeat (first | refine blk_drewN ?_ _ | refine blk_drew ?_ | refine blk_alloc ?_ _)); refine blk_put (cs := #[.int .i64 1, .int .i64 a0, .int .i64 (-1), .int .i64 (-1), .int .i64 0, .int .i64 0, .int .i64 0]) ?_ 4 _ rfl; (with_reducible repeat (first | refine blk_drewN ?_ _ | refine blk_drew ?_ | refine blk_alloc ?_ _)); refine blk_put (cs := #[.int .i64 1, .int .i64 a0, .int .i64 (-1), .int .i64 0, .int .i64 0, .int .i64 0, .int .i64 0]) ?_ 3 _ rfl; (with_reducible repeat (first | refine blk_drewN ?_ _ | refine blk_drew ?_ | refine blk_alloc ?_ _)); refine blk_put (cs := #[.int .i64 1, .int .i64 a0, .int .i64 0, .int .i64 0, .int .i64 0, .int .i64 0, .int .i64 0]) ?_ 2 _ rfl; (with_reducible repeat (first | refine blk_drewN ?_ _ | refine blk_drew ?_ | refine blk_alloc ?_ _)); refine blk_put (cs := #[.int .i64 1, .int .i64 0, .int .i64 0, .int .i64 0, .int .i64 0, .int .i64 0, .int .i64 0]) ?_ 1 _ rfl; (with_reducible repeat (first | refine blk_drewN ?_ _ | refine blk_drew ?_ | refine blk_alloc ?_ _)); refine blk_put (cs := #[.int .i64 0, .int .i64 0, .int .i64 0, .int .i64 0, .int .i64 0, .int .i64 0, .int .i64 0]) ?_ 0 _ rfl; (with_reducible repeat (first | refine blk_drewN ?_ _ | refine blk_drew ?_ | refine blk_alloc ?_ _)); exact BK167.out) Try.underlying25 rfl (by kernel_rfl)) rfl ?_
  exact ⟨by first | rfl | (simp [errW_none, errW_some] <;> rfl) | (simp [*, errW_none, errW_some] <;> rfl), by repeat (first | (with_reducible first | exact HB.out | apply below_alloc | apply pw_below_drewN | apply below_drew1 | refine below_set ?_ GE167.out) | exact HB.out)⟩

/-! ### klaxonref17_Means: function 22 -/
mutual
def klaxonref17_Means.j1 : Nat → Int → Int → Option (Int)
  | 0, _, _ => none
  | k + 1, x1, x5 => if x5 = 1 then (some x1) else (if x5 = 2 then (some 2) else (if x5 = 3 then (some 1) else (some 0)))
def klaxonref17_Means.j0 : Nat → Int → Int → Int → Bool → Int → Int → Int → Int → Option (Int)
  | 0, _, _, _, _, _, _, _, _ => none
  | k + 1, x1, x5, x6, x7, x171000, x171001, x171002, x171003 => if x7 = true then (some x1) else (if x6 = 3 then (klaxonref17_Means.j1 k x1 x171002) else (if x6 = 4 then (klaxonref17_Means.j1 k x1 x171003) else (klaxonref17_Means.j1 k x1 x5)))
end
def klaxonref17_Means.f (k : Nat) (a0_0 : Int) (a0_1 : Int) (a0_2 : Int) (a0_3 : Int) (a1 : Int) : Option (Int) := if a1 = 1 then (klaxonref17_Means.j0 k a1 0 a1 (a1 == 1) a0_0 a0_1 a0_2 a0_3) else (klaxonref17_Means.j0 k a1 0 a1 (a1 == 2) a0_0 a0_1 a0_2 a0_3)
theorem klaxonref17_Means.mono_l : ∀ k, (∀ y0 y1, LeO (klaxonref17_Means.j1 k y0 y1) (klaxonref17_Means.j1 (k + 1) y0 y1)) ∧ (∀ y0 y1 y2 y3 y4 y5 y6 y7, LeO (klaxonref17_Means.j0 k y0 y1 y2 y3 y4 y5 y6 y7) (klaxonref17_Means.j0 (k + 1) y0 y1 y2 y3 y4 y5 y6 y7))
  | 0 => ⟨fun _ _ r h => by simp [klaxonref17_Means.j1] at h, fun _ _ _ _ _ _ _ _ r h => by simp [klaxonref17_Means.j0] at h⟩
  | k + 1 => by
    obtain ⟨ih0, ih1⟩ := klaxonref17_Means.mono_l k
    refine ⟨?_, ?_⟩
    · intro y0 y1
      unfold klaxonref17_Means.j1
      repeat' first
      | (with_reducible exact ih0 _ _)
      | (with_reducible exact ih1 _ _ _ _ _ _ _ _)
      | (with_reducible exact LeO.refl _)
      | (with_reducible exact LeO.none _)
      | (with_reducible refine LeO.ite ?_ ?_)
      | (with_reducible refine LeO.bind ?_ (fun _ => ?_))
      | exact ih0 _ _
      | exact ih1 _ _ _ _ _ _ _ _
      | exact LeO.none _
      | refine LeO.ite ?_ ?_
      | refine LeO.bind ?_ (fun _ => ?_)
    · intro y0 y1 y2 y3 y4 y5 y6 y7
      unfold klaxonref17_Means.j0
      repeat' first
      | (with_reducible exact ih0 _ _)
      | (with_reducible exact ih1 _ _ _ _ _ _ _ _)
      | (with_reducible exact LeO.refl _)
      | (with_reducible exact LeO.none _)
      | (with_reducible refine LeO.ite ?_ ?_)
      | (with_reducible refine LeO.bind ?_ (fun _ => ?_))
      | exact ih0 _ _
      | exact ih1 _ _ _ _ _ _ _ _
      | exact LeO.none _
      | refine LeO.ite ?_ ?_
      | refine LeO.bind ?_ (fun _ => ?_)
theorem klaxonref17_Means.mono : ∀ a0 a1 a2 a3 a4 k, LeO (klaxonref17_Means.f k a0 a1 a2 a3 a4) (klaxonref17_Means.f (k + 1) a0 a1 a2 a3 a4) := by
  intro a0 a1 a2 a3 a4 k
  obtain ⟨ih0, ih1⟩ := klaxonref17_Means.mono_l k
  unfold klaxonref17_Means.f
  repeat' first
      | (with_reducible exact ih0 _ _)
      | (with_reducible exact ih1 _ _ _ _ _ _ _ _)
      | (with_reducible exact LeO.refl _)
      | (with_reducible exact LeO.none _)
      | (with_reducible refine LeO.ite ?_ ?_)
      | (with_reducible refine LeO.bind ?_ (fun _ => ?_))
      | exact ih0 _ _
      | exact ih1 _ _ _ _ _ _ _ _
      | exact LeO.none _
      | refine LeO.ite ?_ ?_
      | refine LeO.bind ?_ (fun _ => ?_)
set_option maxHeartbeats 8000000 in
set_option maxRecDepth 100000 in
theorem klaxonref17_Means.calls (k : Nat) (a0_0 : Int) (a0_1 : Int) (a0_2 : Int) (a0_3 : Int) (a1 : Int) (r : Int) (w : World) (h : klaxonref17_Means.f k a0_0 a0_1 a0_2 a0_3 a1 = some r) :
    Calls Try.prog 22 #[.agg #[.int .i64 a0_0, .int .i64 a0_1, .int .i64 a0_2, .int .i64 a0_3], .int .i64 a1] w fun e w' => e = .returned (.int .i64 r) ∧ Below w.heap.size w w' := by
  have hu27 := Try.underlying27
  have HB := Aside0.mk (Below.refl w.heap.size w)
  have H : (if a1 = 1 then (klaxonref17_Means.j0 k a1 0 a1 (a1 == 1) a0_0 a0_1 a0_2 a0_3) else (klaxonref17_Means.j0 k a1 0 a1 (a1 == 2) a0_0 a0_1 a0_2 a0_3)) = some r := h
  clear h
  have HC3 := Aside0.mk H
  clear H
  go_enter Try.func22, Try.ntmps22
  go_upto_block 0 with (first | ((with_reducible refine gate_dst (N := 2) rfl ?_); refine box_event ?hg (N := 2) ?hd (cs := #[.int .i64 a0_0, .int .i64 a0_1, .int .i64 a0_2, .int .i64 a0_3]) (t := 27) ?hr ?_; (case hd => rfl); (case hg => rfl); (case hr => first | (go_simp; done) | (go_simp; rfl)); intro gb170 hg w4 hbox hb; have n0_ := Aside0.mk (below_step (by repeat (first | (with_reducible first | exact HB.out | apply below_alloc | apply pw_below_drewN | apply below_drew1) | exact HB.out)) hb); have n1_ := Aside0.mk (hbox); have n2_ := Aside0.mk ((by rw [hg]; exact (below_size (by repeat (first | (with_reducible first | exact HB.out | apply below_alloc | apply pw_below_drewN | apply below_drew1) | exact HB.out))) : w.heap.size ≤ gb170)); have n3_ := Aside0.mk ((by rw [hg]; exact (below_size (by repeat (first | (with_reducible first | exact HB.out | apply below_alloc | apply pw_below_drewN | apply below_drew1) | exact HB.out))) : w.heap.size ≤ gb170)); clear HB; have HB := n0_; have BK170 := n1_; have GW170 := n2_; have GE170 := n3_; clear n0_ n1_ n2_ n3_; clear hb hbox hg))
  (try simp only [Act.put, List.setIfInBounds_toArray, List.set_cons_zero, List.set_cons_succ])
  go_cut [5] (fun v5 wc => ∃ (kq : Nat) (x5_2 : Int), v5 = .int .i64 x5_2 ∧ Aside0 (klaxonref17_Means.j1 kq a1 x5_2 = some r) ∧ Aside0 (kq ≤ k) ∧ Aside0 (wc.heap[gb170]? = some (.cells #[.int .i64 a0_0, .int .i64 a0_1, .int .i64 a0_2, .int .i64 a0_3] 27 (0, 0))) ∧ Aside0 (Below w.heap.size w wc))
  case first =>
    have H := HC3.out
    clear HC3
    have HC5 := Aside0.mk H
    clear H
    go_upto_if 7 with (fail)
    go_cut [7] (fun v7 wc => ∃ (kq : Nat) (x7_4 : Bool), v7 = .bool x7_4 ∧ Aside0 (klaxonref17_Means.j0 kq a1 0 a1 x7_4 a0_0 a0_1 a0_2 a0_3 = some r) ∧ Aside0 (kq ≤ k) ∧ Aside0 (wc.heap[gb170]? = some (.cells #[.int .i64 a0_0, .int .i64 a0_1, .int .i64 a0_2, .int .i64 a0_3] 27 (0, 0))) ∧ Aside0 (Below w.heap.size w wc))
    case first =>
      have H := HC5.out
      clear HC5
      by_cases c6 : a1 = 1
      · rw [if_pos c6] at H
        have c6b0 : (a1 == 1) = true := beq_iff_eq.mpr c6
        have c6b1 : (a1 != 1) = false := bne_eq_false_iff_eq.mpr c6
        clear c6
        (first | rw [c6b0] | (simp only [i64_w, i32_w]; rw [c6b0]) | skip)
        have H' := Aside0.mk H
        clear H
        go_wp2
        go_meet
        case rel => exact ⟨_, ((a1 == 1)), (by first | rfl | (simp; done) | (simp [*]; done)), H', ⟨by first | omega | exact Nat.le_refl _⟩, ⟨by (with_reducible repeat (first | refine blk_drewN ?_ _ | refine blk_drew ?_ | refine blk_alloc ?_ _)); exact BK170.out⟩, ⟨by repeat (first | (with_reducible first | exact HB.out | apply below_alloc | apply pw_below_drewN | apply below_drew1 | refine below_set ?_ GE170.out) | exact HB.out)⟩⟩
      · rw [if_neg c6] at H
        have c6b0 : (a1 == 1) = false := beq_eq_false_iff_ne.mpr c6
        have c6b1 : (a1 != 1) = true := bne_iff_ne.mpr c6
        (first | rw [c6b0] | (simp only [i64_w, i32_w]; rw [c6b0]) | skip)
        have H' := Aside0.mk H
        clear H
        go_wp2
        go_meet
        case rel => exact ⟨_, ((a1 == 2)), (by first | rfl | (simp; done) | (simp [*]; done)), H', ⟨by first | omega | exact Nat.le_refl _⟩, ⟨by (with_reducible repeat (first | refine blk_drewN ?_ _ | refine blk_drew ?_ | refine blk_alloc ?_ _)); exact BK170.out⟩, ⟨by repeat (first | (with_reducible first | exact HB.out | apply below_alloc | apply pw_below_drewN | apply below_drew1 | refine below_set ?_ GE170.out) | exact HB.out)⟩⟩
    case rest =>
      clear HC5
      try clear c2
      try clear p2
      try clear c6
      try clear c6b0
      try clear c6b1
      obtain ⟨kq, x7_4, rfl, HA, HJ4, BK170, HB⟩ := hcut
      cases kq with
      | zero => exact absurd HA.out (by simp [klaxonref17_Means.j0])
      | succ kj4 =>
        have H := HA.out
        clear HA
        simp only [klaxonref17_Means.j0] at H
        by_cases c7 : x7_4 = true
        · subst c7
          have H1 : (some a1) = some r := by rw [if_pos rfl] at H; exact H
          clear H
          have H := H1
          clear H1
          obtain rfl := Option.some.inj H
          go_wp2
          go_ret
          exact ⟨by first | rfl | (simp [errW_none, errW_some] <;> rfl) | (simp [*, errW_none, errW_some] <;> rfl), by repeat (first | (with_reducible first | exact HB.out | apply below_alloc | apply pw_below_drewN | apply below_drew1 | refine below_set ?_ GE170.out) | exact HB.out)⟩
        · replace c7 := Bool.eq_false_iff.mpr c7
          subst c7
          have H1 : (if a1 = 3 then (klaxonref17_Means.j1 kj4 a1 a0_2) else (if a1 = 4 then (klaxonref17_Means.j1 kj4 a1 a0_3) else (klaxonref17_Means.j1 kj4 a1 0))) = some r := by rw [if_neg (show ¬ (false = true) by decide)] at H; exact H
          clear H
          have H := H1
          clear H1
          by_cases c8 : a1 = 3
          · rw [if_pos c8] at H
            have c8b0 : (a1 == 3) = true := beq_iff_eq.mpr c8
            have c8b1 : (a1 != 3) = false := bne_eq_false_iff_eq.mpr c8
            clear c8
            have H' := Aside0.mk H
            clear H
            have hcz9_0 : wc.cell? ⟨gb170, 0, none⟩ = some (.int .i64 a0_0) := (blk_cell BK170.out 0).trans rfl
            have hcz9_1 : wc.cell? ⟨gb170, 1, none⟩ = some (.int .i64 a0_1) := (blk_cell BK170.out 1).trans rfl
            have hcz9_2 : wc.cell? ⟨gb170, 2, none⟩ = some (.int .i64 a0_2) := (blk_cell BK170.out 2).trans rfl
            have hcz9_3 : wc.cell? ⟨gb170, 3, none⟩ = some (.int .i64 a0_3) := (blk_cell BK170.out 3).trans rfl
            have hfz9_0 := blk_frozen BK170.out 0
            have hfz9_1 := blk_frozen BK170.out 1
            have hfz9_2 := blk_frozen BK170.out 2
            have hfz9_3 := blk_frozen BK170.out 3
            go_wp2
            go_meet
            case rel => exact ⟨_, (a0_2), (by first | rfl | (simp; done) | (simp [*]; done)), H', ⟨by have := HJ4.out; first | omega | exact Nat.le_refl _⟩, ⟨by (with_reducible repeat (first | refine blk_drewN ?_ _ | refine blk_drew ?_ | refine blk_alloc ?_ _)); exact BK170.out⟩, ⟨by repeat (first | (with_reducible first | exact HB.out | apply below_alloc | apply pw_below_drewN | apply below_drew1 | refine below_set ?_ GE170.out) | exact HB.out)⟩⟩
          · rw [if_neg c8] at H
            have c8b0 : (a1 == 3) = false := beq_eq_false_iff_ne.mpr c8
            have c8b1 : (a1 != 3) = true := bne_iff_ne.mpr c8
            by_cases c10 : a1 = 4
            · rw [if_pos c10] at H
              have c10b0 : (a1 == 4) = true := beq_iff_eq.mpr c10
              have c10b1 : (a1 != 4) = false := bne_eq_false_iff_eq.mpr c10
              clear c10
              have H' := Aside0.mk H
              clear H
              have hcz11_0 : wc.cell? ⟨gb170, 0, none⟩ = some (.int .i64 a0_0) := (blk_cell BK170.out 0).trans rfl
              have hcz11_1 : wc.cell? ⟨gb170, 1, none⟩ = some (.int .i64 a0_1) := (blk_cell BK170.out 1).trans rfl
              have hcz11_2 : wc.cell? ⟨gb170, 2, none⟩ = some (.int .i64 a0_2) := (blk_cell BK170.out 2).trans rfl
              have hcz11_3 : wc.cell? ⟨gb170, 3, none⟩ = some (.int .i64 a0_3) := (blk_cell BK170.out 3).trans rfl
              have hfz11_0 := blk_frozen BK170.out 0
              have hfz11_1 := blk_frozen BK170.out 1
              have hfz11_2 := blk_frozen BK170.out 2
              have hfz11_3 := blk_frozen BK170.out 3
              go_wp2
              go_meet
              case rel => exact ⟨_, (a0_3), (by first | rfl | (simp; done) | (simp [*]; done)), H', ⟨by have := HJ4.out; first | omega | exact Nat.le_refl _⟩, ⟨by (with_reducible repeat (first | refine blk_drewN ?_ _ | refine blk_drew ?_ | refine blk_alloc ?_ _)); exact BK170.out⟩, ⟨by repeat (first | (with_reducible first | exact HB.out | apply below_alloc | apply pw_below_drewN | apply below_drew1 | refine below_set ?_ GE170.out) | exact HB.out)⟩⟩
            · rw [if_neg c10] at H
              have c10b0 : (a1 == 4) = false := beq_eq_false_iff_ne.mpr c10
              have c10b1 : (a1 != 4) = true := bne_iff_ne.mpr c10
              have H' := Aside0.mk H
              clear H
              go_wp2
              go_meet
              case rel => exact ⟨_, (0), (by first | rfl | (simp; done) | (simp [*]; done)), H', ⟨by have := HJ4.out; first | omega | exact Nat.le_refl _⟩, ⟨by (with_reducible repeat (first | refine blk_drewN ?_ _ | refine blk_drew ?_ | refine blk_alloc ?_ _)); exact BK170.out⟩, ⟨by repeat (first | (with_reducible first | exact HB.out | apply below_alloc | apply pw_below_drewN | apply below_drew1 | refine below_set ?_ GE170.out) | exact HB.out)⟩⟩
  case rest =>
    clear HC3
    try clear c1
    try clear c2
    try clear p2
    try clear c6
    try clear c6b0
    try clear c6b1
    try clear c7
    try clear c8
    try clear c8b0
    try clear c8b1
    try clear c10
    try clear c10b0
    try clear c10b1
    try clear hcz11_0
    try clear hcz11_1
    try clear hcz11_2
    try clear hcz11_3
    try clear hcz9_0
    try clear hcz9_1
    try clear hcz9_2
    try clear hcz9_3
    try clear hfz11_0
    try clear hfz11_1
    try clear hfz11_2
    try clear hfz11_3
    try clear hfz9_0
    try clear hfz9_1
    try clear hfz9_2
    try clear hfz9_3
    try clear p2
    obtain ⟨kq, x5_2, rfl, HA, HJ2, BK170, HB⟩ := hcut
    cases kq with
    | zero => exact absurd HA.out (by simp [klaxonref17_Means.j1])
    | succ kj2 =>
      have H := HA.out
      clear HA
      simp only [klaxonref17_Means.j1] at H
      by_cases c12 : x5_2 = 1
      · rw [if_pos c12] at H
        have c12b0 : (x5_2 == 1) = true := beq_iff_eq.mpr c12
        have c12b1 : (x5_2 != 1) = false := bne_eq_false_iff_eq.mpr c12
        clear c12
        obtain rfl := Option.some.inj H
        go_wp2
        go_ret
        exact ⟨by first | rfl | (simp [errW_none, errW_some] <;> rfl) | (simp [*, errW_none, errW_some] <;> rfl), by repeat (first | (with_reducible first | exact HB.out | apply below_alloc | apply pw_below_drewN | apply below_drew1 | refine below_set ?_ GE170.out) | exact HB.out)⟩
      · rw [if_neg c12] at H
        have c12b0 : (x5_2 == 1) = false := beq_eq_false_iff_ne.mpr c12
        have c12b1 : (x5_2 != 1) = true := bne_iff_ne.mpr c12
        by_cases c13 : x5_2 = 2
        · rw [if_pos c13] at H
          have c13b0 : (x5_2 == 2) = true := beq_iff_eq.mpr c13
          have c13b1 : (x5_2 != 2) = false := bne_eq_false_iff_eq.mpr c13
          clear c13
          obtain rfl := Option.some.inj H
          go_wp2
          go_ret
          exact ⟨by first | rfl | (simp [errW_none, errW_some] <;> rfl) | (simp [*, errW_none, errW_some] <;> rfl), by repeat (first | (with_reducible first | exact HB.out | apply below_alloc | apply pw_below_drewN | apply below_drew1 | refine below_set ?_ GE170.out) | exact HB.out)⟩
        · rw [if_neg c13] at H
          have c13b0 : (x5_2 == 2) = false := beq_eq_false_iff_ne.mpr c13
          have c13b1 : (x5_2 != 2) = true := bne_iff_ne.mpr c13
          by_cases c14 : x5_2 = 3
          · rw [if_pos c14] at H
            have c14b0 : (x5_2 == 3) = true := beq_iff_eq.mpr c14
            have c14b1 : (x5_2 != 3) = false := bne_eq_false_iff_eq.mpr c14
            clear c14
            obtain rfl := Option.some.inj H
            go_wp2
            go_ret
            exact ⟨by first | rfl | (simp [errW_none, errW_some] <;> rfl) | (simp [*, errW_none, errW_some] <;> rfl), by repeat (first | (with_reducible first | exact HB.out | apply below_alloc | apply pw_below_drewN | apply below_drew1 | refine below_set ?_ GE170.out) | exact HB.out)⟩
          · rw [if_neg c14] at H
            have c14b0 : (x5_2 == 3) = false := beq_eq_false_iff_ne.mpr c14
            have c14b1 : (x5_2 != 3) = true := bne_iff_ne.mpr c14
            obtain rfl := Option.some.inj H
            go_wp2
            go_ret
            exact ⟨by first | rfl | (simp [errW_none, errW_some] <;> rfl) | (simp [*, errW_none, errW_some] <;> rfl), by repeat (first | (with_reducible first | exact HB.out | apply below_alloc | apply pw_below_drewN | apply below_drew1 | refine below_set ?_ GE170.out) | exact HB.out)⟩


/-! ### klaxonref17_to: function 57 -/
open Go.KState
def klaxonref17_to.f (a0_0 : Int) (a0_1 : Int) (a0_2 : Int) (a0_3 : Int) (a0_4 : Int) (a0_5 : Int) (a0_6 : Int) (a1 : Int) (a2 : Int) : Option (Int × Int × Int × Int × Int × Int × Int) :=
  some (a1, (if a0_0 = a1 then a0_1 else a2), (if a1 = 2 then a0_2 else if a1 = 3 then a0_2 else -1), (if a1 = 2 then (if a0_0 = a1 then a0_3 else -1) else if a1 = 3 then (if a0_0 = a1 then a0_3 else -1) else -1), a0_4, a0_5, a0_6)

set_option maxHeartbeats 400000 in
set_option maxRecDepth 100000 in
theorem klaxonref17_to.calls (a0_0 : Int) (a0_1 : Int) (a0_2 : Int) (a0_3 : Int) (a0_4 : Int) (a0_5 : Int) (a0_6 : Int) (a1 : Int) (a2 : Int) (r1 r2 r3 r4 r5 r6 r7 : Int) (w : World) (h : klaxonref17_to.f a0_0 a0_1 a0_2 a0_3 a0_4 a0_5 a0_6 a1 a2 = some (r1, r2, r3, r4, r5, r6, r7)) :
    Calls Try.prog 57 #[.agg #[.int .i64 a0_0, .int .i64 a0_1, .int .i64 a0_2, .int .i64 a0_3, .int .i64 a0_4, .int .i64 a0_5, .int .i64 a0_6], .int .i64 a1, .int .i64 a2] w fun e w' => e = .returned (.agg #[.int .i64 r1, .int .i64 r2, .int .i64 r3, .int .i64 r4, .int .i64 r5, .int .i64 r6, .int .i64 r7]) ∧ Below w.heap.size w w' := by
  simp only [klaxonref17_to.f, Option.some.injEq, Prod.mk.injEq] at h
  obtain ⟨rfl, h2, h3, h4, rfl, rfl, rfl⟩ := h
  by_cases h5 : a0_0 = a1 <;> by_cases h6 : a1 = 2 <;> by_cases h7 : a1 = 3
  all_goals (try (exfalso; omega))
  all_goals (try subst h5) <;> (try subst h6) <;> (try subst h7)
  all_goals simp [*] at h2 h3 h4
  all_goals subst h2 h3 h4
  all_goals
    (try have h5b := bne_iff_ne.mpr h5); (try have h6b := bne_iff_ne.mpr h6); (try have h7b := bne_iff_ne.mpr h7)
    go_enter Try.func57, Try.ntmps57
    go_wp2
    refine bodyPost_ret (v := .agg #[_, _, _, _, _, _, _]) (by simp [results, Try.results57, go_sem]; first | done | rfl) rfl ⟨rfl, ((Below.refl _ _).alloc (Nat.le_refl _) _).alloc (by simp) _⟩


/-! ### klaxonref17_Step: function 24 -/
open Go.KState
theorem means_ref (h0 h1 h2 h3 a : Int) : klaxonref17_Means.f 2 h0 h1 h2 h3 a = some (meansP h2 h3 a) := by
  unfold klaxonref17_Means.f meansP polP
  simp only [klaxonref17_Means.j0, klaxonref17_Means.j1]
  by_cases h1 : a = 1
  · subst h1; simp
  by_cases h2 : a = 2
  · subst h2; simp
  by_cases h3 : a = 3
  · (subst h3; simp; repeat' split) <;> rfl
  by_cases h4 : a = 4
  · (subst h4; simp; repeat' split) <;> rfl
  simp [h1, h2, h3, h4]

theorem to_ref_calls (x0 x1 x2 x3 x4 x5 x6 s now : Int) (w : World) :
    Calls Try.prog 57 #[.agg #[.int .i64 x0, .int .i64 x1, .int .i64 x2, .int .i64 x3, .int .i64 x4, .int .i64 x5, .int .i64 x6], .int .i64 s, .int .i64 now] w fun e w' => e = .returned (.agg #[.int .i64 s, .int .i64 (toS x0 x1 now s), .int .i64 (toF x2 s), .int .i64 (toQ x0 x3 s), .int .i64 x4, .int .i64 x5, .int .i64 x6]) ∧ Below w.heap.size w w' := by
  refine klaxonref17_to.calls _ _ _ _ _ _ _ _ _ _ _ _ _ _ _ _ w ?_
  simp only [klaxonref17_to.f, toS, toF, toQ, Option.some.injEq, Prod.mk.injEq, true_and]
  refine ⟨?_, ?_, trivial⟩ <;> (repeat split) <;> simp_all

/-- What the reference's Means leaves as it was: the instance, the holds, the result's block. -/
def InstAt (w : World) (b : Nat) (x0 x1 x2 x3 x4 x5 x6 : Int) : Prop := w.heap[b]? = some (.cells #[.int .i64 x0, .int .i64 x1, .int .i64 x2, .int .i64 x3, .int .i64 x4, .int .i64 x5, .int .i64 x6] 25 (0, 0))
def HoldsAt (w : World) (b : Nat) (h0 h1 h2 h3 : Int) : Prop := w.heap[b]? = some (.cells #[.int .i64 h0, .int .i64 h1, .int .i64 h2, .int .i64 h3] 27 (0, 0))
theorem InstAt.cells {w : World} {b : Nat} {x0 x1 x2 x3 x4 x5 x6 : Int} (h : InstAt w b x0 x1 x2 x3 x4 x5 x6) :
   (w.cell? ⟨b, 0, none⟩ = some (.int .i64 x0) ∧ w.cell? ⟨b, 1, none⟩ = some (.int .i64 x1) ∧ w.cell? ⟨b, 2, none⟩ = some (.int .i64 x2) ∧ w.cell? ⟨b, 3, none⟩ = some (.int .i64 x3) ∧
   w.cell? ⟨b, 4, none⟩ = some (.int .i64 x4) ∧ w.cell? ⟨b, 5, none⟩ = some (.int .i64 x5) ∧ w.cell? ⟨b, 6, none⟩ = some (.int .i64 x6)) ∧ w.frozen? ⟨b, 2, none⟩ = false ∧ w.frozen? ⟨b, 3, none⟩ = false :=
  ⟨⟨blk_cell h 0, blk_cell h 1, blk_cell h 2, blk_cell h 3, blk_cell h 4, blk_cell h 5, blk_cell h 6⟩, blk_frozen h 2, blk_frozen h 3⟩
theorem HoldsAt.cells {w : World} {b : Nat} {h0 h1 h2 h3 : Int} (h : HoldsAt w b h0 h1 h2 h3) : w.cell? ⟨b, 0, none⟩ = some (.int .i64 h0) ∧ w.cell? ⟨b, 1, none⟩ = some (.int .i64 h1) := ⟨blk_cell h 0, blk_cell h 1⟩
theorem four_blocks (w : World) (o1 o2 o3 o4 : Obj) : ((((w.alloc o1).alloc o2).alloc o3).alloc o4).heap[w.heap.size]? = some o1 ∧ ((((w.alloc o1).alloc o2).alloc o3).alloc o4).heap[w.heap.size + 1]? = some o2 ∧ ((((w.alloc o1).alloc o2).alloc o3).alloc o4).heap[w.heap.size + 1 + 1 + 1]? = some o4 := by
  have a := heap_alloc_new w o1
  have b := heap_alloc_new (w.alloc o1) o2
  have c := heap_alloc_new (((w.alloc o1).alloc o2).alloc o3) o4
  simp only [World.size_alloc] at b c
  exact ⟨blk_alloc (blk_alloc (blk_alloc a _) _) _, blk_alloc (blk_alloc b _) _, c⟩
theorem after_means_ref {W w1 : World} {B : Nat} {x0 x1 x2 x3 x4 x5 x6 h0 h1 h2 h3 : Int} (hb : Below W.heap.size W w1)
    (hs : InstAt W B x0 x1 x2 x3 x4 x5 x6) (hh : HoldsAt W (B + 1) h0 h1 h2 h3) (hz : ResZ W (B + 1 + 1 + 1)) :
    InstAt w1 B x0 x1 x2 x3 x4 x5 x6 ∧ HoldsAt w1 (B + 1) h0 h1 h2 h3 ∧ ResZ w1 (B + 1 + 1 + 1) :=
  ⟨(hb.block _ (blk_lt hs)).trans hs, (hb.block _ (blk_lt hh)).trans hh, (hb.block _ (blk_lt hz)).trans hz⟩

theorem ResZ.next {w1 w2 : World} {b : Nat} (h : ResZ w1 b) (hb : Below w1.heap.size w1 w2) : ResZ w2 b := (hb.block _ (blk_lt h)).trans h
theorem ResZ.far {w1 : World} {b c i : Nat} {v : Value} (h : ResZ w1 b) (hne : b ≠ c) : ResZ (w1.setCell ⟨c, i, none⟩ v) b := blk_far h hne v
theorem Below.after {B : Nat} {w w1 w2 : World} (h : Below B w w1) (hB : B ≤ w1.heap.size) (k : Below w1.heap.size w1 w2) : Below B w w2 := h.trans (k.mono hB)

set_option maxHeartbeats 400000 in
set_option maxRecDepth 100000 in
theorem ref_step_a3 (x0 x1 x2 x3 x4 x5 x6 h0 h1 h2 h3 a2 v0 v1 a4 m : Int) (w : World) (hm : meansP h2 h3 a2 = m) (hmv : m = 2) (h5 : x0 = 3) :
    Calls Try.prog 24 #[.agg #[.int .i64 x0, .int .i64 x1, .int .i64 x2, .int .i64 x3, .int .i64 x4, .int .i64 x5, .int .i64 x6], .agg #[.int .i64 h0, .int .i64 h1, .int .i64 h2, .int .i64 h3], .int .i64 a2, .agg #[.int .i64 v0, .int .i64 v1], .int .i64 a4] w fun e w' =>
      e = .returned (.agg #[.int .i64 3, .int .i64 x1, .int .i64 x2, .int .i64 (-1), .int .i64 a4, .int .i64 v0, .int .i64 v1]) ∧ Below w.heap.size w w' := by
  subst hmv h5
  have HM := Aside0.mk hm
  clear hm
  go_enter Try.func24, Try.ntmps24
  go_wp2_with (first | (go_at_call 22; refine (klaxonref17_Means.calls 2 h0 h1 h2 h3 a2 2 _ (by rw [means_ref, HM.out])).mono ?_; rintro e w1 ⟨rfl, hb⟩; obtain ⟨q1, q2, q4⟩ := four_blocks w _ _ _ _; obtain ⟨hs, hh, hz⟩ := after_means_ref hb q1 q2 q4; have HB1 := Aside0.mk (show Below w.heap.size w w1 from (by repeat (first | (with_reducible exact Below.refl _ _) | apply below_drew1 | apply below_alloc) : Below w.heap.size w _).trans (hb.mono (by simp; omega))); obtain ⟨⟨k0, k1, k2, k3, k4, k5, k6⟩, g2, g3⟩ := hs.cells; obtain ⟨m0, m1⟩ := hh.cells; obtain ⟨⟨z0, z1, z2, z3, z4, z5, z6⟩, ⟨f0, f1, f2, f3, f4, f5, f6⟩⟩ := hz.cells; have HZ := Aside0.mk hz; have HL := Aside0.mk (show w.heap.size ≤ w1.heap.size from Nat.le_trans (by simp; omega) hb.size); clear hb q1 q2 q4 hs hh hz))
  refine bodyPost_ret (results_cell_row rfl _ _ (w.heap.size + 1 + 1 + 1) 25 #[.int .i64 3, .int .i64 x1, .int .i64 x2, .int .i64 (-1), .int .i64 a4, .int .i64 v0, .int .i64 v1] (0, 0) _ rfl (by simpa using blk_set (blk_set (blk_set (blk_set (blk_set (blk_set (blk_set (HZ.out.far (i := 3) (by omega)) 0 _) 1 _) 2 _) 3 _) 4 _) 5 _) 6 _) Try.underlying25 rfl (by kernel_rfl)) rfl ?_
  exact ⟨rfl, bput7 (by omega) (HB1.out.setCell (p := ⟨w.heap.size, 3, none⟩) (Nat.le_refl _) _)⟩

set_option maxHeartbeats 400000 in
set_option maxRecDepth 100000 in
theorem ref_step_a2y (x0 x1 x2 x3 x4 x5 x6 h0 h1 h2 h3 a2 v0 v1 a4 m : Int) (w : World) (hm : meansP h2 h3 a2 = m) (hmv : m = 2) (h5 : x0 = 2) (h7 : h0 ≤ wrap64 (a4 - x2)) :
    Calls Try.prog 24 #[.agg #[.int .i64 x0, .int .i64 x1, .int .i64 x2, .int .i64 x3, .int .i64 x4, .int .i64 x5, .int .i64 x6], .agg #[.int .i64 h0, .int .i64 h1, .int .i64 h2, .int .i64 h3], .int .i64 a2, .agg #[.int .i64 v0, .int .i64 v1], .int .i64 a4] w fun e w' =>
      e = .returned (.agg #[.int .i64 3, .int .i64 (toS 2 x1 a4 3), .int .i64 (toF x2 3), .int .i64 (toQ 2 x3 3), .int .i64 a4, .int .i64 v0, .int .i64 v1]) ∧ Below w.heap.size w w' := by
  subst hmv h5
  have HM := Aside0.mk hm
  clear hm
  go_enter Try.func24, Try.ntmps24
  go_wp2_with (first | (go_at_call 22; refine (klaxonref17_Means.calls 2 h0 h1 h2 h3 a2 2 _ (by rw [means_ref, HM.out])).mono ?_; rintro e w1 ⟨rfl, hb⟩; obtain ⟨q1, q2, q4⟩ := four_blocks w _ _ _ _; obtain ⟨hs, hh, hz⟩ := after_means_ref hb q1 q2 q4; have HB1 := Aside0.mk (show Below w.heap.size w w1 from (by repeat (first | (with_reducible exact Below.refl _ _) | apply below_drew1 | apply below_alloc) : Below w.heap.size w _).trans (hb.mono (by simp; omega))); obtain ⟨⟨k0, k1, k2, k3, k4, k5, k6⟩, g2, g3⟩ := hs.cells; obtain ⟨m0, m1⟩ := hh.cells; obtain ⟨⟨z0, z1, z2, z3, z4, z5, z6⟩, ⟨f0, f1, f2, f3, f4, f5, f6⟩⟩ := hz.cells; have HZ := Aside0.mk hz; have HL := Aside0.mk (show w.heap.size ≤ w1.heap.size from Nat.le_trans (by simp; omega) hb.size); clear hb q1 q2 q4 hs hh hz) | (go_at_call 57; refine (to_ref_calls 2 x1 x2 x3 a4 v0 v1 3 a4 _).mono ?_; rintro e w2 ⟨rfl, hb2⟩; have hz2 : ResZ w2 (w.heap.size + 1 + 1 + 1) := ResZ.next HZ.out hb2; clear k0 k1 k2 k3 k4 k5 k6 g2 g3 m0 m1 z0 z1 z2 z3 z4 z5 z6 f0 f1 f2 f3 f4 f5 f6; obtain ⟨⟨z0, z1, z2, z3, z4, z5, z6⟩, ⟨f0, f1, f2, f3, f4, f5, f6⟩⟩ := hz2.cells; have HB2 := Aside0.mk (Below.after HB1.out HL.out hb2); have HZ2 := Aside0.mk hz2; clear hz2 hb2 HZ HB1 HL))
  refine bodyPost_ret (results_cell_row rfl _ _ (w.heap.size + 1 + 1 + 1) 25 #[.int .i64 3, .int .i64 (toS 2 x1 a4 3), .int .i64 (toF x2 3), .int .i64 (toQ 2 x3 3), .int .i64 a4, .int .i64 v0, .int .i64 v1] (0, 0) _ rfl (by simpa using blk_set (blk_set (blk_set (blk_set (blk_set (blk_set (blk_set HZ2.out 0 _) 1 _) 2 _) 3 _) 4 _) 5 _) 6 _) Try.underlying25 rfl (by kernel_rfl)) rfl ?_
  exact ⟨rfl, bput7 (by omega) HB2.out⟩

set_option maxHeartbeats 400000 in
set_option maxRecDepth 100000 in
theorem ref_step_a2n (x0 x1 x2 x3 x4 x5 x6 h0 h1 h2 h3 a2 v0 v1 a4 m : Int) (w : World) (hm : meansP h2 h3 a2 = m) (hmv : m = 2) (h5 : x0 = 2) (h7 : ¬ h0 ≤ wrap64 (a4 - x2)) :
    Calls Try.prog 24 #[.agg #[.int .i64 x0, .int .i64 x1, .int .i64 x2, .int .i64 x3, .int .i64 x4, .int .i64 x5, .int .i64 x6], .agg #[.int .i64 h0, .int .i64 h1, .int .i64 h2, .int .i64 h3], .int .i64 a2, .agg #[.int .i64 v0, .int .i64 v1], .int .i64 a4] w fun e w' =>
      e = .returned (.agg #[.int .i64 2, .int .i64 (toS 2 x1 a4 2), .int .i64 (toF x2 2), .int .i64 (toQ 2 x3 2), .int .i64 a4, .int .i64 v0, .int .i64 v1]) ∧ Below w.heap.size w w' := by
  subst hmv h5
  have HM := Aside0.mk hm
  clear hm
  go_enter Try.func24, Try.ntmps24
  go_wp2_with (first | (go_at_call 22; refine (klaxonref17_Means.calls 2 h0 h1 h2 h3 a2 2 _ (by rw [means_ref, HM.out])).mono ?_; rintro e w1 ⟨rfl, hb⟩; obtain ⟨q1, q2, q4⟩ := four_blocks w _ _ _ _; obtain ⟨hs, hh, hz⟩ := after_means_ref hb q1 q2 q4; have HB1 := Aside0.mk (show Below w.heap.size w w1 from (by repeat (first | (with_reducible exact Below.refl _ _) | apply below_drew1 | apply below_alloc) : Below w.heap.size w _).trans (hb.mono (by simp; omega))); obtain ⟨⟨k0, k1, k2, k3, k4, k5, k6⟩, g2, g3⟩ := hs.cells; obtain ⟨m0, m1⟩ := hh.cells; obtain ⟨⟨z0, z1, z2, z3, z4, z5, z6⟩, ⟨f0, f1, f2, f3, f4, f5, f6⟩⟩ := hz.cells; have HZ := Aside0.mk hz; have HL := Aside0.mk (show w.heap.size ≤ w1.heap.size from Nat.le_trans (by simp; omega) hb.size); clear hb q1 q2 q4 hs hh hz) | (go_at_call 57; refine (to_ref_calls 2 x1 x2 x3 a4 v0 v1 2 a4 _).mono ?_; rintro e w2 ⟨rfl, hb2⟩; have hz2 : ResZ w2 (w.heap.size + 1 + 1 + 1) := ResZ.next HZ.out hb2; clear k0 k1 k2 k3 k4 k5 k6 g2 g3 m0 m1 z0 z1 z2 z3 z4 z5 z6 f0 f1 f2 f3 f4 f5 f6; obtain ⟨⟨z0, z1, z2, z3, z4, z5, z6⟩, ⟨f0, f1, f2, f3, f4, f5, f6⟩⟩ := hz2.cells; have HB2 := Aside0.mk (Below.after HB1.out HL.out hb2); have HZ2 := Aside0.mk hz2; clear hz2 hb2 HZ HB1 HL))
  refine bodyPost_ret (results_cell_row rfl _ _ (w.heap.size + 1 + 1 + 1) 25 #[.int .i64 2, .int .i64 (toS 2 x1 a4 2), .int .i64 (toF x2 2), .int .i64 (toQ 2 x3 2), .int .i64 a4, .int .i64 v0, .int .i64 v1] (0, 0) _ rfl (by simpa using blk_set (blk_set (blk_set (blk_set (blk_set (blk_set (blk_set HZ2.out 0 _) 1 _) 2 _) 3 _) 4 _) 5 _) 6 _) Try.underlying25 rfl (by kernel_rfl)) rfl ?_
  exact ⟨rfl, bput7 (by omega) HB2.out⟩

set_option maxHeartbeats 400000 in
set_option maxRecDepth 100000 in
theorem ref_step_any (x0 x1 x2 x3 x4 x5 x6 h0 h1 h2 h3 a2 v0 v1 a4 m : Int) (w : World) (hm : meansP h2 h3 a2 = m) (hmv : m = 2) (h5 : ¬ x0 = 3) (h6 : ¬ x0 = 2) (h7 : h0 ≤ 0) :
    Calls Try.prog 24 #[.agg #[.int .i64 x0, .int .i64 x1, .int .i64 x2, .int .i64 x3, .int .i64 x4, .int .i64 x5, .int .i64 x6], .agg #[.int .i64 h0, .int .i64 h1, .int .i64 h2, .int .i64 h3], .int .i64 a2, .agg #[.int .i64 v0, .int .i64 v1], .int .i64 a4] w fun e w' =>
      e = .returned (.agg #[.int .i64 3, .int .i64 (toS x0 x1 a4 3), .int .i64 (toF a4 3), .int .i64 (toQ x0 x3 3), .int .i64 a4, .int .i64 v0, .int .i64 v1]) ∧ Below w.heap.size w w' := by
  subst hmv
  have b5 : (x0 == 3) = false := beq_eq_false_iff_ne.mpr h5
  have b6 : (x0 != 2) = true := bne_iff_ne.mpr h6
  clear h5 h6
  have HM := Aside0.mk hm
  clear hm
  go_enter Try.func24, Try.ntmps24
  go_wp2_with (first | (go_at_call 22; refine (klaxonref17_Means.calls 2 h0 h1 h2 h3 a2 2 _ (by rw [means_ref, HM.out])).mono ?_; rintro e w1 ⟨rfl, hb⟩; obtain ⟨q1, q2, q4⟩ := four_blocks w _ _ _ _; obtain ⟨hs, hh, hz⟩ := after_means_ref hb q1 q2 q4; have HB1 := Aside0.mk (show Below w.heap.size w w1 from (by repeat (first | (with_reducible exact Below.refl _ _) | apply below_drew1 | apply below_alloc) : Below w.heap.size w _).trans (hb.mono (by simp; omega))); obtain ⟨⟨k0, k1, k2, k3, k4, k5, k6⟩, g2, g3⟩ := hs.cells; obtain ⟨m0, m1⟩ := hh.cells; obtain ⟨⟨z0, z1, z2, z3, z4, z5, z6⟩, ⟨f0, f1, f2, f3, f4, f5, f6⟩⟩ := hz.cells; have HZ := Aside0.mk hz; have HL := Aside0.mk (show w.heap.size ≤ w1.heap.size from Nat.le_trans (by simp; omega) hb.size); clear hb q1 q2 q4 hs hh hz) | (go_at_call 57; refine (to_ref_calls x0 x1 a4 x3 a4 v0 v1 3 a4 _).mono ?_; rintro e w2 ⟨rfl, hb2⟩; have hz2 : ResZ w2 (w.heap.size + 1 + 1 + 1) := ResZ.next (HZ.out.far (by omega)) hb2; clear k0 k1 k2 k3 k4 k5 k6 g2 g3 m0 m1 z0 z1 z2 z3 z4 z5 z6 f0 f1 f2 f3 f4 f5 f6; obtain ⟨⟨z0, z1, z2, z3, z4, z5, z6⟩, ⟨f0, f1, f2, f3, f4, f5, f6⟩⟩ := hz2.cells; have HB2 := Aside0.mk (Below.after (HB1.out.setCell (Nat.le_refl _) _) (by simpa using HL.out) hb2); have HZ2 := Aside0.mk hz2; clear hz2 hb2 HZ HB1 HL))
  refine bodyPost_ret (results_cell_row rfl _ _ (w.heap.size + 1 + 1 + 1) 25 #[.int .i64 3, .int .i64 (toS x0 x1 a4 3), .int .i64 (toF a4 3), .int .i64 (toQ x0 x3 3), .int .i64 a4, .int .i64 v0, .int .i64 v1] (0, 0) _ rfl (by simpa using blk_set (blk_set (blk_set (blk_set (blk_set (blk_set (blk_set HZ2.out 0 _) 1 _) 2 _) 3 _) 4 _) 5 _) 6 _) Try.underlying25 rfl (by kernel_rfl)) rfl ?_
  exact ⟨rfl, bput7 (by omega) HB2.out⟩

set_option maxHeartbeats 400000 in
set_option maxRecDepth 100000 in
theorem ref_step_ann (x0 x1 x2 x3 x4 x5 x6 h0 h1 h2 h3 a2 v0 v1 a4 m : Int) (w : World) (hm : meansP h2 h3 a2 = m) (hmv : m = 2) (h5 : ¬ x0 = 3) (h6 : ¬ x0 = 2) (h7 : ¬ h0 ≤ 0) :
    Calls Try.prog 24 #[.agg #[.int .i64 x0, .int .i64 x1, .int .i64 x2, .int .i64 x3, .int .i64 x4, .int .i64 x5, .int .i64 x6], .agg #[.int .i64 h0, .int .i64 h1, .int .i64 h2, .int .i64 h3], .int .i64 a2, .agg #[.int .i64 v0, .int .i64 v1], .int .i64 a4] w fun e w' =>
      e = .returned (.agg #[.int .i64 2, .int .i64 (toS x0 x1 a4 2), .int .i64 (toF a4 2), .int .i64 (toQ x0 x3 2), .int .i64 a4, .int .i64 v0, .int .i64 v1]) ∧ Below w.heap.size w w' := by
  subst hmv
  have b5 : (x0 == 3) = false := beq_eq_false_iff_ne.mpr h5
  have b6 : (x0 != 2) = true := bne_iff_ne.mpr h6
  clear h5 h6
  have HM := Aside0.mk hm
  clear hm
  go_enter Try.func24, Try.ntmps24
  go_wp2_with (first | (go_at_call 22; refine (klaxonref17_Means.calls 2 h0 h1 h2 h3 a2 2 _ (by rw [means_ref, HM.out])).mono ?_; rintro e w1 ⟨rfl, hb⟩; obtain ⟨q1, q2, q4⟩ := four_blocks w _ _ _ _; obtain ⟨hs, hh, hz⟩ := after_means_ref hb q1 q2 q4; have HB1 := Aside0.mk (show Below w.heap.size w w1 from (by repeat (first | (with_reducible exact Below.refl _ _) | apply below_drew1 | apply below_alloc) : Below w.heap.size w _).trans (hb.mono (by simp; omega))); obtain ⟨⟨k0, k1, k2, k3, k4, k5, k6⟩, g2, g3⟩ := hs.cells; obtain ⟨m0, m1⟩ := hh.cells; obtain ⟨⟨z0, z1, z2, z3, z4, z5, z6⟩, ⟨f0, f1, f2, f3, f4, f5, f6⟩⟩ := hz.cells; have HZ := Aside0.mk hz; have HL := Aside0.mk (show w.heap.size ≤ w1.heap.size from Nat.le_trans (by simp; omega) hb.size); clear hb q1 q2 q4 hs hh hz) | (go_at_call 57; refine (to_ref_calls x0 x1 a4 x3 a4 v0 v1 2 a4 _).mono ?_; rintro e w2 ⟨rfl, hb2⟩; have hz2 : ResZ w2 (w.heap.size + 1 + 1 + 1) := ResZ.next (HZ.out.far (by omega)) hb2; clear k0 k1 k2 k3 k4 k5 k6 g2 g3 m0 m1 z0 z1 z2 z3 z4 z5 z6 f0 f1 f2 f3 f4 f5 f6; obtain ⟨⟨z0, z1, z2, z3, z4, z5, z6⟩, ⟨f0, f1, f2, f3, f4, f5, f6⟩⟩ := hz2.cells; have HB2 := Aside0.mk (Below.after (HB1.out.setCell (Nat.le_refl _) _) (by simpa using HL.out) hb2); have HZ2 := Aside0.mk hz2; clear hz2 hb2 HZ HB1 HL))
  refine bodyPost_ret (results_cell_row rfl _ _ (w.heap.size + 1 + 1 + 1) 25 #[.int .i64 2, .int .i64 (toS x0 x1 a4 2), .int .i64 (toF a4 2), .int .i64 (toQ x0 x3 2), .int .i64 a4, .int .i64 v0, .int .i64 v1] (0, 0) _ rfl (by simpa using blk_set (blk_set (blk_set (blk_set (blk_set (blk_set (blk_set HZ2.out 0 _) 1 _) 2 _) 3 _) 4 _) 5 _) 6 _) Try.underlying25 rfl (by kernel_rfl)) rfl ?_
  exact ⟨rfl, bput7 (by omega) HB2.out⟩

set_option maxHeartbeats 400000 in
set_option maxRecDepth 100000 in
theorem ref_step_n1 (x0 x1 x2 x3 x4 x5 x6 h0 h1 h2 h3 a2 v0 v1 a4 m : Int) (w : World) (hm : meansP h2 h3 a2 = m) (hmv : m = 1) (h5 : x0 = 3) (h6 : 0 < h1) (h7 : x3 = -1) :
    Calls Try.prog 24 #[.agg #[.int .i64 x0, .int .i64 x1, .int .i64 x2, .int .i64 x3, .int .i64 x4, .int .i64 x5, .int .i64 x6], .agg #[.int .i64 h0, .int .i64 h1, .int .i64 h2, .int .i64 h3], .int .i64 a2, .agg #[.int .i64 v0, .int .i64 v1], .int .i64 a4] w fun e w' =>
      e = .returned (.agg #[.int .i64 3, .int .i64 x1, .int .i64 x2, .int .i64 a4, .int .i64 a4, .int .i64 v0, .int .i64 v1]) ∧ Below w.heap.size w w' := by
  subst hmv h5 h7
  have HM := Aside0.mk hm
  clear hm
  go_enter Try.func24, Try.ntmps24
  go_wp2_with (first | (go_at_call 22; refine (klaxonref17_Means.calls 2 h0 h1 h2 h3 a2 1 _ (by rw [means_ref, HM.out])).mono ?_; rintro e w1 ⟨rfl, hb⟩; obtain ⟨q1, q2, q4⟩ := four_blocks w _ _ _ _; obtain ⟨hs, hh, hz⟩ := after_means_ref hb q1 q2 q4; have HB1 := Aside0.mk (show Below w.heap.size w w1 from (by repeat (first | (with_reducible exact Below.refl _ _) | apply below_drew1 | apply below_alloc) : Below w.heap.size w _).trans (hb.mono (by simp; omega))); obtain ⟨⟨k0, k1, k2, k3, k4, k5, k6⟩, g2, g3⟩ := hs.cells; obtain ⟨m0, m1⟩ := hh.cells; obtain ⟨⟨z0, z1, z2, z3, z4, z5, z6⟩, ⟨f0, f1, f2, f3, f4, f5, f6⟩⟩ := hz.cells; have HZ := Aside0.mk hz; have HL := Aside0.mk (show w.heap.size ≤ w1.heap.size from Nat.le_trans (by simp; omega) hb.size); clear hb q1 q2 q4 hs hh hz))
  refine bodyPost_ret (results_cell_row rfl _ _ (w.heap.size + 1 + 1 + 1) 25 #[.int .i64 3, .int .i64 x1, .int .i64 x2, .int .i64 a4, .int .i64 a4, .int .i64 v0, .int .i64 v1] (0, 0) _ rfl (by simpa using blk_set (blk_set (blk_set (blk_set (blk_set (blk_set (blk_set (HZ.out.far (i := 3) (by omega)) 0 _) 1 _) 2 _) 3 _) 4 _) 5 _) 6 _) Try.underlying25 rfl (by kernel_rfl)) rfl ?_
  exact ⟨rfl, bput7 (by omega) (HB1.out.setCell (p := ⟨w.heap.size, 3, none⟩) (Nat.le_refl _) _)⟩

set_option maxHeartbeats 400000 in
set_option maxRecDepth 100000 in
theorem ref_step_n2 (x0 x1 x2 x3 x4 x5 x6 h0 h1 h2 h3 a2 v0 v1 a4 m : Int) (w : World) (hm : meansP h2 h3 a2 = m) (hmv : m = 1) (h5 : x0 = 3) (h6 : 0 < h1) (h7 : ¬ x3 = -1) (h8 : wrap64 (a4 - x3) < h1) :
    Calls Try.prog 24 #[.agg #[.int .i64 x0, .int .i64 x1, .int .i64 x2, .int .i64 x3, .int .i64 x4, .int .i64 x5, .int .i64 x6], .agg #[.int .i64 h0, .int .i64 h1, .int .i64 h2, .int .i64 h3], .int .i64 a2, .agg #[.int .i64 v0, .int .i64 v1], .int .i64 a4] w fun e w' =>
      e = .returned (.agg #[.int .i64 3, .int .i64 x1, .int .i64 x2, .int .i64 x3, .int .i64 a4, .int .i64 v0, .int .i64 v1]) ∧ Below w.heap.size w w' := by
  subst hmv h5
  have b7 : (x3 == -1) = false := beq_eq_false_iff_ne.mpr h7
  clear h7
  have HM := Aside0.mk hm
  clear hm
  go_enter Try.func24, Try.ntmps24
  go_wp2_with (first | (go_at_call 22; refine (klaxonref17_Means.calls 2 h0 h1 h2 h3 a2 1 _ (by rw [means_ref, HM.out])).mono ?_; rintro e w1 ⟨rfl, hb⟩; obtain ⟨q1, q2, q4⟩ := four_blocks w _ _ _ _; obtain ⟨hs, hh, hz⟩ := after_means_ref hb q1 q2 q4; have HB1 := Aside0.mk (show Below w.heap.size w w1 from (by repeat (first | (with_reducible exact Below.refl _ _) | apply below_drew1 | apply below_alloc) : Below w.heap.size w _).trans (hb.mono (by simp; omega))); obtain ⟨⟨k0, k1, k2, k3, k4, k5, k6⟩, g2, g3⟩ := hs.cells; obtain ⟨m0, m1⟩ := hh.cells; obtain ⟨⟨z0, z1, z2, z3, z4, z5, z6⟩, ⟨f0, f1, f2, f3, f4, f5, f6⟩⟩ := hz.cells; have HZ := Aside0.mk hz; have HL := Aside0.mk (show w.heap.size ≤ w1.heap.size from Nat.le_trans (by simp; omega) hb.size); clear hb q1 q2 q4 hs hh hz))
  refine bodyPost_ret (results_cell_row rfl _ _ (w.heap.size + 1 + 1 + 1) 25 #[.int .i64 3, .int .i64 x1, .int .i64 x2, .int .i64 x3, .int .i64 a4, .int .i64 v0, .int .i64 v1] (0, 0) _ rfl (by simpa using blk_set (blk_set (blk_set (blk_set (blk_set (blk_set (blk_set HZ.out 0 _) 1 _) 2 _) 3 _) 4 _) 5 _) 6 _) Try.underlying25 rfl (by kernel_rfl)) rfl ?_
  exact ⟨rfl, bput7 (by omega) HB1.out⟩

set_option maxHeartbeats 400000 in
set_option maxRecDepth 100000 in
theorem ref_step_n3 (x0 x1 x2 x3 x4 x5 x6 h0 h1 h2 h3 a2 v0 v1 a4 m : Int) (w : World) (hm : meansP h2 h3 a2 = m) (hmv : m = 1) (h5 : x0 = 3) (h6 : 0 < h1) (h7 : ¬ x3 = -1) (h8 : ¬ wrap64 (a4 - x3) < h1) :
    Calls Try.prog 24 #[.agg #[.int .i64 x0, .int .i64 x1, .int .i64 x2, .int .i64 x3, .int .i64 x4, .int .i64 x5, .int .i64 x6], .agg #[.int .i64 h0, .int .i64 h1, .int .i64 h2, .int .i64 h3], .int .i64 a2, .agg #[.int .i64 v0, .int .i64 v1], .int .i64 a4] w fun e w' =>
      e = .returned (.agg #[.int .i64 1, .int .i64 (toS 3 x1 a4 1), .int .i64 (toF x2 1), .int .i64 (toQ 3 x3 1), .int .i64 a4, .int .i64 v0, .int .i64 v1]) ∧ Below w.heap.size w w' := by
  subst hmv h5
  have b7 : (x3 == -1) = false := beq_eq_false_iff_ne.mpr h7
  clear h7
  have HM := Aside0.mk hm
  clear hm
  go_enter Try.func24, Try.ntmps24
  go_wp2_with (first | (go_at_call 22; refine (klaxonref17_Means.calls 2 h0 h1 h2 h3 a2 1 _ (by rw [means_ref, HM.out])).mono ?_; rintro e w1 ⟨rfl, hb⟩; obtain ⟨q1, q2, q4⟩ := four_blocks w _ _ _ _; obtain ⟨hs, hh, hz⟩ := after_means_ref hb q1 q2 q4; have HB1 := Aside0.mk (show Below w.heap.size w w1 from (by repeat (first | (with_reducible exact Below.refl _ _) | apply below_drew1 | apply below_alloc) : Below w.heap.size w _).trans (hb.mono (by simp; omega))); obtain ⟨⟨k0, k1, k2, k3, k4, k5, k6⟩, g2, g3⟩ := hs.cells; obtain ⟨m0, m1⟩ := hh.cells; obtain ⟨⟨z0, z1, z2, z3, z4, z5, z6⟩, ⟨f0, f1, f2, f3, f4, f5, f6⟩⟩ := hz.cells; have HZ := Aside0.mk hz; have HL := Aside0.mk (show w.heap.size ≤ w1.heap.size from Nat.le_trans (by simp; omega) hb.size); clear hb q1 q2 q4 hs hh hz) | (go_at_call 57; refine (to_ref_calls 3 x1 x2 x3 a4 v0 v1 1 a4 _).mono ?_; rintro e w2 ⟨rfl, hb2⟩; have hz2 : ResZ w2 (w.heap.size + 1 + 1 + 1) := ResZ.next HZ.out hb2; clear k0 k1 k2 k3 k4 k5 k6 g2 g3 m0 m1 z0 z1 z2 z3 z4 z5 z6 f0 f1 f2 f3 f4 f5 f6; obtain ⟨⟨z0, z1, z2, z3, z4, z5, z6⟩, ⟨f0, f1, f2, f3, f4, f5, f6⟩⟩ := hz2.cells; have HB2 := Aside0.mk (Below.after HB1.out HL.out hb2); have HZ2 := Aside0.mk hz2; clear hz2 hb2 HZ HB1 HL))
  refine bodyPost_ret (results_cell_row rfl _ _ (w.heap.size + 1 + 1 + 1) 25 #[.int .i64 1, .int .i64 (toS 3 x1 a4 1), .int .i64 (toF x2 1), .int .i64 (toQ 3 x3 1), .int .i64 a4, .int .i64 v0, .int .i64 v1] (0, 0) _ rfl (by simpa using blk_set (blk_set (blk_set (blk_set (blk_set (blk_set (blk_set HZ2.out 0 _) 1 _) 2 _) 3 _) 4 _) 5 _) 6 _) Try.underlying25 rfl (by kernel_rfl)) rfl ?_
  exact ⟨rfl, bput7 (by omega) HB2.out⟩

set_option maxHeartbeats 400000 in
set_option maxRecDepth 100000 in
theorem ref_step_n4 (x0 x1 x2 x3 x4 x5 x6 h0 h1 h2 h3 a2 v0 v1 a4 m : Int) (w : World) (hm : meansP h2 h3 a2 = m) (hmv : m = 1) (h5 : x0 = 3) (h6 : ¬ 0 < h1) :
    Calls Try.prog 24 #[.agg #[.int .i64 x0, .int .i64 x1, .int .i64 x2, .int .i64 x3, .int .i64 x4, .int .i64 x5, .int .i64 x6], .agg #[.int .i64 h0, .int .i64 h1, .int .i64 h2, .int .i64 h3], .int .i64 a2, .agg #[.int .i64 v0, .int .i64 v1], .int .i64 a4] w fun e w' =>
      e = .returned (.agg #[.int .i64 1, .int .i64 (toS 3 x1 a4 1), .int .i64 (toF x2 1), .int .i64 (toQ 3 x3 1), .int .i64 a4, .int .i64 v0, .int .i64 v1]) ∧ Below w.heap.size w w' := by
  subst hmv h5
  have HM := Aside0.mk hm
  clear hm
  go_enter Try.func24, Try.ntmps24
  go_wp2_with (first | (go_at_call 22; refine (klaxonref17_Means.calls 2 h0 h1 h2 h3 a2 1 _ (by rw [means_ref, HM.out])).mono ?_; rintro e w1 ⟨rfl, hb⟩; obtain ⟨q1, q2, q4⟩ := four_blocks w _ _ _ _; obtain ⟨hs, hh, hz⟩ := after_means_ref hb q1 q2 q4; have HB1 := Aside0.mk (show Below w.heap.size w w1 from (by repeat (first | (with_reducible exact Below.refl _ _) | apply below_drew1 | apply below_alloc) : Below w.heap.size w _).trans (hb.mono (by simp; omega))); obtain ⟨⟨k0, k1, k2, k3, k4, k5, k6⟩, g2, g3⟩ := hs.cells; obtain ⟨m0, m1⟩ := hh.cells; obtain ⟨⟨z0, z1, z2, z3, z4, z5, z6⟩, ⟨f0, f1, f2, f3, f4, f5, f6⟩⟩ := hz.cells; have HZ := Aside0.mk hz; have HL := Aside0.mk (show w.heap.size ≤ w1.heap.size from Nat.le_trans (by simp; omega) hb.size); clear hb q1 q2 q4 hs hh hz) | (go_at_call 57; refine (to_ref_calls 3 x1 x2 x3 a4 v0 v1 1 a4 _).mono ?_; rintro e w2 ⟨rfl, hb2⟩; have hz2 : ResZ w2 (w.heap.size + 1 + 1 + 1) := ResZ.next HZ.out hb2; clear k0 k1 k2 k3 k4 k5 k6 g2 g3 m0 m1 z0 z1 z2 z3 z4 z5 z6 f0 f1 f2 f3 f4 f5 f6; obtain ⟨⟨z0, z1, z2, z3, z4, z5, z6⟩, ⟨f0, f1, f2, f3, f4, f5, f6⟩⟩ := hz2.cells; have HB2 := Aside0.mk (Below.after HB1.out HL.out hb2); have HZ2 := Aside0.mk hz2; clear hz2 hb2 HZ HB1 HL))
  refine bodyPost_ret (results_cell_row rfl _ _ (w.heap.size + 1 + 1 + 1) 25 #[.int .i64 1, .int .i64 (toS 3 x1 a4 1), .int .i64 (toF x2 1), .int .i64 (toQ 3 x3 1), .int .i64 a4, .int .i64 v0, .int .i64 v1] (0, 0) _ rfl (by simpa using blk_set (blk_set (blk_set (blk_set (blk_set (blk_set (blk_set HZ2.out 0 _) 1 _) 2 _) 3 _) 4 _) 5 _) 6 _) Try.underlying25 rfl (by kernel_rfl)) rfl ?_
  exact ⟨rfl, bput7 (by omega) HB2.out⟩

set_option maxHeartbeats 400000 in
set_option maxRecDepth 100000 in
theorem ref_step_n5 (x0 x1 x2 x3 x4 x5 x6 h0 h1 h2 h3 a2 v0 v1 a4 m : Int) (w : World) (hm : meansP h2 h3 a2 = m) (hmv : m = 1) (h5 : ¬ x0 = 3) :
    Calls Try.prog 24 #[.agg #[.int .i64 x0, .int .i64 x1, .int .i64 x2, .int .i64 x3, .int .i64 x4, .int .i64 x5, .int .i64 x6], .agg #[.int .i64 h0, .int .i64 h1, .int .i64 h2, .int .i64 h3], .int .i64 a2, .agg #[.int .i64 v0, .int .i64 v1], .int .i64 a4] w fun e w' =>
      e = .returned (.agg #[.int .i64 1, .int .i64 (toS x0 x1 a4 1), .int .i64 (toF x2 1), .int .i64 (toQ x0 x3 1), .int .i64 a4, .int .i64 v0, .int .i64 v1]) ∧ Below w.heap.size w w' := by
  subst hmv
  have b5 : (x0 == 3) = false := beq_eq_false_iff_ne.mpr h5
  clear h5
  have HM := Aside0.mk hm
  clear hm
  go_enter Try.func24, Try.ntmps24
  go_wp2_with (first | (go_at_call 22; refine (klaxonref17_Means.calls 2 h0 h1 h2 h3 a2 1 _ (by rw [means_ref, HM.out])).mono ?_; rintro e w1 ⟨rfl, hb⟩; obtain ⟨q1, q2, q4⟩ := four_blocks w _ _ _ _; obtain ⟨hs, hh, hz⟩ := after_means_ref hb q1 q2 q4; have HB1 := Aside0.mk (show Below w.heap.size w w1 from (by repeat (first | (with_reducible exact Below.refl _ _) | apply below_drew1 | apply below_alloc) : Below w.heap.size w _).trans (hb.mono (by simp; omega))); obtain ⟨⟨k0, k1, k2, k3, k4, k5, k6⟩, g2, g3⟩ := hs.cells; obtain ⟨m0, m1⟩ := hh.cells; obtain ⟨⟨z0, z1, z2, z3, z4, z5, z6⟩, ⟨f0, f1, f2, f3, f4, f5, f6⟩⟩ := hz.cells; have HZ := Aside0.mk hz; have HL := Aside0.mk (show w.heap.size ≤ w1.heap.size from Nat.le_trans (by simp; omega) hb.size); clear hb q1 q2 q4 hs hh hz) | (go_at_call 57; refine (to_ref_calls x0 x1 x2 x3 a4 v0 v1 1 a4 _).mono ?_; rintro e w2 ⟨rfl, hb2⟩; have hz2 : ResZ w2 (w.heap.size + 1 + 1 + 1) := ResZ.next HZ.out hb2; clear k0 k1 k2 k3 k4 k5 k6 g2 g3 m0 m1 z0 z1 z2 z3 z4 z5 z6 f0 f1 f2 f3 f4 f5 f6; obtain ⟨⟨z0, z1, z2, z3, z4, z5, z6⟩, ⟨f0, f1, f2, f3, f4, f5, f6⟩⟩ := hz2.cells; have HB2 := Aside0.mk (Below.after HB1.out HL.out hb2); have HZ2 := Aside0.mk hz2; clear hz2 hb2 HZ HB1 HL))
  refine bodyPost_ret (results_cell_row rfl _ _ (w.heap.size + 1 + 1 + 1) 25 #[.int .i64 1, .int .i64 (toS x0 x1 a4 1), .int .i64 (toF x2 1), .int .i64 (toQ x0 x3 1), .int .i64 a4, .int .i64 v0, .int .i64 v1] (0, 0) _ rfl (by simpa using blk_set (blk_set (blk_set (blk_set (blk_set (blk_set (blk_set HZ2.out 0 _) 1 _) 2 _) 3 _) 4 _) 5 _) 6 _) Try.underlying25 rfl (by kernel_rfl)) rfl ?_
  exact ⟨rfl, bput7 (by omega) HB2.out⟩

set_option maxHeartbeats 400000 in
set_option maxRecDepth 100000 in
theorem ref_step_d3 (x0 x1 x2 x3 x4 x5 x6 h0 h1 h2 h3 a2 v0 v1 a4 m : Int) (w : World) (hm : meansP h2 h3 a2 = m) (hmv : m = 3) :
    Calls Try.prog 24 #[.agg #[.int .i64 x0, .int .i64 x1, .int .i64 x2, .int .i64 x3, .int .i64 x4, .int .i64 x5, .int .i64 x6], .agg #[.int .i64 h0, .int .i64 h1, .int .i64 h2, .int .i64 h3], .int .i64 a2, .agg #[.int .i64 v0, .int .i64 v1], .int .i64 a4] w fun e w' =>
      e = .returned (.agg #[.int .i64 4, .int .i64 (toS x0 x1 a4 4), .int .i64 (toF x2 4), .int .i64 (toQ x0 x3 4), .int .i64 a4, .int .i64 v0, .int .i64 v1]) ∧ Below w.heap.size w w' := by
  subst hmv
  have HM := Aside0.mk hm
  clear hm
  go_enter Try.func24, Try.ntmps24
  go_wp2_with (first | (go_at_call 22; refine (klaxonref17_Means.calls 2 h0 h1 h2 h3 a2 3 _ (by rw [means_ref, HM.out])).mono ?_; rintro e w1 ⟨rfl, hb⟩; obtain ⟨q1, q2, q4⟩ := four_blocks w _ _ _ _; obtain ⟨hs, hh, hz⟩ := after_means_ref hb q1 q2 q4; have HB1 := Aside0.mk (show Below w.heap.size w w1 from (by repeat (first | (with_reducible exact Below.refl _ _) | apply below_drew1 | apply below_alloc) : Below w.heap.size w _).trans (hb.mono (by simp; omega))); obtain ⟨⟨k0, k1, k2, k3, k4, k5, k6⟩, g2, g3⟩ := hs.cells; obtain ⟨m0, m1⟩ := hh.cells; obtain ⟨⟨z0, z1, z2, z3, z4, z5, z6⟩, ⟨f0, f1, f2, f3, f4, f5, f6⟩⟩ := hz.cells; have HZ := Aside0.mk hz; have HL := Aside0.mk (show w.heap.size ≤ w1.heap.size from Nat.le_trans (by simp; omega) hb.size); clear hb q1 q2 q4 hs hh hz) | (go_at_call 57; refine (to_ref_calls x0 x1 x2 x3 a4 v0 v1 4 a4 _).mono ?_; rintro e w2 ⟨rfl, hb2⟩; have hz2 : ResZ w2 (w.heap.size + 1 + 1 + 1) := ResZ.next HZ.out hb2; clear k0 k1 k2 k3 k4 k5 k6 g2 g3 m0 m1 z0 z1 z2 z3 z4 z5 z6 f0 f1 f2 f3 f4 f5 f6; obtain ⟨⟨z0, z1, z2, z3, z4, z5, z6⟩, ⟨f0, f1, f2, f3, f4, f5, f6⟩⟩ := hz2.cells; have HB2 := Aside0.mk (Below.after HB1.out HL.out hb2); have HZ2 := Aside0.mk hz2; clear hz2 hb2 HZ HB1 HL))
  refine bodyPost_ret (results_cell_row rfl _ _ (w.heap.size + 1 + 1 + 1) 25 #[.int .i64 4, .int .i64 (toS x0 x1 a4 4), .int .i64 (toF x2 4), .int .i64 (toQ x0 x3 4), .int .i64 a4, .int .i64 v0, .int .i64 v1] (0, 0) _ rfl (by simpa using blk_set (blk_set (blk_set (blk_set (blk_set (blk_set (blk_set HZ2.out 0 _) 1 _) 2 _) 3 _) 4 _) 5 _) 6 _) Try.underlying25 rfl (by kernel_rfl)) rfl ?_
  exact ⟨rfl, bput7 (by omega) HB2.out⟩

set_option maxHeartbeats 400000 in
set_option maxRecDepth 100000 in
theorem ref_step_d4 (x0 x1 x2 x3 x4 x5 x6 h0 h1 h2 h3 a2 v0 v1 a4 m : Int) (w : World) (hm : meansP h2 h3 a2 = m) (hmv : m = 4) :
    Calls Try.prog 24 #[.agg #[.int .i64 x0, .int .i64 x1, .int .i64 x2, .int .i64 x3, .int .i64 x4, .int .i64 x5, .int .i64 x6], .agg #[.int .i64 h0, .int .i64 h1, .int .i64 h2, .int .i64 h3], .int .i64 a2, .agg #[.int .i64 v0, .int .i64 v1], .int .i64 a4] w fun e w' =>
      e = .returned (.agg #[.int .i64 5, .int .i64 (toS x0 x1 a4 5), .int .i64 (toF x2 5), .int .i64 (toQ x0 x3 5), .int .i64 a4, .int .i64 v0, .int .i64 v1]) ∧ Below w.heap.size w w' := by
  subst hmv
  have HM := Aside0.mk hm
  clear hm
  go_enter Try.func24, Try.ntmps24
  go_wp2_with (first | (go_at_call 22; refine (klaxonref17_Means.calls 2 h0 h1 h2 h3 a2 4 _ (by rw [means_ref, HM.out])).mono ?_; rintro e w1 ⟨rfl, hb⟩; obtain ⟨q1, q2, q4⟩ := four_blocks w _ _ _ _; obtain ⟨hs, hh, hz⟩ := after_means_ref hb q1 q2 q4; have HB1 := Aside0.mk (show Below w.heap.size w w1 from (by repeat (first | (with_reducible exact Below.refl _ _) | apply below_drew1 | apply below_alloc) : Below w.heap.size w _).trans (hb.mono (by simp; omega))); obtain ⟨⟨k0, k1, k2, k3, k4, k5, k6⟩, g2, g3⟩ := hs.cells; obtain ⟨m0, m1⟩ := hh.cells; obtain ⟨⟨z0, z1, z2, z3, z4, z5, z6⟩, ⟨f0, f1, f2, f3, f4, f5, f6⟩⟩ := hz.cells; have HZ := Aside0.mk hz; have HL := Aside0.mk (show w.heap.size ≤ w1.heap.size from Nat.le_trans (by simp; omega) hb.size); clear hb q1 q2 q4 hs hh hz) | (go_at_call 57; refine (to_ref_calls x0 x1 x2 x3 a4 v0 v1 5 a4 _).mono ?_; rintro e w2 ⟨rfl, hb2⟩; have hz2 : ResZ w2 (w.heap.size + 1 + 1 + 1) := ResZ.next HZ.out hb2; clear k0 k1 k2 k3 k4 k5 k6 g2 g3 m0 m1 z0 z1 z2 z3 z4 z5 z6 f0 f1 f2 f3 f4 f5 f6; obtain ⟨⟨z0, z1, z2, z3, z4, z5, z6⟩, ⟨f0, f1, f2, f3, f4, f5, f6⟩⟩ := hz2.cells; have HB2 := Aside0.mk (Below.after HB1.out HL.out hb2); have HZ2 := Aside0.mk hz2; clear hz2 hb2 HZ HB1 HL))
  refine bodyPost_ret (results_cell_row rfl _ _ (w.heap.size + 1 + 1 + 1) 25 #[.int .i64 5, .int .i64 (toS x0 x1 a4 5), .int .i64 (toF x2 5), .int .i64 (toQ x0 x3 5), .int .i64 a4, .int .i64 v0, .int .i64 v1] (0, 0) _ rfl (by simpa using blk_set (blk_set (blk_set (blk_set (blk_set (blk_set (blk_set HZ2.out 0 _) 1 _) 2 _) 3 _) 4 _) 5 _) 6 _) Try.underlying25 rfl (by kernel_rfl)) rfl ?_
  exact ⟨rfl, bput7 (by omega) HB2.out⟩

set_option maxHeartbeats 400000 in
set_option maxRecDepth 100000 in
theorem ref_step_o (x0 x1 x2 x3 x4 x5 x6 h0 h1 h2 h3 a2 v0 v1 a4 m : Int) (w : World) (hm : meansP h2 h3 a2 = m) (h1' : ¬ m = 1) (h2' : ¬ m = 2) (h3' : ¬ m = 3) (h4' : ¬ m = 4) :
    Calls Try.prog 24 #[.agg #[.int .i64 x0, .int .i64 x1, .int .i64 x2, .int .i64 x3, .int .i64 x4, .int .i64 x5, .int .i64 x6], .agg #[.int .i64 h0, .int .i64 h1, .int .i64 h2, .int .i64 h3], .int .i64 a2, .agg #[.int .i64 v0, .int .i64 v1], .int .i64 a4] w fun e w' =>
      e = .returned (.agg #[.int .i64 x0, .int .i64 x1, .int .i64 x2, .int .i64 x3, .int .i64 a4, .int .i64 v0, .int .i64 v1]) ∧ Below w.heap.size w w' := by
  have b1 : (m == 1) = false := beq_eq_false_iff_ne.mpr h1'
  have b2 : (m == 2) = false := beq_eq_false_iff_ne.mpr h2'
  have b3 : (m == 3) = false := beq_eq_false_iff_ne.mpr h3'
  have b4 : (m == 4) = false := beq_eq_false_iff_ne.mpr h4'
  clear h1' h2' h3' h4'
  have HM := Aside0.mk hm
  clear hm
  go_enter Try.func24, Try.ntmps24
  go_wp2_with (first | (go_at_call 22; refine (klaxonref17_Means.calls 2 h0 h1 h2 h3 a2 m _ (by rw [means_ref, HM.out])).mono ?_; rintro e w1 ⟨rfl, hb⟩; obtain ⟨q1, q2, q4⟩ := four_blocks w _ _ _ _; obtain ⟨hs, hh, hz⟩ := after_means_ref hb q1 q2 q4; have HB1 := Aside0.mk (show Below w.heap.size w w1 from (by repeat (first | (with_reducible exact Below.refl _ _) | apply below_drew1 | apply below_alloc) : Below w.heap.size w _).trans (hb.mono (by simp; omega))); obtain ⟨⟨k0, k1, k2, k3, k4, k5, k6⟩, g2, g3⟩ := hs.cells; obtain ⟨m0, m1⟩ := hh.cells; obtain ⟨⟨z0, z1, z2, z3, z4, z5, z6⟩, ⟨f0, f1, f2, f3, f4, f5, f6⟩⟩ := hz.cells; have HZ := Aside0.mk hz; have HL := Aside0.mk (show w.heap.size ≤ w1.heap.size from Nat.le_trans (by simp; omega) hb.size); clear hb q1 q2 q4 hs hh hz))
  refine bodyPost_ret (results_cell_row rfl _ _ (w.heap.size + 1 + 1 + 1) 25 #[.int .i64 x0, .int .i64 x1, .int .i64 x2, .int .i64 x3, .int .i64 a4, .int .i64 v0, .int .i64 v1] (0, 0) _ rfl (by simpa using blk_set (blk_set (blk_set (blk_set (blk_set (blk_set (blk_set HZ.out 0 _) 1 _) 2 _) 3 _) 4 _) 5 _) 6 _) Try.underlying25 rfl (by kernel_rfl)) rfl ?_
  exact ⟨rfl, bput7 (by omega) HB1.out⟩

theorem ref_step_calls (x0 x1 x2 x3 x4 x5 x6 h0 h1 h2 h3 a2 v0 v1 a4 m : Int) (w : World) (hm : meansP h2 h3 a2 = m) (r : Int × Int × Int × Int) (hr : stepP h0 h1 m a4 x0 x1 x2 x3 = r) :
    Calls Try.prog 24 #[.agg #[.int .i64 x0, .int .i64 x1, .int .i64 x2, .int .i64 x3, .int .i64 x4, .int .i64 x5, .int .i64 x6], .agg #[.int .i64 h0, .int .i64 h1, .int .i64 h2, .int .i64 h3], .int .i64 a2, .agg #[.int .i64 v0, .int .i64 v1], .int .i64 a4] w fun e w' =>
      e = .returned (.agg #[.int .i64 r.1, .int .i64 r.2.1, .int .i64 r.2.2.1, .int .i64 r.2.2.2, .int .i64 a4, .int .i64 v0, .int .i64 v1]) ∧ Below w.heap.size w w' := by
  by_cases m2 : m = 2
  · subst m2
    by_cases h5 : x0 = 3
    · obtain rfl : (3, x1, x2, -1) = r := by simpa [stepP, alertP, h5] using hr
      exact ref_step_a3 _ _ _ _ _ _ _ _ _ _ _ _ _ _ _ _ w hm rfl h5
    by_cases h6 : x0 = 2
    · subst h6
      by_cases h7 : h0 ≤ wrap64 (a4 - x2)
      · obtain rfl : (3, toS 2 x1 a4 3, toF x2 3, toQ 2 x3 3) = r := by simpa [stepP, alertP, h7] using hr
        exact ref_step_a2y _ _ _ _ _ _ _ _ _ _ _ _ _ _ _ _ w hm rfl rfl h7
      · obtain rfl : (2, toS 2 x1 a4 2, toF x2 2, toQ 2 x3 2) = r := by simpa [stepP, alertP, h7] using hr
        exact ref_step_a2n _ _ _ _ _ _ _ _ _ _ _ _ _ _ _ _ w hm rfl rfl h7
    by_cases h7 : h0 ≤ 0
    · obtain rfl : (3, toS x0 x1 a4 3, toF a4 3, toQ x0 x3 3) = r := by simpa [stepP, alertP, h5, h6, h7, wrap_self, wrap_zero] using hr
      exact ref_step_any _ _ _ _ _ _ _ _ _ _ _ _ _ _ _ _ w hm rfl h5 h6 h7
    · obtain rfl : (2, toS x0 x1 a4 2, toF a4 2, toQ x0 x3 2) = r := by simpa [stepP, alertP, h5, h6, h7, wrap_self, wrap_zero] using hr
      exact ref_step_ann _ _ _ _ _ _ _ _ _ _ _ _ _ _ _ _ w hm rfl h5 h6 h7
  by_cases m1 : m = 1
  · subst m1
    by_cases h5 : x0 = 3
    · by_cases h6 : 0 < h1
      · by_cases h7 : x3 = -1
        · obtain rfl : (3, x1, x2, a4) = r := by simpa [stepP, normalP, h5, h6, h7, wrap_self, wrap_zero] using hr
          exact ref_step_n1 _ _ _ _ _ _ _ _ _ _ _ _ _ _ _ _ w hm rfl h5 h6 h7
        · by_cases h8 : wrap64 (a4 - x3) < h1
          · obtain rfl : (3, x1, x2, x3) = r := by simpa [stepP, normalP, h5, h6, h7, h8] using hr
            exact ref_step_n2 _ _ _ _ _ _ _ _ _ _ _ _ _ _ _ _ w hm rfl h5 h6 h7 h8
          · obtain rfl : (1, toS 3 x1 a4 1, toF x2 1, toQ 3 x3 1) = r := by simpa [stepP, normalP, h5, h6, h7, h8] using hr
            exact ref_step_n3 _ _ _ _ _ _ _ _ _ _ _ _ _ _ _ _ w hm rfl h5 h6 h7 h8
      · obtain rfl : (1, toS 3 x1 a4 1, toF x2 1, toQ 3 x3 1) = r := by simpa [stepP, normalP, h5, h6] using hr
        exact ref_step_n4 _ _ _ _ _ _ _ _ _ _ _ _ _ _ _ _ w hm rfl h5 h6
    · obtain rfl : (1, toS x0 x1 a4 1, toF x2 1, toQ x0 x3 1) = r := by simpa [stepP, normalP, h5] using hr
      exact ref_step_n5 _ _ _ _ _ _ _ _ _ _ _ _ _ _ _ _ w hm rfl h5
  by_cases m3 : m = 3
  · obtain rfl : (4, toS x0 x1 a4 4, toF x2 4, toQ x0 x3 4) = r := by simpa [stepP, m3] using hr
    exact ref_step_d3 _ _ _ _ _ _ _ _ _ _ _ _ _ _ _ _ w hm m3
  by_cases m4 : m = 4
  · obtain rfl : (5, toS x0 x1 a4 5, toF x2 5, toQ x0 x3 5) = r := by simpa [stepP, m4] using hr
    exact ref_step_d4 _ _ _ _ _ _ _ _ _ _ _ _ _ _ _ _ w hm m4
  · obtain rfl : (x0, x1, x2, x3) = r := by simpa [stepP, m1, m2, m3, m4] using hr
    exact ref_step_o _ _ _ _ _ _ _ _ _ _ _ _ _ _ _ _ w hm m1 m2 m3 m4

def klaxonref17_Step.f (a0_0 a0_1 a0_2 a0_3 a0_4 a0_5 a0_6 a1_0 a1_1 a1_2 a1_3 a2 a3_0 a3_1 a4 : Int) : Option (Int × Int × Int × Int × Int × Int × Int) :=
  some ((stepP a1_0 a1_1 (meansP a1_2 a1_3 a2) a4 a0_0 a0_1 a0_2 a0_3).1, (stepP a1_0 a1_1 (meansP a1_2 a1_3 a2) a4 a0_0 a0_1 a0_2 a0_3).2.1, (stepP a1_0 a1_1 (meansP a1_2 a1_3 a2) a4 a0_0 a0_1 a0_2 a0_3).2.2.1, (stepP a1_0 a1_1 (meansP a1_2 a1_3 a2) a4 a0_0 a0_1 a0_2 a0_3).2.2.2, a4, a3_0, a3_1)
theorem klaxonref17_Step.calls (a0_0 a0_1 a0_2 a0_3 a0_4 a0_5 a0_6 a1_0 a1_1 a1_2 a1_3 a2 a3_0 a3_1 a4 : Int) (r1 r2 r3 r4 r5 r6 r7 : Int) (w : World) (h : klaxonref17_Step.f a0_0 a0_1 a0_2 a0_3 a0_4 a0_5 a0_6 a1_0 a1_1 a1_2 a1_3 a2 a3_0 a3_1 a4 = some (r1, r2, r3, r4, r5, r6, r7)) :
    Calls Try.prog 24 #[.agg #[.int .i64 a0_0, .int .i64 a0_1, .int .i64 a0_2, .int .i64 a0_3, .int .i64 a0_4, .int .i64 a0_5, .int .i64 a0_6], .agg #[.int .i64 a1_0, .int .i64 a1_1, .int .i64 a1_2, .int .i64 a1_3], .int .i64 a2, .agg #[.int .i64 a3_0, .int .i64 a3_1], .int .i64 a4] w fun e w' =>
      e = .returned (.agg #[.int .i64 r1, .int .i64 r2, .int .i64 r3, .int .i64 r4, .int .i64 r5, .int .i64 r6, .int .i64 r7]) ∧ Below w.heap.size w w' := by
  simp only [klaxonref17_Step.f, Option.some.injEq, Prod.mk.injEq] at h
  obtain ⟨rfl, rfl, rfl, rfl, rfl, rfl, rfl⟩ := h
  exact ref_step_calls _ _ _ _ _ _ _ _ _ _ _ _ _ _ _ _ w rfl _ rfl

end Go.Proofs.Ytmcnipjfigbkeaa.PState
