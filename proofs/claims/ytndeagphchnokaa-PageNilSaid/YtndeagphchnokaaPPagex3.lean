-- Written by a program of this session (wip/myprint.py), which drives the kit's print; read and checked by Lean alone.
import Derived.Test.YtndeagphchnokaaPPagex0
import Derived.Test.YtndeagphchnokaaPPagex1
import Derived.Test.YtndeagphchnokaaPPagex2
namespace Go.Proofs.Ytndeagphchnokaa.PPage
open Go.RowKit Go.Proofs.YtndeagphchnokaaW.PrintWords Go.Proofs.YtndeagphchnokaaW.PrintLast Go.Proofs.YtndeagphchnokaaW.PrintMore
attribute [local go_sem] max2_int min2_int max_two min_two max_three min_three max_four min_four   -- for this text's walks alone
set_option linter.unusedVariables false
set_option linter.unusedSimpArgs false

/-! ### klaxonlaw03_PageTurned: function 5 -/
mutual
def klaxonlaw03_PageTurned.j0 : Nat → Int → Int → List Int → Int → Bool → Option (Bool)
  | 0, _, _, _, _, _ => none
  | k + 1, x2, x3, x9, x11, x47 => if x47 = true then ((klaxonlaw03_live.f).bind fun t221 => (some t221)) else (klaxonlaw03_PageTurned.l0 k x2 x3 x9 x11 false 0)
def klaxonlaw03_PageTurned.l0 : Nat → Int → Int → List Int → Int → Bool → Int → Option (Bool)
  | 0, _, _, _, _, _, _ => none
  | k + 1, x2, x3, x9, x11, x12, x13 => if x13 < 32 then (klaxonlaw03_PageTurned.j2 k x2 x3 x9 x11 x12 x13 (decide (x2 < (wrap64 (x11 - x13))))) else (klaxonlaw03_PageTurned.j2 k x2 x3 x9 x11 x12 x13 false)
def klaxonlaw03_PageTurned.j2 : Nat → Int → Int → List Int → Int → Bool → Int → Bool → Option (Bool)
  | 0, _, _, _, _, _, _, _ => none
  | k + 1, x2, x3, x9, x11, x12, x13, x57 => if x57 = true then (if 0 ≤ (IntKind.u64.wrap (x13)) then (if (Go.bits .and .u32 (shr .u32 x3 (IntKind.u64.wrap (x13))) 1) = 1 then (if 0 ≤ (wrap64 (Int.tdiv (wrap64 (x2 + x13)) 8)) then (if (wrap64 (Int.tdiv (wrap64 (x2 + x13)) 8)) < (x9.length : Int) then (if 0 ≤ (IntKind.u64.wrap (Int.tmod (wrap64 (x2 + x13)) 8)) then (klaxonlaw03_PageTurned.l0 k x2 x3 (x9.set ((wrap64 (Int.tdiv (wrap64 (x2 + x13)) 8)) : Int).toNat (Go.bits .xor .u8 (rd x9 (wrap64 (Int.tdiv (wrap64 (x2 + x13)) 8))) (shl .u8 1 (IntKind.u64.wrap (Int.tmod (wrap64 (x2 + x13)) 8))))) x11 true (wrap64 (x13 + 1))) else (none)) else (none)) else (none)) else (klaxonlaw03_PageTurned.l0 k x2 x3 x9 x11 x12 (wrap64 (x13 + 1)))) else (none)) else ((page_Get.f k x9).bind fun bt224 => (if x12 = true then ((klaxonlaw03_num.f bt224.2.2.2).bind fun t231 => (if t231 = 30 then ((klaxonref03_Same.f bt224.1 bt224.2.1 bt224.2.2.1 0 0 ([] : List Int)).bind fun t232 => (if t232 = true then ((klaxonlaw03_live.f).bind fun t233 => (some t233)) else (some false))) else (some false))) else ((klaxonlaw03_num.f bt224.2.2.2).bind fun t234 => (if t234 = 0 then ((klaxonlaw03_live.f).bind fun t235 => (some t235)) else (some false)))))
end
def klaxonlaw03_PageTurned.f (k : Nat) (a0 : Int) (a1_0 : Int) (a1_1 : Int) (l1_2 : List Int) (a2 : Int) (a3 : Int) : Option (Bool) := if (l1_2.length : Int) > 20000 then ((klaxonlaw03_live.f).bind fun t214 => (some t214)) else ((page_Put.f a0 a1_0 a1_1 l1_2).bind fun bt215 => ((klaxonlaw03_num.f bt215.2).bind fun t219 => (if t219 = 0 then (if (bt215.1.length : Int) = a0 then (if a2 < 0 then (klaxonlaw03_PageTurned.j0 k a2 a3 bt215.1 (wrap64 (8 * (wrap64 ((bt215.1.length : Int) - 4)))) true) else (klaxonlaw03_PageTurned.j0 k a2 a3 bt215.1 (wrap64 (8 * (wrap64 ((bt215.1.length : Int) - 4)))) (decide (a2 ≥ (wrap64 (8 * (wrap64 ((bt215.1.length : Int) - 4)))))))) else (klaxonlaw03_PageTurned.j0 k a2 a3 bt215.1 (wrap64 (8 * (wrap64 ((bt215.1.length : Int) - 4)))) true)) else ((klaxonlaw03_live.f).bind fun t220 => (some t220)))))
theorem klaxonlaw03_PageTurned.mono_l : ∀ k, (∀ y0 y1 y2 y3 y4, LeO (klaxonlaw03_PageTurned.j0 k y0 y1 y2 y3 y4) (klaxonlaw03_PageTurned.j0 (k + 1) y0 y1 y2 y3 y4)) ∧ (∀ y0 y1 y2 y3 y4 y5, LeO (klaxonlaw03_PageTurned.l0 k y0 y1 y2 y3 y4 y5) (klaxonlaw03_PageTurned.l0 (k + 1) y0 y1 y2 y3 y4 y5)) ∧ (∀ y0 y1 y2 y3 y4 y5 y6, LeO (klaxonlaw03_PageTurned.j2 k y0 y1 y2 y3 y4 y5 y6) (klaxonlaw03_PageTurned.j2 (k + 1) y0 y1 y2 y3 y4 y5 y6))
  | 0 => ⟨fun _ _ _ _ _ r h => by simp [klaxonlaw03_PageTurned.j0] at h, fun _ _ _ _ _ _ r h => by simp [klaxonlaw03_PageTurned.l0] at h, fun _ _ _ _ _ _ _ r h => by simp [klaxonlaw03_PageTurned.j2] at h⟩
  | k + 1 => by
    obtain ⟨ih0, ih1, ih2⟩ := klaxonlaw03_PageTurned.mono_l k
    refine ⟨?_, ?_, ?_⟩
    · intro y0 y1 y2 y3 y4
      unfold klaxonlaw03_PageTurned.j0
      repeat' first
      | (with_reducible exact ih0 _ _ _ _ _)
      | (with_reducible exact ih1 _ _ _ _ _ _)
      | (with_reducible exact ih2 _ _ _ _ _ _ _)
      | (with_reducible exact page_Get.mono _ _)
      | (with_reducible exact LeO.refl _)
      | (with_reducible exact LeO.none _)
      | (with_reducible refine LeO.ite ?_ ?_)
      | (with_reducible refine LeO.bind ?_ (fun _ => ?_))
      | exact ih0 _ _ _ _ _
      | exact ih1 _ _ _ _ _ _
      | exact ih2 _ _ _ _ _ _ _
      | exact page_Get.mono _ _
      | exact LeO.none _
      | refine LeO.ite ?_ ?_
      | refine LeO.bind ?_ (fun _ => ?_)
    · intro y0 y1 y2 y3 y4 y5
      unfold klaxonlaw03_PageTurned.l0
      repeat' first
      | (with_reducible exact ih0 _ _ _ _ _)
      | (with_reducible exact ih1 _ _ _ _ _ _)
      | (with_reducible exact ih2 _ _ _ _ _ _ _)
      | (with_reducible exact page_Get.mono _ _)
      | (with_reducible exact LeO.refl _)
      | (with_reducible exact LeO.none _)
      | (with_reducible refine LeO.ite ?_ ?_)
      | (with_reducible refine LeO.bind ?_ (fun _ => ?_))
      | exact ih0 _ _ _ _ _
      | exact ih1 _ _ _ _ _ _
      | exact ih2 _ _ _ _ _ _ _
      | exact page_Get.mono _ _
      | exact LeO.none _
      | refine LeO.ite ?_ ?_
      | refine LeO.bind ?_ (fun _ => ?_)
    · intro y0 y1 y2 y3 y4 y5 y6
      unfold klaxonlaw03_PageTurned.j2
      repeat' first
      | (with_reducible exact ih0 _ _ _ _ _)
      | (with_reducible exact ih1 _ _ _ _ _ _)
      | (with_reducible exact ih2 _ _ _ _ _ _ _)
      | (with_reducible exact page_Get.mono _ _)
      | (with_reducible exact LeO.refl _)
      | (with_reducible exact LeO.none _)
      | (with_reducible refine LeO.ite ?_ ?_)
      | (with_reducible refine LeO.bind ?_ (fun _ => ?_))
      | exact ih0 _ _ _ _ _
      | exact ih1 _ _ _ _ _ _
      | exact ih2 _ _ _ _ _ _ _
      | exact page_Get.mono _ _
      | exact LeO.none _
      | refine LeO.ite ?_ ?_
      | refine LeO.bind ?_ (fun _ => ?_)
theorem klaxonlaw03_PageTurned.mono : ∀ a0 a1 a2 a3 a4 a5 k, LeO (klaxonlaw03_PageTurned.f k a0 a1 a2 a3 a4 a5) (klaxonlaw03_PageTurned.f (k + 1) a0 a1 a2 a3 a4 a5) := by
  intro a0 a1 a2 a3 a4 a5 k
  obtain ⟨ih0, ih1, ih2⟩ := klaxonlaw03_PageTurned.mono_l k
  unfold klaxonlaw03_PageTurned.f
  repeat' first
      | (with_reducible exact ih0 _ _ _ _ _)
      | (with_reducible exact ih1 _ _ _ _ _ _)
      | (with_reducible exact ih2 _ _ _ _ _ _ _)
      | (with_reducible exact page_Get.mono _ _)
      | (with_reducible exact LeO.refl _)
      | (with_reducible exact LeO.none _)
      | (with_reducible refine LeO.ite ?_ ?_)
      | (with_reducible refine LeO.bind ?_ (fun _ => ?_))
      | exact ih0 _ _ _ _ _
      | exact ih1 _ _ _ _ _ _
      | exact ih2 _ _ _ _ _ _ _
      | exact page_Get.mono _ _
      | exact LeO.none _
      | refine LeO.ite ?_ ?_
      | refine LeO.bind ?_ (fun _ => ?_)
set_option maxHeartbeats 8000000 in
set_option maxRecDepth 100000 in
theorem klaxonlaw03_PageTurned.calls (k : Nat) (a0 : Int) (a1_0 : Int) (a1_1 : Int) (A1_2 : Option Addr) (c1_2 : Nat) (l1_2 : List Int) (a2 : Int) (a3 : Int) (w : World) (hr1_2 : Kd.C (Kd.int .u8) w A1_2 l1_2.length l1_2) (hc1_2 : l1_2.length ≤ c1_2) (h : klaxonlaw03_PageTurned.f k a0 a1_0 a1_1 l1_2 a2 a3 = some true) :
    Calls Try.prog 5 #[.int .i64 a0, .agg #[.int .u8 a1_0, .int .u32 a1_1, .slice A1_2 l1_2.length c1_2], .int .i64 a2, .int .u32 a3] w fun e w' => e = .returned (.bool true) ∧ Below w.heap.size w w' := by
  have hu25 := Try.underlying25
  have HR1_2 := Aside0.mk hr1_2
  have HC1_2 := Aside0.mk hc1_2
  clear hr1_2 hc1_2
  have HB := Aside0.mk (Below.refl w.heap.size w)
  have H : (if (l1_2.length : Int) > 20000 then ((klaxonlaw03_live.f).bind fun t214 => (some t214)) else ((page_Put.f a0 a1_0 a1_1 l1_2).bind fun bt215 => ((klaxonlaw03_num.f bt215.2).bind fun t219 => (if t219 = 0 then (if (bt215.1.length : Int) = a0 then (if a2 < 0 then (klaxonlaw03_PageTurned.j0 k a2 a3 bt215.1 (wrap64 (8 * (wrap64 ((bt215.1.length : Int) - 4)))) true) else (klaxonlaw03_PageTurned.j0 k a2 a3 bt215.1 (wrap64 (8 * (wrap64 ((bt215.1.length : Int) - 4)))) (decide (a2 ≥ (wrap64 (8 * (wrap64 ((bt215.1.length : Int) - 4)))))))) else (klaxonlaw03_PageTurned.j0 k a2 a3 bt215.1 (wrap64 (8 * (wrap64 ((bt215.1.length : Int) - 4)))) true)) else ((klaxonlaw03_live.f).bind fun t220 => (some t220)))))) = some true := h
  clear h
  by_cases c5 : (l1_2.length : Int) > 20000
  · rw [if_pos c5] at H
    have c5b0 : decide (20000 < (l1_2.length : Int)) = true := decide_eq_true c5
    have c5b1 : decide (20000 < l1_2.length) = true := decide_eq_true (by omega)
    clear c5
    replace H := Option.bind_eq_some_iff.mp H
    obtain ⟨t214, A60, H⟩ := H
    replace H : (some t214) = some true := H
    have A6 := Aside0.mk A60
    clear A60
    have H9_ := Option.some.inj H
    clear H
    go_enter Try.func5, Try.ntmps5
    go_wp2_with (first | ((with_reducible refine gate_dst (N := 5) rfl ?_); refine box_event ?hg (N := 5) ?hd (cs := #[.int .u8 a1_0, .int .u32 a1_1, .slice A1_2 l1_2.length c1_2]) (t := 25) ?hr ?_; (case hd => rfl); (case hg => rfl); (case hr => first | (go_simp; done) | (go_simp; rfl)); intro gb213 hg w7 hbox hb; have n0_ := Aside0.mk (below_step (by repeat (first | (with_reducible first | exact HB.out | apply below_alloc | apply pw_below_drewN | apply below_drew1) | exact HB.out)) hb); have n1_ := Aside0.mk (hbox); have n2_ := Aside0.mk ((by rw [hg]; exact (below_size (by repeat (first | (with_reducible first | exact HB.out | apply below_alloc | apply pw_below_drewN | apply below_drew1) | exact HB.out))) : w.heap.size ≤ gb213)); have n3_ := Aside0.mk ((by rw [hg]; exact (below_size (by repeat (first | (with_reducible first | exact HB.out | apply below_alloc | apply pw_below_drewN | apply below_drew1) | exact HB.out))) : w.heap.size ≤ gb213)); clear HB; have HB := n0_; have BK213 := n1_; have GW213 := n2_; have GE213 := n3_; clear n0_ n1_ n2_ n3_; clear hb hbox hg; have hcz8_0 : w7.cell? ⟨gb213, 0, none⟩ = some (.int .u8 a1_0) := (blk_cell BK213.out 0).trans rfl; have hcz8_1 : w7.cell? ⟨gb213, 1, none⟩ = some (.int .u32 a1_1) := (blk_cell BK213.out 1).trans rfl; have hcz8_2 : w7.cell? ⟨gb213, 2, none⟩ = some (.slice A1_2 l1_2.length c1_2) := (blk_cell BK213.out 2).trans rfl; have hfz8_0 := blk_frozen BK213.out 0; have hfz8_1 := blk_frozen BK213.out 1; have hfz8_2 := blk_frozen BK213.out 2) | ((with_reducible refine gate_callee (f := 15) rfl ?_); refine goesL_ (some 20) rfl rfl Try.func15 (by kernel_rfl) rfl #[] rfl (by (try simp only [List.map_toArray, List.map_cons, List.map_nil]); first | done | rfl | (simp only [List.length_drop, List.length_take]; rfl)) ?_; (with_reducible refine (klaxonlaw03_live.calls  t214 _ A6.out).mono ?_); rintro e w9 ⟨rfl, hb⟩; refine ⟨_, rfl, ?_⟩; have n0_ := Aside0.mk (blk_below (g := gb213) (o := .cells #[.int .u8 a1_0, .int .u32 a1_1, .slice A1_2 l1_2.length c1_2] 25 (0, 0)) (by (with_reducible repeat (first | refine blk_drewN ?_ _ | refine blk_drew ?_ | refine blk_alloc ?_ _)); exact BK213.out) hb); have n1_ := Aside0.mk (below_step (by repeat (first | (with_reducible first | exact HB.out | apply below_alloc | apply pw_below_drewN | apply below_drew1 | refine below_set ?_ GE213.out) | exact HB.out)) hb); clear BK213; clear HB; have BK213 := n0_; have HB := n1_; clear n0_ n1_; (try clear hb); (try clear hb2); (try clear hk); (try clear hi)))
    go_ret
    exact ⟨by first | rfl | (simp [errW_none, errW_some] <;> rfl) | (simp [*, errW_none, errW_some] <;> rfl), by repeat (first | (with_reducible first | exact HB.out | apply below_alloc | apply pw_below_drewN | apply below_drew1 | refine below_set ?_ GE213.out) | exact HB.out)⟩
  · rw [if_neg c5] at H
    have c5b0 : decide (20000 < (l1_2.length : Int)) = false := decide_eq_false c5
    have c5b1 : decide (20000 < l1_2.length) = false := decide_eq_false (by omega)
    clear c5
    replace H := Option.bind_eq_some_iff.mp H
    obtain ⟨⟨t215, t218⟩, A100, H⟩ := H
    replace H : ((klaxonlaw03_num.f t218).bind fun t219 => (if t219 = 0 then (if (t215.length : Int) = a0 then (if a2 < 0 then (klaxonlaw03_PageTurned.j0 k a2 a3 t215 (wrap64 (8 * (wrap64 ((t215.length : Int) - 4)))) true) else (klaxonlaw03_PageTurned.j0 k a2 a3 t215 (wrap64 (8 * (wrap64 ((t215.length : Int) - 4)))) (decide (a2 ≥ (wrap64 (8 * (wrap64 ((t215.length : Int) - 4)))))))) else (klaxonlaw03_PageTurned.j0 k a2 a3 t215 (wrap64 (8 * (wrap64 ((t215.length : Int) - 4)))) true)) else ((klaxonlaw03_live.f).bind fun t220 => (some t220)))) = some true := H
    have A10 := Aside0.mk A100
    clear A100
    replace H := Option.bind_eq_some_iff.mp H
    obtain ⟨t219, A110, H⟩ := H
    replace H : (if t219 = 0 then (if (t215.length : Int) = a0 then (if a2 < 0 then (klaxonlaw03_PageTurned.j0 k a2 a3 t215 (wrap64 (8 * (wrap64 ((t215.length : Int) - 4)))) true) else (klaxonlaw03_PageTurned.j0 k a2 a3 t215 (wrap64 (8 * (wrap64 ((t215.length : Int) - 4)))) (decide (a2 ≥ (wrap64 (8 * (wrap64 ((t215.length : Int) - 4)))))))) else (klaxonlaw03_PageTurned.j0 k a2 a3 t215 (wrap64 (8 * (wrap64 ((t215.length : Int) - 4)))) true)) else ((klaxonlaw03_live.f).bind fun t220 => (some t220))) = some true := H
    have A11 := Aside0.mk A110
    clear A110
    by_cases c12 : t219 = 0
    · rw [if_pos c12] at H
      have c12b0 : (t219 == 0) = true := beq_iff_eq.mpr c12
      have c12b1 : (t219 != 0) = false := bne_eq_false_iff_eq.mpr c12
      clear c12
      have HC13 := Aside0.mk H
      clear H
      go_enter Try.func5, Try.ntmps5
      go_upto_region 7 with (first | ((with_reducible refine gate_dst (N := 5) rfl ?_); refine box_event ?hg (N := 5) ?hd (cs := #[.int .u8 a1_0, .int .u32 a1_1, .slice A1_2 l1_2.length c1_2]) (t := 25) ?hr ?_; (case hd => rfl); (case hg => rfl); (case hr => first | (go_simp; done) | (go_simp; rfl)); intro gb213 hg w14 hbox hb; have n0_ := Aside0.mk (below_step (by repeat (first | (with_reducible first | exact HB.out | apply below_alloc | apply pw_below_drewN | apply below_drew1) | exact HB.out)) hb); have n1_ := Aside0.mk (hbox); have n2_ := Aside0.mk ((by rw [hg]; exact (below_size (by repeat (first | (with_reducible first | exact HB.out | apply below_alloc | apply pw_below_drewN | apply below_drew1) | exact HB.out))) : w.heap.size ≤ gb213)); have n3_ := Aside0.mk ((by rw [hg]; exact (below_size (by repeat (first | (with_reducible first | exact HB.out | apply below_alloc | apply pw_below_drewN | apply below_drew1) | exact HB.out))) : w.heap.size ≤ gb213)); clear HB; have HB := n0_; have BK213 := n1_; have GW213 := n2_; have GE213 := n3_; clear n0_ n1_ n2_ n3_; clear hb hbox hg; have hcz15_0 : w14.cell? ⟨gb213, 0, none⟩ = some (.int .u8 a1_0) := (blk_cell BK213.out 0).trans rfl; have hcz15_1 : w14.cell? ⟨gb213, 1, none⟩ = some (.int .u32 a1_1) := (blk_cell BK213.out 1).trans rfl; have hcz15_2 : w14.cell? ⟨gb213, 2, none⟩ = some (.slice A1_2 l1_2.length c1_2) := (blk_cell BK213.out 2).trans rfl; have hfz15_0 := blk_frozen BK213.out 0; have hfz15_1 := blk_frozen BK213.out 1; have hfz15_2 := blk_frozen BK213.out 2) | ((with_reducible refine gate_callee (f := 16) rfl ?_); refine goesL_ (some 24) rfl rfl Try.func16 (by kernel_rfl) rfl #[.int .i64 a0, .agg #[.int .u8 a1_0, .int .u32 a1_1, .slice A1_2 l1_2.length c1_2]] rfl (by (try simp only [List.map_toArray, List.map_cons, List.map_nil]); first | done | rfl | (simp only [List.length_drop, List.length_take]; rfl)) ?_; (with_reducible refine (page_Put.calls a0 a1_0 a1_1 _ _ l1_2 t215 t218 _ ?side1 ?side2 A10.out).mono ?_); (case side1 => repeat (first | exact (Kd.C_below HR1_2.out HB.out) | (with_reducible refine Kd.C_alloc ?_ _) | (with_reducible refine Kd.C_drewN ?_ _) | (with_reducible refine Kd.C_drew ?_))); (case side2 => exact HC1_2.out); rintro e w16 ⟨v216, rfl, ho0, hb⟩; refine ⟨_, rfl, ?_⟩; have n0_ := Aside0.mk (Kd.R_lower ho0 (below_size (by repeat (first | (with_reducible first | exact HB.out | apply below_alloc | apply pw_below_drewN | apply below_drew1 | refine below_set ?_ GE213.out) | exact HB.out)))); have n1_ := Aside0.mk (blk_below (g := gb213) (o := .cells #[.int .u8 a1_0, .int .u32 a1_1, .slice A1_2 l1_2.length c1_2] 25 (0, 0)) (by (with_reducible repeat (first | refine blk_drewN ?_ _ | refine blk_drew ?_ | refine blk_alloc ?_ _)); exact BK213.out) hb); have n2_ := Aside0.mk (below_step (by repeat (first | (with_reducible first | exact HB.out | apply below_alloc | apply pw_below_drewN | apply below_drew1 | refine below_set ?_ GE213.out) | exact HB.out)) hb); clear BK213; clear HB; have HO217 := n0_; have BK213 := n1_; have HB := n2_; clear n0_ n1_ n2_; (try clear hb); (try clear hb2); (try clear hk); (try clear hi); (try clear ho0)) | ((with_reducible refine gate_callee (f := 20) rfl ?_); refine goesL_ (some 28) rfl rfl Try.func20 (by kernel_rfl) rfl #[.int .i64 t218] rfl (by (try simp only [List.map_toArray, List.map_cons, List.map_nil]); first | done | rfl | (simp only [List.length_drop, List.length_take]; rfl)) ?_; (with_reducible refine (klaxonlaw03_num.calls t218 t219 _ A11.out).mono ?_); rintro e w' ⟨rfl, ⟨nd, rfl⟩⟩; refine ⟨_, rfl, ?_⟩; obtain ⟨Ao17, co17, eo17⟩ := Kd.R_slice HO217.out; subst eo17))
      (try simp only [Act.put, List.setIfInBounds_toArray, List.set_cons_zero, List.set_cons_succ])
      go_cut [47] (fun v47 wc => ∃ (kq : Nat) (x47_12 : Bool), v47 = .bool x47_12 ∧ Aside0 (klaxonlaw03_PageTurned.j0 kq a2 a3 t215 (wrap64 (8 * (wrap64 ((t215.length : Int) - 4)))) x47_12 = some true) ∧ Aside0 (kq ≤ k) ∧ Aside0 (Kd.R (Kd.int .u8) 5 wc w.heap.size (fun _ => True) (.slice Ao17 t215.length co17) t215) ∧ Aside0 (wc.heap[gb213]? = some (.cells #[.int .u8 a1_0, .int .u32 a1_1, (.slice A1_2 l1_2.length c1_2)] 25 (0, 0))) ∧ Aside0 (Below w.heap.size w wc))
      case first =>
        have H := HC13.out
        clear HC13
        by_cases c18 : (t215.length : Int) = a0
        · rw [if_pos c18] at H
          have c18b0 : ((t215.length : Int) == a0) = true := beq_iff_eq.mpr c18
          have c18b1 : ((t215.length : Int) != a0) = false := bne_eq_false_iff_eq.mpr c18
          clear c18
          (first | rw [c18b0] | (simp only [i64_w, i32_w]; rw [c18b0]) | skip)
          by_cases c19 : a2 < 0
          · rw [if_pos c19] at H
            have c19b0 : decide (a2 < 0) = true := decide_eq_true c19
            clear c19
            have H' := Aside0.mk H
            clear H
            go_wp2
            go_meet
            case rel => exact ⟨_, (true), (by first | rfl | (simp; done) | (simp [*]; done)), H', ⟨by first | omega | exact Nat.le_refl _⟩, ⟨by (with_reducible repeat (first | apply Kd.R_alloc | apply Kd.R_drewN | apply Kd.R_drew)); exact HO217.out⟩, ⟨by (with_reducible repeat (first | refine blk_drewN ?_ _ | refine blk_drew ?_ | refine blk_alloc ?_ _)); exact BK213.out⟩, ⟨by repeat (first | (with_reducible first | exact HB.out | apply below_alloc | apply pw_below_drewN | apply below_drew1 | refine below_set ?_ GE213.out) | exact HB.out)⟩⟩
          · rw [if_neg c19] at H
            have c19b0 : decide (a2 < 0) = false := decide_eq_false c19
            clear c19
            have H' := Aside0.mk H
            clear H
            go_wp2
            go_meet
            case rel => exact ⟨_, (decide (a2 ≥ (wrap64 (8 * (wrap64 ((t215.length : Int) - 4)))))), (by first | rfl | (simp; done) | (simp [*]; done)), H', ⟨by first | omega | exact Nat.le_refl _⟩, ⟨by (with_reducible repeat (first | apply Kd.R_alloc | apply Kd.R_drewN | apply Kd.R_drew)); exact HO217.out⟩, ⟨by (with_reducible repeat (first | refine blk_drewN ?_ _ | refine blk_drew ?_ | refine blk_alloc ?_ _)); exact BK213.out⟩, ⟨by repeat (first | (with_reducible first | exact HB.out | apply below_alloc | apply pw_below_drewN | apply below_drew1 | refine below_set ?_ GE213.out) | exact HB.out)⟩⟩
        · rw [if_neg c18] at H
          have c18b0 : ((t215.length : Int) == a0) = false := beq_eq_false_iff_ne.mpr c18
          have c18b1 : ((t215.length : Int) != a0) = true := bne_iff_ne.mpr c18
          (first | rw [c18b0] | (simp only [i64_w, i32_w]; rw [c18b0]) | skip)
          have H' := Aside0.mk H
          clear H
          go_wp2
          go_meet
          case rel => exact ⟨_, (true), (by first | rfl | (simp; done) | (simp [*]; done)), H', ⟨by first | omega | exact Nat.le_refl _⟩, ⟨by (with_reducible repeat (first | apply Kd.R_alloc | apply Kd.R_drewN | apply Kd.R_drew)); exact HO217.out⟩, ⟨by (with_reducible repeat (first | refine blk_drewN ?_ _ | refine blk_drew ?_ | refine blk_alloc ?_ _)); exact BK213.out⟩, ⟨by repeat (first | (with_reducible first | exact HB.out | apply below_alloc | apply pw_below_drewN | apply below_drew1 | refine below_set ?_ GE213.out) | exact HB.out)⟩⟩
      case rest =>
        clear HC13
        try clear c1
        try clear c2
        try clear p2
        try clear c5
        try clear c5b0
        try clear c5b1
        try clear p6
        try clear c12
        try clear c12b0
        try clear c12b1
        try clear c15
        try clear c16
        try clear c18
        try clear c18b0
        try clear c18b1
        try clear c19
        try clear c19b0
        try clear hcz15_0
        try clear hcz15_1
        try clear hcz15_2
        try clear hcz8_0
        try clear hcz8_1
        try clear hcz8_2
        try clear hfz15_0
        try clear hfz15_1
        try clear hfz15_2
        try clear hfz8_0
        try clear hfz8_1
        try clear hfz8_2
        obtain ⟨kq, x47_12, rfl, HA, HJ12, HO_9, BK213, HB⟩ := hcut
        cases kq with
        | zero => exact absurd HA.out (by simp [klaxonlaw03_PageTurned.j0])
        | succ kj12 =>
          have H := HA.out
          clear HA
          simp only [klaxonlaw03_PageTurned.j0] at H
          by_cases c20 : x47_12 = true
          · subst c20
            have H1 : ((klaxonlaw03_live.f).bind fun t221 => (some t221)) = some true := by rw [if_pos rfl] at H; exact H
            clear H
            have H := H1
            clear H1
            replace H := Option.bind_eq_some_iff.mp H
            obtain ⟨t221, A210, H⟩ := H
            replace H : (some t221) = some true := H
            have A21 := Aside0.mk A210
            clear A210
            have H9_ := Option.some.inj H
            clear H
            go_wp2_with (first | ((with_reducible refine gate_callee (f := 15) rfl ?_); refine goesL_ (some 48) rfl rfl Try.func15 (by kernel_rfl) rfl #[] rfl (by (try simp only [List.map_toArray, List.map_cons, List.map_nil]); first | done | rfl | (simp only [List.length_drop, List.length_take]; rfl)) ?_; (with_reducible refine (klaxonlaw03_live.calls  t221 _ A21.out).mono ?_); rintro e w22 ⟨rfl, hb⟩; refine ⟨_, rfl, ?_⟩; have n0_ := Aside0.mk (Kd.R_below (by (with_reducible repeat (first | apply Kd.R_alloc | apply Kd.R_drewN | apply Kd.R_drew)); exact HO_9.out) hb); have n1_ := Aside0.mk (blk_below (g := gb213) (o := .cells #[.int .u8 a1_0, .int .u32 a1_1, .slice A1_2 l1_2.length c1_2] 25 (0, 0)) (by (with_reducible repeat (first | refine blk_drewN ?_ _ | refine blk_drew ?_ | refine blk_alloc ?_ _)); exact BK213.out) hb); have n2_ := Aside0.mk (below_step (by repeat (first | (with_reducible first | exact HB.out | apply below_alloc | apply pw_below_drewN | apply below_drew1 | refine below_set ?_ GE213.out) | exact HB.out)) hb); clear HO_9; clear BK213; clear HB; have HO_9 := n0_; have BK213 := n1_; have HB := n2_; clear n0_ n1_ n2_; (try clear hb); (try clear hb2); (try clear hk); (try clear hi)))
            go_ret
            exact ⟨by first | rfl | (simp [errW_none, errW_some] <;> rfl) | (simp [*, errW_none, errW_some] <;> rfl), by repeat (first | (with_reducible first | exact HB.out | apply below_alloc | apply pw_below_drewN | apply below_drew1 | refine below_set ?_ GE213.out) | exact HB.out)⟩
          · replace c20 := Bool.eq_false_iff.mpr c20
            subst c20
            have H1 : (klaxonlaw03_PageTurned.l0 kj12 a2 a3 t215 (wrap64 (8 * (wrap64 ((t215.length : Int) - 4)))) false 0) = some true := by rw [if_neg (show ¬ (false = true) by decide)] at H; exact H
            clear H
            have H := H1
            clear H1
            have H' := Aside0.mk H
            clear H
            go_wp2
            go_loopg [12, 13] kj12 (fun kq v12 v13 w' => ∃ (x9_2 : List Int) (x12_2 : Bool) (x13_2 : Int), v12 = .bool x12_2 ∧ v13 = .int .i64 x13_2 ∧ Aside0 (klaxonlaw03_PageTurned.l0 kq a2 a3 x9_2 (wrap64 (8 * (wrap64 ((t215.length : Int) - 4)))) x12_2 x13_2 = some true) ∧ Aside0 (kq ≤ kj12) ∧ Aside0 (Kd.R (Kd.int .u8) 5 w' w.heap.size (fun _ => True) (.slice Ao17 t215.length co17) x9_2) ∧ Aside0 (w'.heap[gb213]? = some (.cells #[.int .u8 a1_0, .int .u32 a1_1, (.slice A1_2 l1_2.length c1_2)] 25 (0, 0))) ∧ Aside0 (Below w.heap.size w w'))
            case atStart => exact ⟨(t215), (false), (0), (by first | rfl | (simp; done) | (simp [*]; done)), (by first | rfl | (simp; done) | (simp [*]; done)), H', ⟨Nat.le_refl _⟩, ⟨by (with_reducible repeat (first | apply Kd.R_alloc | apply Kd.R_drewN | apply Kd.R_drew)); exact HO_9.out⟩, ⟨by (with_reducible repeat (first | refine blk_drewN ?_ _ | refine blk_drew ?_ | refine blk_alloc ?_ _)); exact BK213.out⟩, ⟨by repeat (first | (with_reducible first | exact HB.out | apply below_alloc | apply pw_below_drewN | apply below_drew1 | refine below_set ?_ GE213.out) | exact HB.out)⟩⟩
            case round =>
              clear H'
              try clear c1
              try clear c2
              try clear p2
              try clear c5
              try clear c5b0
              try clear c5b1
              try clear p6
              try clear c12
              try clear c12b0
              try clear c12b1
              try clear c15
              try clear c16
              try clear c18
              try clear c18b0
              try clear c18b1
              try clear c19
              try clear c19b0
              try clear c20
              try clear hcz15_0
              try clear hcz15_1
              try clear hcz15_2
              try clear hcz8_0
              try clear hcz8_1
              try clear hcz8_2
              try clear hfz15_0
              try clear hfz15_1
              try clear hfz15_2
              try clear hfz8_0
              try clear hfz8_1
              try clear hfz8_2
              try clear p2
              try clear p6
              obtain ⟨x9_2, x12_2, x13_2, rfl, rfl, HA, HK2, HO_9, BK213, HB⟩ := hrel
              have hl9_2 := (Kd.R_reads' HO_9.out).1
              rw [hl9_2] at HO_9
              (try simp only [hl9_2])
              (try simp only [hl9_2] at BK213)
              cases gk with
              | zero => exact absurd HA.out (by simp [klaxonlaw03_PageTurned.l0])
              | succ k2 =>
                have H := HA.out
                clear HA
                simp only [klaxonlaw03_PageTurned.l0] at H
                have HC23 := Aside0.mk H
                clear H
                go_upto_region 11 with (fail)
                go_cut [57] (fun v57 wc => ∃ (kq : Nat) (x57_22 : Bool), v57 = .bool x57_22 ∧ Aside0 (klaxonlaw03_PageTurned.j2 kq a2 a3 x9_2 (wrap64 (8 * (wrap64 ((t215.length : Int) - 4)))) x12_2 x13_2 x57_22 = some true) ∧ Aside0 (kq ≤ k2) ∧ Aside0 (Kd.R (Kd.int .u8) 5 wc w.heap.size (fun _ => True) (.slice Ao17 x9_2.length co17) x9_2) ∧ Aside0 (wc.heap[gb213]? = some (.cells #[.int .u8 a1_0, .int .u32 a1_1, (.slice A1_2 l1_2.length c1_2)] 25 (0, 0))) ∧ Aside0 (Below w.heap.size w wc))
                case first =>
                  have H := HC23.out
                  clear HC23
                  by_cases c24 : x13_2 < 32
                  · rw [if_pos c24] at H
                    have c24b0 : decide (x13_2 < 32) = true := decide_eq_true c24
                    clear c24
                    (first | rw [c24b0] | (simp only [i64_w, i32_w]; rw [c24b0]) | skip)
                    have H' := Aside0.mk H
                    clear H
                    go_wp2
                    go_meet
                    case rel => exact ⟨_, (decide (a2 < (wrap64 ((wrap64 (8 * (wrap64 ((t215.length : Int) - 4)))) - x13_2)))), (by first | rfl | (simp; done) | (simp [*]; done)), H', ⟨by have := HJ12.out; have := HK2.out; first | omega | exact Nat.le_refl _⟩, ⟨by (try simp only [hl9_2]); (with_reducible repeat (first | apply Kd.R_alloc | apply Kd.R_drewN | apply Kd.R_drew)); exact HO_9.out⟩, ⟨by (try simp only [hl9_2]); (with_reducible repeat (first | refine blk_drewN ?_ _ | refine blk_drew ?_ | refine blk_alloc ?_ _)); exact BK213.out⟩, ⟨by repeat (first | (with_reducible first | exact HB.out | apply below_alloc | apply pw_below_drewN | apply below_drew1 | refine below_set ?_ GE213.out) | exact HB.out)⟩⟩
                  · rw [if_neg c24] at H
                    have c24b0 : decide (x13_2 < 32) = false := decide_eq_false c24
                    clear c24
                    (first | rw [c24b0] | (simp only [i64_w, i32_w]; rw [c24b0]) | skip)
                    have H' := Aside0.mk H
                    clear H
                    go_wp2
                    go_meet
                    case rel => exact ⟨_, (false), (by first | rfl | (simp; done) | (simp [*]; done)), H', ⟨by have := HJ12.out; have := HK2.out; first | omega | exact Nat.le_refl _⟩, ⟨by (try simp only [hl9_2]); (with_reducible repeat (first | apply Kd.R_alloc | apply Kd.R_drewN | apply Kd.R_drew)); exact HO_9.out⟩, ⟨by (try simp only [hl9_2]); (with_reducible repeat (first | refine blk_drewN ?_ _ | refine blk_drew ?_ | refine blk_alloc ?_ _)); exact BK213.out⟩, ⟨by repeat (first | (with_reducible first | exact HB.out | apply below_alloc | apply pw_below_drewN | apply below_drew1 | refine below_set ?_ GE213.out) | exact HB.out)⟩⟩
                case rest =>
                  clear HC23
                  try clear c1
                  try clear c2
                  try clear p2
                  try clear c5
                  try clear c5b0
                  try clear c5b1
                  try clear p6
                  try clear c12
                  try clear c12b0
                  try clear c12b1
                  try clear c15
                  try clear c16
                  try clear c18
                  try clear c18b0
                  try clear c18b1
                  try clear c19
                  try clear c19b0
                  try clear c20
                  try clear c24
                  try clear c24b0
                  try clear hcz15_0
                  try clear hcz15_1
                  try clear hcz15_2
                  try clear hcz8_0
                  try clear hcz8_1
                  try clear hcz8_2
                  try clear hfz15_0
                  try clear hfz15_1
                  try clear hfz15_2
                  try clear hfz8_0
                  try clear hfz8_1
                  try clear hfz8_2
                  try clear p2
                  try clear p6
                  obtain ⟨kq, x57_22, rfl, HA, HJ22, HO_9, BK213, HB⟩ := hcut
                  cases kq with
                  | zero => exact absurd HA.out (by simp [klaxonlaw03_PageTurned.j2])
                  | succ kj22 =>
                    have H := HA.out
                    clear HA
                    simp only [klaxonlaw03_PageTurned.j2] at H
                    by_cases c25 : x57_22 = true
                    · subst c25
                      have H1 : (if 0 ≤ (IntKind.u64.wrap (x13_2)) then (if (Go.bits .and .u32 (shr .u32 a3 (IntKind.u64.wrap (x13_2))) 1) = 1 then (if 0 ≤ (wrap64 (Int.tdiv (wrap64 (a2 + x13_2)) 8)) then (if (wrap64 (Int.tdiv (wrap64 (a2 + x13_2)) 8)) < (x9_2.length : Int) then (if 0 ≤ (IntKind.u64.wrap (Int.tmod (wrap64 (a2 + x13_2)) 8)) then (klaxonlaw03_PageTurned.l0 kj22 a2 a3 (x9_2.set ((wrap64 (Int.tdiv (wrap64 (a2 + x13_2)) 8)) : Int).toNat (Go.bits .xor .u8 (rd x9_2 (wrap64 (Int.tdiv (wrap64 (a2 + x13_2)) 8))) (shl .u8 1 (IntKind.u64.wrap (Int.tmod (wrap64 (a2 + x13_2)) 8))))) (wrap64 (8 * (wrap64 ((t215.length : Int) - 4)))) true (wrap64 (x13_2 + 1))) else (none)) else (none)) else (none)) else (klaxonlaw03_PageTurned.l0 kj22 a2 a3 x9_2 (wrap64 (8 * (wrap64 ((t215.length : Int) - 4)))) x12_2 (wrap64 (x13_2 + 1)))) else (none)) = some true := by rw [if_pos rfl] at H; exact H
                      clear H
                      have H := H1
                      clear H1
                      obtain ⟨ji26, hji26⟩ : ∃ j_ : Int, (IntKind.u64.wrap (x13_2)) = j_ := ⟨_, rfl⟩
                      replace H : (if 0 ≤ (ji26) then (if (Go.bits .and .u32 (shr .u32 a3 (ji26)) 1) = 1 then (if 0 ≤ (wrap64 (Int.tdiv (wrap64 (a2 + x13_2)) 8)) then (if (wrap64 (Int.tdiv (wrap64 (a2 + x13_2)) 8)) < (x9_2.length : Int) then (if 0 ≤ (IntKind.u64.wrap (Int.tmod (wrap64 (a2 + x13_2)) 8)) then (klaxonlaw03_PageTurned.l0 kj22 a2 a3 (x9_2.set ((wrap64 (Int.tdiv (wrap64 (a2 + x13_2)) 8)) : Int).toNat (Go.bits .xor .u8 (rd x9_2 (wrap64 (Int.tdiv (wrap64 (a2 + x13_2)) 8))) (shl .u8 1 (IntKind.u64.wrap (Int.tmod (wrap64 (a2 + x13_2)) 8))))) (wrap64 (8 * (wrap64 ((t215.length : Int) - 4)))) true (wrap64 (x13_2 + 1))) else (none)) else (none)) else (none)) else (klaxonlaw03_PageTurned.l0 kj22 a2 a3 x9_2 (wrap64 (8 * (wrap64 ((t215.length : Int) - 4)))) x12_2 (wrap64 (x13_2 + 1)))) else (none)) = some true := by first | (rw [hji26] at H; exact H) | (simp only [hji26] at H ⊢; exact H)
                      by_cases c27 : 0 ≤ (ji26)
                      · rw [if_pos c27] at H
                        have c27b0 := eq_true c27
                        have c27b1 : decide (0 ≤ (ji26)) = true := decide_eq_true c27
                        clear c27
                        obtain ⟨ji28, hji28⟩ : ∃ j_ : Int, (shr .u32 a3 (ji26)) = j_ := ⟨_, rfl⟩
                        replace H : (if (Go.bits .and .u32 (ji28) 1) = 1 then (if 0 ≤ (wrap64 (Int.tdiv (wrap64 (a2 + x13_2)) 8)) then (if (wrap64 (Int.tdiv (wrap64 (a2 + x13_2)) 8)) < (x9_2.length : Int) then (if 0 ≤ (IntKind.u64.wrap (Int.tmod (wrap64 (a2 + x13_2)) 8)) then (klaxonlaw03_PageTurned.l0 kj22 a2 a3 (x9_2.set ((wrap64 (Int.tdiv (wrap64 (a2 + x13_2)) 8)) : Int).toNat (Go.bits .xor .u8 (rd x9_2 (wrap64 (Int.tdiv (wrap64 (a2 + x13_2)) 8))) (shl .u8 1 (IntKind.u64.wrap (Int.tmod (wrap64 (a2 + x13_2)) 8))))) (wrap64 (8 * (wrap64 ((t215.length : Int) - 4)))) true (wrap64 (x13_2 + 1))) else (none)) else (none)) else (none)) else (klaxonlaw03_PageTurned.l0 kj22 a2 a3 x9_2 (wrap64 (8 * (wrap64 ((t215.length : Int) - 4)))) x12_2 (wrap64 (x13_2 + 1)))) = some true := by first | (rw [hji28] at H; exact H) | (simp only [hji28] at H ⊢; exact H)
                        have hji28_ : (a3 / 2 ^ min (ji26).toNat 32) = ji28 := hji28
                        have hji28z : (ji26) ≤ 32 → (a3 / 2 ^ (ji26).toNat) = ji28 := shr_small hji28
                        by_cases c29 : (Go.bits .and .u32 (ji28) 1) = 1
                        · rw [if_pos c29] at H
                          have c29b0 : ((Go.bits .and .u32 (ji28) 1) == 1) = true := beq_iff_eq.mpr c29
                          have c29b1 : ((Go.bits .and .u32 (ji28) 1) != 1) = false := bne_eq_false_iff_eq.mpr c29
                          clear c29
                          obtain ⟨ji30, hji30⟩ : ∃ j_ : Int, (wrap64 (Int.tdiv (wrap64 (a2 + x13_2)) 8)) = j_ := ⟨_, rfl⟩
                          replace H : (if 0 ≤ (ji30) then (if (ji30) < (x9_2.length : Int) then (if 0 ≤ (IntKind.u64.wrap (Int.tmod (wrap64 (a2 + x13_2)) 8)) then (klaxonlaw03_PageTurned.l0 kj22 a2 a3 (x9_2.set ((ji30) : Int).toNat (Go.bits .xor .u8 (rd x9_2 (ji30)) (shl .u8 1 (IntKind.u64.wrap (Int.tmod (wrap64 (a2 + x13_2)) 8))))) (wrap64 (8 * (wrap64 ((t215.length : Int) - 4)))) true (wrap64 (x13_2 + 1))) else (none)) else (none)) else (none)) = some true := by first | (rw [hji30] at H; exact H) | (simp only [hji30] at H ⊢; exact H)
                          have hji30w : (IntKind.i64.wrap (Int.tdiv (wrap64 (a2 + x13_2)) 8)) = ji30 := (i64_w _).trans hji30
                          by_cases c31 : 0 ≤ (ji30)
                          · rw [if_pos c31] at H
                            have c31b0 : decide (0 ≤ (ji30)) = true := decide_eq_true c31
                            clear c31
                            by_cases c32 : (ji30) < (x9_2.length : Int)
                            · rw [if_pos c32] at H
                              have c32b0 : decide ((ji30) < (x9_2.length : Int)) = true := decide_eq_true c32
                              clear c32
                              obtain ⟨ji33, hji33⟩ : ∃ j_ : Int, (IntKind.u64.wrap (Int.tmod (wrap64 (a2 + x13_2)) 8)) = j_ := ⟨_, rfl⟩
                              replace H : (if 0 ≤ (ji33) then (klaxonlaw03_PageTurned.l0 kj22 a2 a3 (x9_2.set ((ji30) : Int).toNat (Go.bits .xor .u8 (rd x9_2 (ji30)) (shl .u8 1 (ji33)))) (wrap64 (8 * (wrap64 ((t215.length : Int) - 4)))) true (wrap64 (x13_2 + 1))) else (none)) = some true := by first | (rw [hji33] at H; exact H) | (simp only [hji33] at H ⊢; exact H)
                              by_cases c34 : 0 ≤ (ji33)
                              · rw [if_pos c34] at H
                                have c34b0 := eq_true c34
                                have c34b1 : decide (0 ≤ (ji33)) = true := decide_eq_true c34
                                clear c34
                                obtain ⟨ji35, hji35⟩ : ∃ j_ : Int, (shl .u8 1 (ji33)) = j_ := ⟨_, rfl⟩
                                replace H : (klaxonlaw03_PageTurned.l0 kj22 a2 a3 (x9_2.set ((ji30) : Int).toNat (Go.bits .xor .u8 (rd x9_2 (ji30)) (ji35))) (wrap64 (8 * (wrap64 ((t215.length : Int) - 4)))) true (wrap64 (x13_2 + 1))) = some true := by first | (rw [hji35] at H; exact H) | (simp only [hji35] at H ⊢; exact H)
                                have hji35_ : (IntKind.u8.wrap (1 * 2 ^ min (ji33).toNat 8)) = ji35 := hji35
                                have hji35z : (ji33) ≤ 8 → (IntKind.u8.wrap (1 * 2 ^ (ji33).toNat)) = ji35 := shl_small hji35
                                have hji35u : (IntKind.u8.wrap (2 ^ min (ji33).toNat 8)) = ji35 := by have h_ := hji35_; rw [Int.one_mul] at h_; exact h_
                                have hji35v : (ji33) ≤ 8 → (IntKind.u8.wrap (2 ^ (ji33).toNat)) = ji35 := fun hle_ => by have h_ := hji35z hle_; rw [Int.one_mul] at h_; exact h_
                                obtain ⟨y223, hy223⟩ : ∃ y_ : List Int, y_ = (x9_2.set ((ji30) : Int).toNat (Go.bits .xor .u8 (rd x9_2 (ji30)) (ji35))) := ⟨_, rfl⟩
                                replace H : (klaxonlaw03_PageTurned.l0 kj22 a2 a3 y223 (wrap64 (8 * (wrap64 ((t215.length : Int) - 4)))) true (wrap64 (x13_2 + 1))) = some true := by first | (rw [hy223]; with_reducible exact H) | (have H2_ := (Option.bind_some _ _).symm.trans H; rw [hy223]; with_reducible exact H2_) | (have H2_ := (Option.bind_some _ _).symm.trans H; with_reducible exact H2_) | with_reducible exact H | (rw [hy223]; exact H) | exact H
                                have Ny223 := Aside0.mk hy223
                                clear hy223
                                have H' := Aside0.mk H
                                clear H
                                have p222 : 0 ≤ ((ji30) : Int) := of_decide_eq_true (by first | (with_reducible assumption) | assumption)
                                have q222 : (ji30) < (x9_2.length : Int) := of_decide_eq_true (by first | (with_reducible assumption) | assumption)
                                obtain ⟨ad222, e222, hx222_0⟩ := Kd.at_int (Kd.R_reads' HO_9.out).2.2 (ji30) p222 q222
                                cases e222
                                replace p222 := eq_true p222
                                replace q222 := eq_true q222
                                have p36 : 0 ≤ ((ji30) : Int) := of_decide_eq_true (by first | (with_reducible assumption) | assumption)
                                have q36 : ((ji30) : Int) < ((x9_2.length : Int) : Int) := of_decide_eq_true (by first | (with_reducible assumption) | assumption)
                                obtain ⟨go36, co36, eo36, gb36, gl36, cl36, HG36⟩ := Kd.R_form HO_9.out (by omega)
                                (first | cases eo36 | (injection eo36 with ea_ en_ ec_; (first | subst ea_ | (injection ea_ with ea_; subst ea_)); subst ec_; clear en_))
                                have GB36 := Aside0.mk gb36
                                have GG36 := Aside0.mk HG36
                                clear gb36 gl36 HG36
                                (first | simp only [add_plain] at hx222_0 | skip)
                                obtain ⟨hx36_0, hf36_0⟩ := Kd.R_celln 0 HO_9.out ((ji30) : Int) p36 q36
                                replace p36 := eq_true p36
                                replace q36 := eq_true q36
                                have HP37 := Kd.R_putg HO_9.out ((ji30) : Int) (Go.bits .xor .u8 (rd x9_2 (ji30)) (ji35))
                                go_wp2_with (first | ((with_reducible refine gate_store (t := 5) (p := 85) rfl ?_); refine store_event (t := 5) (p := 85) (v := ?vo_w38) (w1 := (wc.setCell ⟨go36, ((ji30) : Int).toNat, none⟩ (.int .u8 (Go.bits .xor .u8 (rd x9_2 (ji30)) (ji35))))) ?hg ?ho ?hn ?hr ?_; (case ho => rfl); (case hg => rfl); (case hn => rfl); (case hr => first | (go_simp; done) | (go_simp; rfl)); intro w38 hw; have hg : wc.grownBy w38 (some go36) := (by rw [hw]; exact HP37.2); have hp_ : Kd.R (Kd.int .u8) 5 w38 w.heap.size (fun _ => True) (.slice (some ⟨go36, 0, none⟩) x9_2.length co17) y223 := (by rw [hw, Ny223.out]; exact HP37.1); clear HP37; have n0_ := Aside0.mk (hp_); have n1_ := Aside0.mk (blk_grown (g := gb213) (o := .cells #[.int .u8 a1_0, .int .u32 a1_1, .slice A1_2 l1_2.length c1_2] 25 (0, 0)) (by (with_reducible repeat (first | refine blk_drewN ?_ _ | refine blk_drew ?_ | refine blk_alloc ?_ _)); exact BK213.out) hg (Kd.R_ne HO_9.out BK213.out (by decide))); have n2_ := Aside0.mk ((by rw [hw]; exact below_set (HB.out) GB36.out : Below w.heap.size w w38)); clear HO_9; clear BK213; clear HB; have HO_9 := n0_; have BK213 := n1_; have HB := n2_; clear n0_ n1_ n2_; clear hg hw hp_))
                                (try simp only [← hl9_2])
                                go_roundg kj22
                                case measure => have := HJ12.out; have := HK2.out; have := HJ22.out; omega
                                case rel => exact ⟨(y223), (true), (wrap64 (x13_2 + 1)), (by first | rfl | (simp; done) | (simp [*]; done)), (by first | rfl | (simp; done) | (simp [*]; done)), H', ⟨by have := HJ12.out; have := HK2.out; have := HJ22.out; omega⟩, ⟨by (try simp only [hl9_2]); (with_reducible repeat (first | apply Kd.R_alloc | apply Kd.R_drewN | apply Kd.R_drew)); exact HO_9.out⟩, ⟨by (try simp only [hl9_2]); (with_reducible repeat (first | refine blk_drewN ?_ _ | refine blk_drew ?_ | refine blk_alloc ?_ _)); exact BK213.out⟩, ⟨by repeat (first | (with_reducible first | exact HB.out | apply below_alloc | apply pw_below_drewN | apply below_drew1 | refine below_set ?_ GE213.out) | exact HB.out)⟩⟩
                              · rw [if_neg c34] at H
                                exact absurd H (by simp)
                            · rw [if_neg c32] at H
                              exact absurd H (by simp)
                          · rw [if_neg c31] at H
                            exact absurd H (by simp)
                        · rw [if_neg c29] at H
                          have c29b0 : ((Go.bits .and .u32 (ji28) 1) == 1) = false := beq_eq_false_iff_ne.mpr c29
                          have c29b1 : ((Go.bits .and .u32 (ji28) 1) != 1) = true := bne_iff_ne.mpr c29
                          have H' := Aside0.mk H
                          clear H
                          go_wp2
                          (try simp only [← hl9_2])
                          go_roundg kj22
                          case measure => have := HJ12.out; have := HK2.out; have := HJ22.out; omega
                          case rel => exact ⟨(x9_2), (x12_2), (wrap64 (x13_2 + 1)), (by first | rfl | (simp; done) | (simp [*]; done)), (by first | rfl | (simp; done) | (simp [*]; done)), H', ⟨by have := HJ12.out; have := HK2.out; have := HJ22.out; omega⟩, ⟨by (try simp only [hl9_2]); (with_reducible repeat (first | apply Kd.R_alloc | apply Kd.R_drewN | apply Kd.R_drew)); exact HO_9.out⟩, ⟨by (try simp only [hl9_2]); (with_reducible repeat (first | refine blk_drewN ?_ _ | refine blk_drew ?_ | refine blk_alloc ?_ _)); exact BK213.out⟩, ⟨by repeat (first | (with_reducible first | exact HB.out | apply below_alloc | apply pw_below_drewN | apply below_drew1 | refine below_set ?_ GE213.out) | exact HB.out)⟩⟩
                      · rw [if_neg c27] at H
                        exact absurd H (by simp)
                    · replace c25 := Bool.eq_false_iff.mpr c25
                      subst c25
                      have H1 : ((page_Get.f kj22 x9_2).bind fun bt224 => (if x12_2 = true then ((klaxonlaw03_num.f bt224.2.2.2).bind fun t231 => (if t231 = 30 then ((klaxonref03_Same.f bt224.1 bt224.2.1 bt224.2.2.1 0 0 ([] : List Int)).bind fun t232 => (if t232 = true then ((klaxonlaw03_live.f).bind fun t233 => (some t233)) else (some false))) else (some false))) else ((klaxonlaw03_num.f bt224.2.2.2).bind fun t234 => (if t234 = 0 then ((klaxonlaw03_live.f).bind fun t235 => (some t235)) else (some false))))) = some true := by rw [if_neg (show ¬ (false = true) by decide)] at H; exact H
                      clear H
                      have H := H1
                      clear H1
                      replace H := Option.bind_eq_some_iff.mp H
                      obtain ⟨⟨t224, t225, t226, t229⟩, A390, H⟩ := H
                      replace H : (if x12_2 = true then ((klaxonlaw03_num.f t229).bind fun t231 => (if t231 = 30 then ((klaxonref03_Same.f t224 t225 t226 0 0 ([] : List Int)).bind fun t232 => (if t232 = true then ((klaxonlaw03_live.f).bind fun t233 => (some t233)) else (some false))) else (some false))) else ((klaxonlaw03_num.f t229).bind fun t234 => (if t234 = 0 then ((klaxonlaw03_live.f).bind fun t235 => (some t235)) else (some false)))) = some true := H
                      have A39 := Aside0.mk A390
                      clear A390
                      by_cases c40 : x12_2 = true
                      · subst c40
                        have H1 : ((klaxonlaw03_num.f t229).bind fun t231 => (if t231 = 30 then ((klaxonref03_Same.f t224 t225 t226 0 0 ([] : List Int)).bind fun t232 => (if t232 = true then ((klaxonlaw03_live.f).bind fun t233 => (some t233)) else (some false))) else (some false))) = some true := by rw [if_pos rfl] at H; exact H
                        clear H
                        have H := H1
                        clear H1
                        replace H := Option.bind_eq_some_iff.mp H
                        obtain ⟨t231, A410, H⟩ := H
                        replace H : (if t231 = 30 then ((klaxonref03_Same.f t224 t225 t226 0 0 ([] : List Int)).bind fun t232 => (if t232 = true then ((klaxonlaw03_live.f).bind fun t233 => (some t233)) else (some false))) else (some false)) = some true := H
                        have A41 := Aside0.mk A410
                        clear A410
                        by_cases c42 : t231 = 30
                        · rw [if_pos c42] at H
                          have c42b0 : (t231 == 30) = true := beq_iff_eq.mpr c42
                          have c42b1 : (t231 != 30) = false := bne_eq_false_iff_eq.mpr c42
                          clear c42
                          replace H := Option.bind_eq_some_iff.mp H
                          obtain ⟨t232, A430, H⟩ := H
                          replace H : (if t232 = true then ((klaxonlaw03_live.f).bind fun t233 => (some t233)) else (some false)) = some true := H
                          have A43 := Aside0.mk A430
                          clear A430
                          by_cases c44 : t232 = true
                          · subst c44
                            have H1 : ((klaxonlaw03_live.f).bind fun t233 => (some t233)) = some true := by rw [if_pos rfl] at H; exact H
                            clear H
                            have H := H1
                            clear H1
                            replace H := Option.bind_eq_some_iff.mp H
                            obtain ⟨t233, A450, H⟩ := H
                            replace H : (some t233) = some true := H
                            have A45 := Aside0.mk A450
                            clear A450
                            have H9_ := Option.some.inj H
                            clear H
                            go_wp2_with (first | ((with_reducible refine gate_callee (f := 18) rfl ?_); refine goesL_ (some 88) rfl rfl Try.func18 (by kernel_rfl) rfl #[.slice Ao17 x9_2.length co17] rfl (by (try simp only [List.map_toArray, List.map_cons, List.map_nil]); first | done | rfl | (simp only [List.length_drop, List.length_take]; rfl)) ?_; (with_reducible refine (page_Get.calls kj22 _ _ x9_2 t224 t225 t226 t229 _ ?side1 ?side2 A39.out).mono ?_); (case side1 => repeat (first | exact (Kd.R_reads' HO_9.out).2.2 | (with_reducible refine Kd.C_alloc ?_ _) | (with_reducible refine Kd.C_drewN ?_ _) | (with_reducible refine Kd.C_drew ?_))); (case side2 => exact (Kd.R_reads' HO_9.out).2.1); rintro e w46 ⟨v227, rfl, ho0, hb⟩; refine ⟨_, rfl, ?_⟩; have n0_ := Aside0.mk (Kd.R_elder' (by (with_reducible repeat (first | apply Kd.R_alloc | apply Kd.R_drewN | apply Kd.R_drew)); exact HO_9.out) (Kd.R_base ho0) hb); have n1_ := Aside0.mk (Kd.R_lower (Kd.R_new' ho0 (Kd.R_lt (by (with_reducible repeat (first | apply Kd.R_alloc | apply Kd.R_drewN | apply Kd.R_drew)); exact HO_9.out))) (below_size (by repeat (first | (with_reducible first | exact HB.out | apply below_alloc | apply pw_below_drewN | apply below_drew1 | refine below_set ?_ GE213.out) | exact HB.out)))); have n2_ := Aside0.mk (blk_below (g := gb213) (o := .cells #[.int .u8 a1_0, .int .u32 a1_1, .slice A1_2 l1_2.length c1_2] 25 (0, 0)) (by (with_reducible repeat (first | refine blk_drewN ?_ _ | refine blk_drew ?_ | refine blk_alloc ?_ _)); exact BK213.out) hb); have n3_ := Aside0.mk (below_step (by repeat (first | (with_reducible first | exact HB.out | apply below_alloc | apply pw_below_drewN | apply below_drew1 | refine below_set ?_ GE213.out) | exact HB.out)) hb); clear HO_9; clear BK213; clear HB; have HO_9 := n0_; have HO228 := n1_; have BK213 := n2_; have HB := n3_; clear n0_ n1_ n2_ n3_; (try clear hb); (try clear hb2); (try clear hk); (try clear hi); (try clear ho0)) | ((with_reducible refine gate_dst (N := 14) rfl ?_); refine box_event ?hg (N := 14) ?hd (cs := #[.int .u8 0, .int .u32 0, .slice none 0 0]) (t := 25) ?hr ?_; (case hd => rfl); (case hg => rfl); (case hr => first | (go_simp; done) | (go_simp; rfl)); intro gb230 hg w47 hbox hb; have n0_ := Aside0.mk (Kd.R_below (by (with_reducible repeat (first | apply Kd.R_alloc | apply Kd.R_drewN | apply Kd.R_drew)); exact HO_9.out) hb); have n1_ := Aside0.mk (Kd.R_below (by (with_reducible repeat (first | apply Kd.R_alloc | apply Kd.R_drewN | apply Kd.R_drew)); exact HO228.out) hb); have n2_ := Aside0.mk (blk_below (g := gb213) (o := .cells #[.int .u8 a1_0, .int .u32 a1_1, .slice A1_2 l1_2.length c1_2] 25 (0, 0)) (by (with_reducible repeat (first | refine blk_drewN ?_ _ | refine blk_drew ?_ | refine blk_alloc ?_ _)); exact BK213.out) hb); have n3_ := Aside0.mk (below_step (by repeat (first | (with_reducible first | exact HB.out | apply below_alloc | apply pw_below_drewN | apply below_drew1 | refine below_set ?_ GE213.out) | exact HB.out)) hb); have n4_ := Aside0.mk (hbox); have n5_ := Aside0.mk ((by rw [hg]; exact (below_size (by repeat (first | (with_reducible first | exact HB.out | apply below_alloc | apply pw_below_drewN | apply below_drew1 | refine below_set ?_ GE213.out) | exact HB.out))) : w.heap.size ≤ gb230)); have n6_ := Aside0.mk ((by rw [hg]; exact (below_size (by repeat (first | (with_reducible first | exact HB.out | apply below_alloc | apply pw_below_drewN | apply below_drew1 | refine below_set ?_ GE213.out) | exact HB.out))) : w.heap.size ≤ gb230)); have n7_ := Aside0.mk ((by rw [hg]; exact Nat.ne_of_lt (blk_lt (g := gb213) (o := .cells #[.int .u8 a1_0, .int .u32 a1_1, .slice A1_2 l1_2.length c1_2] 25 (0, 0)) (by (with_reducible repeat (first | refine blk_drewN ?_ _ | refine blk_drew ?_ | refine blk_alloc ?_ _)); exact BK213.out)) : gb213 ≠ gb230)); have n8_ := Aside0.mk ((by rw [hg]; exact Nat.ne_of_gt (blk_lt (g := gb213) (o := .cells #[.int .u8 a1_0, .int .u32 a1_1, .slice A1_2 l1_2.length c1_2] 25 (0, 0)) (by (with_reducible repeat (first | refine blk_drewN ?_ _ | refine blk_drew ?_ | refine blk_alloc ?_ _)); exact BK213.out)) : gb230 ≠ gb213)); clear HO_9; clear HO228; clear BK213; clear HB; have HO_9 := n0_; have HO228 := n1_; have BK213 := n2_; have HB := n3_; have BK230 := n4_; have GW230 := n5_; have GE230 := n6_; have NB213_230 := n7_; have NB230_213 := n8_; clear n0_ n1_ n2_ n3_ n4_ n5_ n6_ n7_ n8_; clear hb hbox hg; have hnb48 := NB230_213.out; have hnc48 := NB213_230.out; have hcz49_0 : w47.cell? ⟨gb230, 0, none⟩ = some (.int .u8 0) := (blk_cell BK230.out 0).trans rfl; have hcz49_1 : w47.cell? ⟨gb230, 1, none⟩ = some (.int .u32 0) := (blk_cell BK230.out 1).trans rfl; have hcz49_2 : w47.cell? ⟨gb230, 2, none⟩ = some (.slice none 0 0) := (blk_cell BK230.out 2).trans rfl; have hfz49_0 := blk_frozen BK230.out 0; have hfz49_1 := blk_frozen BK230.out 1; have hfz49_2 := blk_frozen BK230.out 2; obtain ⟨Ao50, co50, eo50⟩ := Kd.R_slice HO228.out; subst eo50) | ((with_reducible refine gate_callee (f := 20) rfl ?_); refine goesL_ (some 93) rfl rfl Try.func20 (by kernel_rfl) rfl #[.int .i64 t229] rfl (by (try simp only [List.map_toArray, List.map_cons, List.map_nil]); first | done | rfl | (simp only [List.length_drop, List.length_take]; rfl)) ?_; (with_reducible refine (klaxonlaw03_num.calls t229 t231 _ A41.out).mono ?_); rintro e w' ⟨rfl, ⟨nd, rfl⟩⟩; refine ⟨_, rfl, ?_⟩) | (go_at_call 21; (refine (klaxonref03_Same.calls t224 t225 _ _ t226 0 0 _ _ ([] : List Int) true _ ?side1 ?side2 ?side3 ?side4 A43.out).mono ?_); (case side1 => refine (Kd.R_reads' (e := 5) (base := w.heap.size) (ok := fun k_ => (True ∧ some k_ ≠ (.slice Ao17 x9_2.length co17 : Value).ownBlock)) (n := t226.length) (c := co50) ?_).2.2; exact (by (with_reducible repeat (first | apply Kd.R_alloc | apply Kd.R_drewN | apply Kd.R_drew)); exact (Kd.R_mono (Kd.R_far (p := ⟨gb230, 2, none⟩) (Kd.R_far (p := ⟨gb230, 1, none⟩) (Kd.R_far (p := ⟨gb230, 0, none⟩) (Kd.R_types HO228.out BK230.out (by decide)) (fun _ hk => hk.2) (.int .u8 t224)) (fun _ hk => hk.2) (.int .u32 t225)) (fun _ hk => hk.2) (.slice Ao50 t226.length co50)) (fun _ h_ => h_.1)))); (case side2 => exact (Kd.R_reads' HO228.out).2.1); (case side3 => exact Kd.C_nil _ _); (case side4 => exact Nat.le_refl _); rintro e w51 ⟨rfl, hb⟩; have n0_ := Aside0.mk (Kd.R_below (by (with_reducible repeat (first | apply Kd.R_alloc | apply Kd.R_drewN | apply Kd.R_drew)); exact (Kd.R_mono (Kd.R_far (p := ⟨gb230, 2, none⟩) (Kd.R_far (p := ⟨gb230, 1, none⟩) (Kd.R_far (p := ⟨gb230, 0, none⟩) (Kd.R_types HO_9.out BK230.out (by decide)) (fun _ hk => hk.2) (.int .u8 t224)) (fun _ hk => hk.2) (.int .u32 t225)) (fun _ hk => hk.2) (.slice Ao50 t226.length co50)) (fun _ h_ => h_.1))) hb); have n1_ := Aside0.mk (Kd.R_below (by (with_reducible repeat (first | apply Kd.R_alloc | apply Kd.R_drewN | apply Kd.R_drew)); exact (Kd.R_mono (Kd.R_far (p := ⟨gb230, 2, none⟩) (Kd.R_far (p := ⟨gb230, 1, none⟩) (Kd.R_far (p := ⟨gb230, 0, none⟩) (Kd.R_types HO228.out BK230.out (by decide)) (fun _ hk => hk.2) (.int .u8 t224)) (fun _ hk => hk.2) (.int .u32 t225)) (fun _ hk => hk.2) (.slice Ao50 t226.length co50)) (fun _ h_ => h_.1))) hb); have n2_ := Aside0.mk (blk_below (g := gb213) (o := .cells #[.int .u8 a1_0, .int .u32 a1_1, .slice A1_2 l1_2.length c1_2] 25 (0, 0)) (by (with_reducible repeat (first | refine blk_drewN ?_ _ | refine blk_drew ?_ | refine blk_alloc ?_ _)); refine blk_far ?_ NB213_230.out _; (with_reducible repeat (first | refine blk_drewN ?_ _ | refine blk_drew ?_ | refine blk_alloc ?_ _)); refine blk_far ?_ NB213_230.out _; (with_reducible repeat (first | refine blk_drewN ?_ _ | refine blk_drew ?_ | refine blk_alloc ?_ _)); refine blk_far ?_ NB213_230.out _; (with_reducible repeat (first | refine blk_drewN ?_ _ | refine blk_drew ?_ | refine blk_alloc ?_ _)); exact BK213.out) hb); have n3_ := Aside0.mk (blk_below (g := gb230) (o := .cells #[.int .u8 t224, .int .u32 t225, .slice Ao50 t226.length co50] 25 (0, 0)) (by (with_reducible repeat (first | refine blk_drewN ?_ _ | refine blk_drew ?_ | refine blk_alloc ?_ _)); refine blk_put (cs := #[.int .u8 t224, .int .u32 t225, .slice none 0 0]) ?_ 2 _ rfl; (with_reducible repeat (first | refine blk_drewN ?_ _ | refine blk_drew ?_ | refine blk_alloc ?_ _)); refine blk_put (cs := #[.int .u8 t224, .int .u32 0, .slice none 0 0]) ?_ 1 _ rfl; (with_reducible repeat (first | refine blk_drewN ?_ _ | refine blk_drew ?_ | refine blk_alloc ?_ _)); refine blk_put (cs := #[.int .u8 0, .int .u32 0, .slice none 0 0]) ?_ 0 _ rfl; (with_reducible repeat (first | refine blk_drewN ?_ _ | refine blk_drew ?_ | refine blk_alloc ?_ _)); exact BK230.out) hb); have n4_ := Aside0.mk (below_step (by repeat (first | (with_reducible first | exact HB.out | apply below_alloc | apply pw_below_drewN | apply below_drew1 | refine below_set ?_ GE213.out | refine below_set ?_ GE230.out) | exact HB.out)) hb); clear HO_9; clear HO228; clear BK213; clear BK230; clear HB; have HO_9 := n0_; have HO228 := n1_; have BK213 := n2_; have BK230 := n3_; have HB := n4_; clear n0_ n1_ n2_ n3_ n4_; (try clear hb); (try clear hb2); (try clear hk); (try clear hi)) | (go_at_call 15; (with_reducible refine (klaxonlaw03_live.calls  t233 _ A45.out).mono ?_); rintro e w52 ⟨rfl, hb⟩; have n0_ := Aside0.mk (Kd.R_below (by (with_reducible repeat (first | apply Kd.R_alloc | apply Kd.R_drewN | apply Kd.R_drew)); exact HO_9.out) hb); have n1_ := Aside0.mk (Kd.R_below (by (with_reducible repeat (first | apply Kd.R_alloc | apply Kd.R_drewN | apply Kd.R_drew)); exact HO228.out) hb); have n2_ := Aside0.mk (blk_below (g := gb213) (o := .cells #[.int .u8 a1_0, .int .u32 a1_1, .slice A1_2 l1_2.length c1_2] 25 (0, 0)) (by (with_reducible repeat (first | refine blk_drewN ?_ _ | refine blk_drew ?_ | refine blk_alloc ?_ _)); exact BK213.out) hb); have n3_ := Aside0.mk (blk_below (g := gb230) (o := .cells #[.int .u8 t224, .int .u32 t225, .slice Ao50 t226.length co50] 25 (0, 0)) (by (with_reducible repeat (first | refine blk_drewN ?_ _ | refine blk_drew ?_ | refine blk_alloc ?_ _)); exact BK230.out) hb); have n4_ := Aside0.mk (below_step (by repeat (first | (with_reducible first | exact HB.out | apply below_alloc | apply pw_below_drewN | apply below_drew1 | refine below_set ?_ GE213.out | refine below_set ?_ GE230.out) | exact HB.out)) hb); clear HO_9; clear HO228; clear BK213; clear BK230; clear HB; have HO_9 := n0_; have HO228 := n1_; have BK213 := n2_; have BK230 := n3_; have HB := n4_; clear n0_ n1_ n2_ n3_ n4_; (try clear hb); (try clear hb2); (try clear hk); (try clear hi)))
                            go_ret
                            exact ⟨by first | rfl | (simp [errW_none, errW_some] <;> rfl) | (simp [*, errW_none, errW_some] <;> rfl), by repeat (first | (with_reducible first | exact HB.out | apply below_alloc | apply pw_below_drewN | apply below_drew1 | refine below_set ?_ GE213.out | refine below_set ?_ GE230.out) | exact HB.out)⟩
                          · replace c44 := Bool.eq_false_iff.mpr c44
                            subst c44
                            have H1 : (some false) = some true := by rw [if_neg (show ¬ (false = true) by decide)] at H; exact H
                            clear H
                            have H := H1
                            clear H1
                            exact absurd H (by simp)
                        · rw [if_neg c42] at H
                          have c42b0 : (t231 == 30) = false := beq_eq_false_iff_ne.mpr c42
                          have c42b1 : (t231 != 30) = true := bne_iff_ne.mpr c42
                          exact absurd H (by simp)
                      · replace c40 := Bool.eq_false_iff.mpr c40
                        subst c40
                        have H1 : ((klaxonlaw03_num.f t229).bind fun t234 => (if t234 = 0 then ((klaxonlaw03_live.f).bind fun t235 => (some t235)) else (some false))) = some true := by rw [if_neg (show ¬ (false = true) by decide)] at H; exact H
                        clear H
                        have H := H1
                        clear H1
                        replace H := Option.bind_eq_some_iff.mp H
                        obtain ⟨t234, A530, H⟩ := H
                        replace H : (if t234 = 0 then ((klaxonlaw03_live.f).bind fun t235 => (some t235)) else (some false)) = some true := H
                        have A53 := Aside0.mk A530
                        clear A530
                        by_cases c54 : t234 = 0
                        · rw [if_pos c54] at H
                          have c54b0 : (t234 == 0) = true := beq_iff_eq.mpr c54
                          have c54b1 : (t234 != 0) = false := bne_eq_false_iff_eq.mpr c54
                          clear c54
                          replace H := Option.bind_eq_some_iff.mp H
                          obtain ⟨t235, A550, H⟩ := H
                          replace H : (some t235) = some true := H
                          have A55 := Aside0.mk A550
                          clear A550
                          have H9_ := Option.some.inj H
                          clear H
                          go_wp2_with (first | ((with_reducible refine gate_callee (f := 18) rfl ?_); refine goesL_ (some 88) rfl rfl Try.func18 (by kernel_rfl) rfl #[.slice Ao17 x9_2.length co17] rfl (by (try simp only [List.map_toArray, List.map_cons, List.map_nil]); first | done | rfl | (simp only [List.length_drop, List.length_take]; rfl)) ?_; (with_reducible refine (page_Get.calls kj22 _ _ x9_2 t224 t225 t226 t229 _ ?side1 ?side2 A39.out).mono ?_); (case side1 => repeat (first | exact (Kd.R_reads' HO_9.out).2.2 | (with_reducible refine Kd.C_alloc ?_ _) | (with_reducible refine Kd.C_drewN ?_ _) | (with_reducible refine Kd.C_drew ?_))); (case side2 => exact (Kd.R_reads' HO_9.out).2.1); rintro e w56 ⟨v227, rfl, ho0, hb⟩; refine ⟨_, rfl, ?_⟩; have n0_ := Aside0.mk (Kd.R_elder' (by (with_reducible repeat (first | apply Kd.R_alloc | apply Kd.R_drewN | apply Kd.R_drew)); exact HO_9.out) (Kd.R_base ho0) hb); have n1_ := Aside0.mk (Kd.R_lower (Kd.R_new' ho0 (Kd.R_lt (by (with_reducible repeat (first | apply Kd.R_alloc | apply Kd.R_drewN | apply Kd.R_drew)); exact HO_9.out))) (below_size (by repeat (first | (with_reducible first | exact HB.out | apply below_alloc | apply pw_below_drewN | apply below_drew1 | refine below_set ?_ GE213.out) | exact HB.out)))); have n2_ := Aside0.mk (blk_below (g := gb213) (o := .cells #[.int .u8 a1_0, .int .u32 a1_1, .slice A1_2 l1_2.length c1_2] 25 (0, 0)) (by (with_reducible repeat (first | refine blk_drewN ?_ _ | refine blk_drew ?_ | refine blk_alloc ?_ _)); exact BK213.out) hb); have n3_ := Aside0.mk (below_step (by repeat (first | (with_reducible first | exact HB.out | apply below_alloc | apply pw_below_drewN | apply below_drew1 | refine below_set ?_ GE213.out) | exact HB.out)) hb); clear HO_9; clear BK213; clear HB; have HO_9 := n0_; have HO228 := n1_; have BK213 := n2_; have HB := n3_; clear n0_ n1_ n2_ n3_; (try clear hb); (try clear hb2); (try clear hk); (try clear hi); (try clear ho0)) | ((with_reducible refine gate_dst (N := 14) rfl ?_); refine box_event ?hg (N := 14) ?hd (cs := #[.int .u8 0, .int .u32 0, .slice none 0 0]) (t := 25) ?hr ?_; (case hd => rfl); (case hg => rfl); (case hr => first | (go_simp; done) | (go_simp; rfl)); intro gb230 hg w57 hbox hb; have n0_ := Aside0.mk (Kd.R_below (by (with_reducible repeat (first | apply Kd.R_alloc | apply Kd.R_drewN | apply Kd.R_drew)); exact HO_9.out) hb); have n1_ := Aside0.mk (Kd.R_below (by (with_reducible repeat (first | apply Kd.R_alloc | apply Kd.R_drewN | apply Kd.R_drew)); exact HO228.out) hb); have n2_ := Aside0.mk (blk_below (g := gb213) (o := .cells #[.int .u8 a1_0, .int .u32 a1_1, .slice A1_2 l1_2.length c1_2] 25 (0, 0)) (by (with_reducible repeat (first | refine blk_drewN ?_ _ | refine blk_drew ?_ | refine blk_alloc ?_ _)); exact BK213.out) hb); have n3_ := Aside0.mk (below_step (by repeat (first | (with_reducible first | exact HB.out | apply below_alloc | apply pw_below_drewN | apply below_drew1 | refine below_set ?_ GE213.out) | exact HB.out)) hb); have n4_ := Aside0.mk (hbox); have n5_ := Aside0.mk ((by rw [hg]; exact (below_size (by repeat (first | (with_reducible first | exact HB.out | apply below_alloc | apply pw_below_drewN | apply below_drew1 | refine below_set ?_ GE213.out) | exact HB.out))) : w.heap.size ≤ gb230)); have n6_ := Aside0.mk ((by rw [hg]; exact (below_size (by repeat (first | (with_reducible first | exact HB.out | apply below_alloc | apply pw_below_drewN | apply below_drew1 | refine below_set ?_ GE213.out) | exact HB.out))) : w.heap.size ≤ gb230)); have n7_ := Aside0.mk ((by rw [hg]; exact Nat.ne_of_lt (blk_lt (g := gb213) (o := .cells #[.int .u8 a1_0, .int .u32 a1_1, .slice A1_2 l1_2.length c1_2] 25 (0, 0)) (by (with_reducible repeat (first | refine blk_drewN ?_ _ | refine blk_drew ?_ | refine blk_alloc ?_ _)); exact BK213.out)) : gb213 ≠ gb230)); have n8_ := Aside0.mk ((by rw [hg]; exact Nat.ne_of_gt (blk_lt (g := gb213) (o := .cells #[.int .u8 a1_0, .int .u32 a1_1, .slice A1_2 l1_2.length c1_2] 25 (0, 0)) (by (with_reducible repeat (first | refine blk_drewN ?_ _ | refine blk_drew ?_ | refine blk_alloc ?_ _)); exact BK213.out)) : gb230 ≠ gb213)); clear HO_9; clear HO228; clear BK213; clear HB; have HO_9 := n0_; have HO228 := n1_; have BK213 := n2_; have HB := n3_; have BK230 := n4_; have GW230 := n5_; have GE230 := n6_; have NB213_230 := n7_; have NB230_213 := n8_; clear n0_ n1_ n2_ n3_ n4_ n5_ n6_ n7_ n8_; clear hb hbox hg; have hnb58 := NB230_213.out; have hnc58 := NB213_230.out; have hcz59_0 : w57.cell? ⟨gb230, 0, none⟩ = some (.int .u8 0) := (blk_cell BK230.out 0).trans rfl; have hcz59_1 : w57.cell? ⟨gb230, 1, none⟩ = some (.int .u32 0) := (blk_cell BK230.out 1).trans rfl; have hcz59_2 : w57.cell? ⟨gb230, 2, none⟩ = some (.slice none 0 0) := (blk_cell BK230.out 2).trans rfl; have hfz59_0 := blk_frozen BK230.out 0; have hfz59_1 := blk_frozen BK230.out 1; have hfz59_2 := blk_frozen BK230.out 2; obtain ⟨Ao60, co60, eo60⟩ := Kd.R_slice HO228.out; subst eo60) | ((with_reducible refine gate_callee (f := 20) rfl ?_); refine goesL_ (some 104) rfl rfl Try.func20 (by kernel_rfl) rfl #[.int .i64 t229] rfl (by (try simp only [List.map_toArray, List.map_cons, List.map_nil]); first | done | rfl | (simp only [List.length_drop, List.length_take]; rfl)) ?_; (with_reducible refine (klaxonlaw03_num.calls t229 t234 _ A53.out).mono ?_); rintro e w' ⟨rfl, ⟨nd, rfl⟩⟩; refine ⟨_, rfl, ?_⟩) | (go_at_call 15; (with_reducible refine (klaxonlaw03_live.calls  t235 _ A55.out).mono ?_); rintro e w61 ⟨rfl, hb⟩; have n0_ := Aside0.mk (Kd.R_below (by (with_reducible repeat (first | apply Kd.R_alloc | apply Kd.R_drewN | apply Kd.R_drew)); exact (Kd.R_mono (Kd.R_far (p := ⟨gb230, 2, none⟩) (Kd.R_far (p := ⟨gb230, 1, none⟩) (Kd.R_far (p := ⟨gb230, 0, none⟩) (Kd.R_types HO_9.out BK230.out (by decide)) (fun _ hk => hk.2) (.int .u8 t224)) (fun _ hk => hk.2) (.int .u32 t225)) (fun _ hk => hk.2) (.slice Ao60 t226.length co60)) (fun _ h_ => h_.1))) hb); have n1_ := Aside0.mk (Kd.R_below (by (with_reducible repeat (first | apply Kd.R_alloc | apply Kd.R_drewN | apply Kd.R_drew)); exact (Kd.R_mono (Kd.R_far (p := ⟨gb230, 2, none⟩) (Kd.R_far (p := ⟨gb230, 1, none⟩) (Kd.R_far (p := ⟨gb230, 0, none⟩) (Kd.R_types HO228.out BK230.out (by decide)) (fun _ hk => hk.2) (.int .u8 t224)) (fun _ hk => hk.2) (.int .u32 t225)) (fun _ hk => hk.2) (.slice Ao60 t226.length co60)) (fun _ h_ => h_.1))) hb); have n2_ := Aside0.mk (blk_below (g := gb213) (o := .cells #[.int .u8 a1_0, .int .u32 a1_1, .slice A1_2 l1_2.length c1_2] 25 (0, 0)) (by (with_reducible repeat (first | refine blk_drewN ?_ _ | refine blk_drew ?_ | refine blk_alloc ?_ _)); refine blk_far ?_ NB213_230.out _; (with_reducible repeat (first | refine blk_drewN ?_ _ | refine blk_drew ?_ | refine blk_alloc ?_ _)); refine blk_far ?_ NB213_230.out _; (with_reducible repeat (first | refine blk_drewN ?_ _ | refine blk_drew ?_ | refine blk_alloc ?_ _)); refine blk_far ?_ NB213_230.out _; (with_reducible repeat (first | refine blk_drewN ?_ _ | refine blk_drew ?_ | refine blk_alloc ?_ _)); exact BK213.out) hb); have n3_ := Aside0.mk (blk_below (g := gb230) (o := .cells #[.int .u8 t224, .int .u32 t225, .slice Ao60 t226.length co60] 25 (0, 0)) (by (with_reducible repeat (first | refine blk_drewN ?_ _ | refine blk_drew ?_ | refine blk_alloc ?_ _)); refine blk_put (cs := #[.int .u8 t224, .int .u32 t225, .slice none 0 0]) ?_ 2 _ rfl; (with_reducible repeat (first | refine blk_drewN ?_ _ | refine blk_drew ?_ | refine blk_alloc ?_ _)); refine blk_put (cs := #[.int .u8 t224, .int .u32 0, .slice none 0 0]) ?_ 1 _ rfl; (with_reducible repeat (first | refine blk_drewN ?_ _ | refine blk_drew ?_ | refine blk_alloc ?_ _)); refine blk_put (cs := #[.int .u8 0, .int .u32 0, .slice none 0 0]) ?_ 0 _ rfl; (with_reducible repeat (first | refine blk_drewN ?_ _ | refine blk_drew ?_ | refine blk_alloc ?_ _)); exact BK230.out) hb); have n4_ := Aside0.mk (below_step (by repeat (first | (with_reducible first | exact HB.out | apply below_alloc | apply pw_below_drewN | apply below_drew1 | refine below_set ?_ GE213.out | refine below_set ?_ GE230.out) | exact HB.out)) hb); clear HO_9; clear HO228; clear BK213; clear BK230; clear HB; have HO_9 := n0_; have HO228 := n1_; have BK213 := n2_; have BK230 := n3_; have HB := n4_; clear n0_ n1_ n2_ n3_ n4_; (try clear hb); (try clear hb2); (try clear hk); (try clear hi)))
                          go_ret
                          exact ⟨by first | rfl | (simp [errW_none, errW_some] <;> rfl) | (simp [*, errW_none, errW_some] <;> rfl), by repeat (first | (with_reducible first | exact HB.out | apply below_alloc | apply pw_below_drewN | apply below_drew1 | refine below_set ?_ GE213.out | refine below_set ?_ GE230.out) | exact HB.out)⟩
                        · rw [if_neg c54] at H
                          have c54b0 : (t234 == 0) = false := beq_eq_false_iff_ne.mpr c54
                          have c54b1 : (t234 != 0) = true := bne_iff_ne.mpr c54
                          exact absurd H (by simp)
    · rw [if_neg c12] at H
      have c12b0 : (t219 == 0) = false := beq_eq_false_iff_ne.mpr c12
      have c12b1 : (t219 != 0) = true := bne_iff_ne.mpr c12
      replace H := Option.bind_eq_some_iff.mp H
      obtain ⟨t220, A620, H⟩ := H
      replace H : (some t220) = some true := H
      have A62 := Aside0.mk A620
      clear A620
      have H9_ := Option.some.inj H
      clear H
      go_enter Try.func5, Try.ntmps5
      go_wp2_with (first | ((with_reducible refine gate_dst (N := 5) rfl ?_); refine box_event ?hg (N := 5) ?hd (cs := #[.int .u8 a1_0, .int .u32 a1_1, .slice A1_2 l1_2.length c1_2]) (t := 25) ?hr ?_; (case hd => rfl); (case hg => rfl); (case hr => first | (go_simp; done) | (go_simp; rfl)); intro gb213 hg w63 hbox hb; have n0_ := Aside0.mk (below_step (by repeat (first | (with_reducible first | exact HB.out | apply below_alloc | apply pw_below_drewN | apply below_drew1) | exact HB.out)) hb); have n1_ := Aside0.mk (hbox); have n2_ := Aside0.mk ((by rw [hg]; exact (below_size (by repeat (first | (with_reducible first | exact HB.out | apply below_alloc | apply pw_below_drewN | apply below_drew1) | exact HB.out))) : w.heap.size ≤ gb213)); have n3_ := Aside0.mk ((by rw [hg]; exact (below_size (by repeat (first | (with_reducible first | exact HB.out | apply below_alloc | apply pw_below_drewN | apply below_drew1) | exact HB.out))) : w.heap.size ≤ gb213)); clear HB; have HB := n0_; have BK213 := n1_; have GW213 := n2_; have GE213 := n3_; clear n0_ n1_ n2_ n3_; clear hb hbox hg; have hcz64_0 : w63.cell? ⟨gb213, 0, none⟩ = some (.int .u8 a1_0) := (blk_cell BK213.out 0).trans rfl; have hcz64_1 : w63.cell? ⟨gb213, 1, none⟩ = some (.int .u32 a1_1) := (blk_cell BK213.out 1).trans rfl; have hcz64_2 : w63.cell? ⟨gb213, 2, none⟩ = some (.slice A1_2 l1_2.length c1_2) := (blk_cell BK213.out 2).trans rfl; have hfz64_0 := blk_frozen BK213.out 0; have hfz64_1 := blk_frozen BK213.out 1; have hfz64_2 := blk_frozen BK213.out 2) | ((with_reducible refine gate_callee (f := 16) rfl ?_); refine goesL_ (some 24) rfl rfl Try.func16 (by kernel_rfl) rfl #[.int .i64 a0, .agg #[.int .u8 a1_0, .int .u32 a1_1, .slice A1_2 l1_2.length c1_2]] rfl (by (try simp only [List.map_toArray, List.map_cons, List.map_nil]); first | done | rfl | (simp only [List.length_drop, List.length_take]; rfl)) ?_; (with_reducible refine (page_Put.calls a0 a1_0 a1_1 _ _ l1_2 t215 t218 _ ?side1 ?side2 A10.out).mono ?_); (case side1 => repeat (first | exact (Kd.C_below HR1_2.out HB.out) | (with_reducible refine Kd.C_alloc ?_ _) | (with_reducible refine Kd.C_drewN ?_ _) | (with_reducible refine Kd.C_drew ?_))); (case side2 => exact HC1_2.out); rintro e w65 ⟨v216, rfl, ho0, hb⟩; refine ⟨_, rfl, ?_⟩; have n0_ := Aside0.mk (Kd.R_lower ho0 (below_size (by repeat (first | (with_reducible first | exact HB.out | apply below_alloc | apply pw_below_drewN | apply below_drew1 | refine below_set ?_ GE213.out) | exact HB.out)))); have n1_ := Aside0.mk (blk_below (g := gb213) (o := .cells #[.int .u8 a1_0, .int .u32 a1_1, .slice A1_2 l1_2.length c1_2] 25 (0, 0)) (by (with_reducible repeat (first | refine blk_drewN ?_ _ | refine blk_drew ?_ | refine blk_alloc ?_ _)); exact BK213.out) hb); have n2_ := Aside0.mk (below_step (by repeat (first | (with_reducible first | exact HB.out | apply below_alloc | apply pw_below_drewN | apply below_drew1 | refine below_set ?_ GE213.out) | exact HB.out)) hb); clear BK213; clear HB; have HO217 := n0_; have BK213 := n1_; have HB := n2_; clear n0_ n1_ n2_; (try clear hb); (try clear hb2); (try clear hk); (try clear hi); (try clear ho0)) | ((with_reducible refine gate_callee (f := 20) rfl ?_); refine goesL_ (some 28) rfl rfl Try.func20 (by kernel_rfl) rfl #[.int .i64 t218] rfl (by (try simp only [List.map_toArray, List.map_cons, List.map_nil]); first | done | rfl | (simp only [List.length_drop, List.length_take]; rfl)) ?_; (with_reducible refine (klaxonlaw03_num.calls t218 t219 _ A11.out).mono ?_); rintro e w' ⟨rfl, ⟨nd, rfl⟩⟩; refine ⟨_, rfl, ?_⟩) | ((with_reducible refine gate_callee (f := 15) rfl ?_); refine goesL_ (some 30) rfl rfl Try.func15 (by kernel_rfl) rfl #[] rfl (by (try simp only [List.map_toArray, List.map_cons, List.map_nil]); first | done | rfl | (simp only [List.length_drop, List.length_take]; rfl)) ?_; (with_reducible refine (klaxonlaw03_live.calls  t220 _ A62.out).mono ?_); rintro e w66 ⟨rfl, hb⟩; refine ⟨_, rfl, ?_⟩; have n0_ := Aside0.mk (Kd.R_below (by (with_reducible repeat (first | apply Kd.R_alloc | apply Kd.R_drewN | apply Kd.R_drew)); exact HO217.out) hb); have n1_ := Aside0.mk (blk_below (g := gb213) (o := .cells #[.int .u8 a1_0, .int .u32 a1_1, .slice A1_2 l1_2.length c1_2] 25 (0, 0)) (by (with_reducible repeat (first | refine blk_drewN ?_ _ | refine blk_drew ?_ | refine blk_alloc ?_ _)); exact BK213.out) hb); have n2_ := Aside0.mk (below_step (by repeat (first | (with_reducible first | exact HB.out | apply below_alloc | apply pw_below_drewN | apply below_drew1 | refine below_set ?_ GE213.out) | exact HB.out)) hb); clear HO217; clear BK213; clear HB; have HO217 := n0_; have BK213 := n1_; have HB := n2_; clear n0_ n1_ n2_; (try clear hb); (try clear hb2); (try clear hk); (try clear hi)))
      go_ret
      exact ⟨by first | rfl | (simp [errW_none, errW_some] <;> rfl) | (simp [*, errW_none, errW_some] <;> rfl), by repeat (first | (with_reducible first | exact HB.out | apply below_alloc | apply pw_below_drewN | apply below_drew1 | refine below_set ?_ GE213.out) | exact HB.out)⟩

/-! ### klaxonlaw03_PageRooms: function 6 -/
def klaxonlaw03_PageRooms.j0 : Nat → Int → Int → Bool → Option (Bool)
  | 0, _, _, _ => none
  | k + 1, x0, x1, x13 => if x13 = true then ((klaxonlaw03_live.f).bind fun t236 => (some t236)) else (if 0 ≤ x1 then (if (x1 : Int).toNat ≤ 281474976710656 then ((page_Put.f x0 1 0 (List.replicate (x1 : Int).toNat 0)).bind fun bt240 => ((page_Room.f k x0).bind fun t244 => (if t244 = 0 then ((klaxonlaw03_num.f bt240.2).bind fun t245 => (if t245 = 2 then (if (bt240.1.length : Int) = 0 then ((klaxonlaw03_live.f).bind fun t246 => (some t246)) else (some false)) else (some false))) else (if t244 = (wrap64 (x0 - 11)) then ((klaxonlaw03_num.f bt240.2).bind fun t247 => (if ((t247 == 0) == (decide (x1 ≤ t244))) = true then ((klaxonlaw03_num.f bt240.2).bind fun t248 => (if ((t248 == 0) == ((bt240.1.length : Int) == x0)) = true then ((klaxonlaw03_live.f).bind fun t249 => (some t249)) else (some false))) else (some false))) else (some false))))) else (none)) else (none))
def klaxonlaw03_PageRooms.f (k : Nat) (a0 : Int) (a1 : Int) : Option (Bool) := if a1 < 0 then (klaxonlaw03_PageRooms.j0 k a0 a1 true) else (klaxonlaw03_PageRooms.j0 k a0 a1 (decide (a1 > 20000)))
theorem klaxonlaw03_PageRooms.mono_l : ∀ k, (∀ y0 y1 y2, LeO (klaxonlaw03_PageRooms.j0 k y0 y1 y2) (klaxonlaw03_PageRooms.j0 (k + 1) y0 y1 y2))
  | 0 => fun _ _ _ r h => by simp [klaxonlaw03_PageRooms.j0] at h
  | k + 1 => by
    have ih0 := klaxonlaw03_PageRooms.mono_l k
    · intro y0 y1 y2
      unfold klaxonlaw03_PageRooms.j0
      repeat' first
      | (with_reducible exact ih0 _ _ _)
      | (with_reducible exact page_Room.mono _ _)
      | (with_reducible exact LeO.refl _)
      | (with_reducible exact LeO.none _)
      | (with_reducible refine LeO.ite ?_ ?_)
      | (with_reducible refine LeO.bind ?_ (fun _ => ?_))
      | exact ih0 _ _ _
      | exact page_Room.mono _ _
      | exact LeO.none _
      | refine LeO.ite ?_ ?_
      | refine LeO.bind ?_ (fun _ => ?_)
theorem klaxonlaw03_PageRooms.mono : ∀ a0 a1 k, LeO (klaxonlaw03_PageRooms.f k a0 a1) (klaxonlaw03_PageRooms.f (k + 1) a0 a1) := by
  intro a0 a1 k
  have ih0 := klaxonlaw03_PageRooms.mono_l k
  unfold klaxonlaw03_PageRooms.f
  repeat' first
      | (with_reducible exact ih0 _ _ _)
      | (with_reducible exact page_Room.mono _ _)
      | (with_reducible exact LeO.refl _)
      | (with_reducible exact LeO.none _)
      | (with_reducible refine LeO.ite ?_ ?_)
      | (with_reducible refine LeO.bind ?_ (fun _ => ?_))
      | exact ih0 _ _ _
      | exact page_Room.mono _ _
      | exact LeO.none _
      | refine LeO.ite ?_ ?_
      | refine LeO.bind ?_ (fun _ => ?_)
set_option maxHeartbeats 8000000 in
set_option maxRecDepth 100000 in
theorem klaxonlaw03_PageRooms.calls (k : Nat) (a0 : Int) (a1 : Int) (w : World) (h : klaxonlaw03_PageRooms.f k a0 a1 = some true) :
    Calls Try.prog 6 #[.int .i64 a0, .int .i64 a1] w fun e w' => e = .returned (.bool true) ∧ Below w.heap.size w w' := by
  have hu25 := Try.underlying25
  have HB := Aside0.mk (Below.refl w.heap.size w)
  have H : (if a1 < 0 then (klaxonlaw03_PageRooms.j0 k a0 a1 true) else (klaxonlaw03_PageRooms.j0 k a0 a1 (decide (a1 > 20000)))) = some true := h
  clear h
  have HC3 := Aside0.mk H
  clear H
  go_enter Try.func6, Try.ntmps6
  go_upto_region 1 with (fail)
  go_cut [13] (fun v13 wc => ∃ (kq : Nat) (x13_2 : Bool), v13 = .bool x13_2 ∧ Aside0 (klaxonlaw03_PageRooms.j0 kq a0 a1 x13_2 = some true) ∧ Aside0 (kq ≤ k) ∧ Aside0 (Below w.heap.size w wc))
  case first =>
    have H := HC3.out
    clear HC3
    by_cases c4 : a1 < 0
    · rw [if_pos c4] at H
      have c4b0 : decide (a1 < 0) = true := decide_eq_true c4
      clear c4
      (first | rw [c4b0] | (simp only [i64_w, i32_w]; rw [c4b0]) | skip)
      have H' := Aside0.mk H
      clear H
      go_wp2
      go_meet
      case rel => exact ⟨_, (true), (by first | rfl | (simp; done) | (simp [*]; done)), H', ⟨by first | omega | exact Nat.le_refl _⟩, ⟨by repeat (first | (with_reducible first | exact HB.out | apply below_alloc | apply pw_below_drewN | apply below_drew1) | exact HB.out)⟩⟩
    · rw [if_neg c4] at H
      have c4b0 : decide (a1 < 0) = false := decide_eq_false c4
      clear c4
      (first | rw [c4b0] | (simp only [i64_w, i32_w]; rw [c4b0]) | skip)
      have H' := Aside0.mk H
      clear H
      go_wp2
      go_meet
      case rel => exact ⟨_, (decide (a1 > 20000)), (by first | rfl | (simp; done) | (simp [*]; done)), H', ⟨by first | omega | exact Nat.le_refl _⟩, ⟨by repeat (first | (with_reducible first | exact HB.out | apply below_alloc | apply pw_below_drewN | apply below_drew1) | exact HB.out)⟩⟩
  case rest =>
    clear HC3
    try clear p2
    try clear c4
    try clear c4b0
    obtain ⟨kq, x13_2, rfl, HA, HJ2, HB⟩ := hcut
    cases kq with
    | zero => exact absurd HA.out (by simp [klaxonlaw03_PageRooms.j0])
    | succ kj2 =>
      have H := HA.out
      clear HA
      simp only [klaxonlaw03_PageRooms.j0] at H
      by_cases c5 : x13_2 = true
      · subst c5
        have H1 : ((klaxonlaw03_live.f).bind fun t236 => (some t236)) = some true := by rw [if_pos rfl] at H; exact H
        clear H
        have H := H1
        clear H1
        replace H := Option.bind_eq_some_iff.mp H
        obtain ⟨t236, A60, H⟩ := H
        replace H : (some t236) = some true := H
        have A6 := Aside0.mk A60
        clear A60
        have H9_ := Option.some.inj H
        clear H
        go_wp2_with (first | ((with_reducible refine gate_callee (f := 15) rfl ?_); refine goesL_ (some 14) rfl rfl Try.func15 (by kernel_rfl) rfl #[] rfl (by (try simp only [List.map_toArray, List.map_cons, List.map_nil]); first | done | rfl | (simp only [List.length_drop, List.length_take]; rfl)) ?_; (with_reducible refine (klaxonlaw03_live.calls  t236 _ A6.out).mono ?_); rintro e w7 ⟨rfl, hb⟩; refine ⟨_, rfl, ?_⟩; have n0_ := Aside0.mk (below_step (by repeat (first | (with_reducible first | exact HB.out | apply below_alloc | apply pw_below_drewN | apply below_drew1) | exact HB.out)) hb); clear HB; have HB := n0_; clear n0_; (try clear hb); (try clear hb2); (try clear hk); (try clear hi)))
        go_ret
        exact ⟨by first | rfl | (simp [errW_none, errW_some] <;> rfl) | (simp [*, errW_none, errW_some] <;> rfl), by repeat (first | (with_reducible first | exact HB.out | apply below_alloc | apply pw_below_drewN | apply below_drew1) | exact HB.out)⟩
      · replace c5 := Bool.eq_false_iff.mpr c5
        subst c5
        have H1 : (if 0 ≤ a1 then (if (a1 : Int).toNat ≤ 281474976710656 then ((page_Put.f a0 1 0 (List.replicate (a1 : Int).toNat 0)).bind fun bt240 => ((page_Room.f kj2 a0).bind fun t244 => (if t244 = 0 then ((klaxonlaw03_num.f bt240.2).bind fun t245 => (if t245 = 2 then (if (bt240.1.length : Int) = 0 then ((klaxonlaw03_live.f).bind fun t246 => (some t246)) else (some false)) else (some false))) else (if t244 = (wrap64 (a0 - 11)) then ((klaxonlaw03_num.f bt240.2).bind fun t247 => (if ((t247 == 0) == (decide (a1 ≤ t244))) = true then ((klaxonlaw03_num.f bt240.2).bind fun t248 => (if ((t248 == 0) == ((bt240.1.length : Int) == a0)) = true then ((klaxonlaw03_live.f).bind fun t249 => (some t249)) else (some false))) else (some false))) else (some false))))) else (none)) else (none)) = some true := by rw [if_neg (show ¬ (false = true) by decide)] at H; exact H
        clear H
        have H := H1
        clear H1
        by_cases c8 : 0 ≤ a1
        · rw [if_pos c8] at H
          have c8b0 := eq_true c8
          have c8b1 : decide (0 ≤ a1) = true := decide_eq_true c8
          clear c8
          by_cases c9 : (a1 : Int).toNat ≤ 281474976710656
          · rw [if_pos c9] at H
            have c9b0 := eq_true c9
            have c9b1 : decide ((a1 : Int).toNat ≤ 281474976710656) = true := decide_eq_true c9
            clear c9
            obtain ⟨y237, hy237⟩ : ∃ y_ : List Int, y_ = (List.replicate (a1 : Int).toNat 0) := ⟨_, rfl⟩
            replace H : ((page_Put.f a0 1 0 y237).bind fun bt240 => ((page_Room.f kj2 a0).bind fun t244 => (if t244 = 0 then ((klaxonlaw03_num.f bt240.2).bind fun t245 => (if t245 = 2 then (if (bt240.1.length : Int) = 0 then ((klaxonlaw03_live.f).bind fun t246 => (some t246)) else (some false)) else (some false))) else (if t244 = (wrap64 (a0 - 11)) then ((klaxonlaw03_num.f bt240.2).bind fun t247 => (if ((t247 == 0) == (decide (a1 ≤ t244))) = true then ((klaxonlaw03_num.f bt240.2).bind fun t248 => (if ((t248 == 0) == ((bt240.1.length : Int) == a0)) = true then ((klaxonlaw03_live.f).bind fun t249 => (some t249)) else (some false))) else (some false))) else (some false))))) = some true := by first | (rw [hy237]; with_reducible exact H) | (have H2_ := (Option.bind_some _ _).symm.trans H; rw [hy237]; with_reducible exact H2_) | (have H2_ := (Option.bind_some _ _).symm.trans H; with_reducible exact H2_) | with_reducible exact H | (rw [hy237]; exact H) | exact H
            have Ny237 := Aside0.mk hy237
            clear hy237
            replace H := Option.bind_eq_some_iff.mp H
            obtain ⟨⟨t240, t243⟩, A100, H⟩ := H
            replace H : ((page_Room.f kj2 a0).bind fun t244 => (if t244 = 0 then ((klaxonlaw03_num.f t243).bind fun t245 => (if t245 = 2 then (if (t240.length : Int) = 0 then ((klaxonlaw03_live.f).bind fun t246 => (some t246)) else (some false)) else (some false))) else (if t244 = (wrap64 (a0 - 11)) then ((klaxonlaw03_num.f t243).bind fun t247 => (if ((t247 == 0) == (decide (a1 ≤ t244))) = true then ((klaxonlaw03_num.f t243).bind fun t248 => (if ((t248 == 0) == ((t240.length : Int) == a0)) = true then ((klaxonlaw03_live.f).bind fun t249 => (some t249)) else (some false))) else (some false))) else (some false)))) = some true := H
            have A10 := Aside0.mk A100
            clear A100
            replace H := Option.bind_eq_some_iff.mp H
            obtain ⟨t244, A110, H⟩ := H
            replace H : (if t244 = 0 then ((klaxonlaw03_num.f t243).bind fun t245 => (if t245 = 2 then (if (t240.length : Int) = 0 then ((klaxonlaw03_live.f).bind fun t246 => (some t246)) else (some false)) else (some false))) else (if t244 = (wrap64 (a0 - 11)) then ((klaxonlaw03_num.f t243).bind fun t247 => (if ((t247 == 0) == (decide (a1 ≤ t244))) = true then ((klaxonlaw03_num.f t243).bind fun t248 => (if ((t248 == 0) == ((t240.length : Int) == a0)) = true then ((klaxonlaw03_live.f).bind fun t249 => (some t249)) else (some false))) else (some false))) else (some false))) = some true := H
            have A11 := Aside0.mk A110
            clear A110
            by_cases c12 : t244 = 0
            · rw [if_pos c12] at H
              have c12b0 : (t244 == 0) = true := beq_iff_eq.mpr c12
              have c12b1 : (t244 != 0) = false := bne_eq_false_iff_eq.mpr c12
              clear c12
              replace H := Option.bind_eq_some_iff.mp H
              obtain ⟨t245, A130, H⟩ := H
              replace H : (if t245 = 2 then (if (t240.length : Int) = 0 then ((klaxonlaw03_live.f).bind fun t246 => (some t246)) else (some false)) else (some false)) = some true := H
              have A13 := Aside0.mk A130
              clear A130
              by_cases c14 : t245 = 2
              · rw [if_pos c14] at H
                have c14b0 : (t245 == 2) = true := beq_iff_eq.mpr c14
                have c14b1 : (t245 != 2) = false := bne_eq_false_iff_eq.mpr c14
                clear c14
                by_cases c15 : (t240.length : Int) = 0
                · rw [if_pos c15] at H
                  have c15b0 : ((t240.length : Int) == 0) = true := beq_iff_eq.mpr c15
                  have c15b1 : ((t240.length : Int) != 0) = false := bne_eq_false_iff_eq.mpr c15
                  clear c15
                  replace H := Option.bind_eq_some_iff.mp H
                  obtain ⟨t246, A160, H⟩ := H
                  replace H : (some t246) = some true := H
                  have A16 := Aside0.mk A160
                  clear A160
                  have H9_ := Option.some.inj H
                  clear H
                  go_wp2_with (first | ((with_reducible refine gate_dst (N := 18) rfl ?_); (try (refine gate_guard (by rfl) ?_; dsimp only)); refine Kd.R_make (Kd.int .u8) _ 5 rfl (N := 18) rfl 23 _ _ rfl a1 rfl rfl Try.underlying23 (.int .u8 0) 1 info5 rfl (by decide) (by omega) 0 (ok := fun _ => True) (okp := fun _ => True) rfl (fun _ hk => hk) trivial (of_decide_eq_true (by first | (with_reducible assumption) | assumption)) (Nat.le_trans (Nat.mul_le_mul_right _ (of_decide_eq_true (by first | (with_reducible assumption) | assumption) : a1.toNat ≤ 281474976710656)) (by omega)) (Below.refl _ _) (Nat.le_refl _) ?_; intro v238 w17 ho18 hb hg_ hnew_; clear hg_ hnew_; (first | rw [← Ny237.out] at ho18 | (simp only [Int.reduceToNat] at ho18; rw [← Ny237.out] at ho18)); have n0_ := Aside0.mk (Kd.R_lower ho18 (below_size (by repeat (first | (with_reducible first | exact HB.out | apply below_alloc | apply pw_below_drewN | apply below_drew1) | exact HB.out)))); have n1_ := Aside0.mk (below_step (by repeat (first | (with_reducible first | exact HB.out | apply below_alloc | apply pw_below_drewN | apply below_drew1) | exact HB.out)) hb); clear HB; have HO239 := n0_; have HB := n1_; clear n0_ n1_; clear hb ho18; obtain ⟨Ao19, co19, eo19⟩ := Kd.R_slice HO239.out; subst eo19) | ((with_reducible refine gate_callee (f := 16) rfl ?_); refine goesL_ (some 20) rfl rfl Try.func16 (by kernel_rfl) rfl #[.int .i64 a0, .agg #[.int .u8 1, .int .u32 0, .slice Ao19 y237.length co19]] rfl (by (try simp only [List.map_toArray, List.map_cons, List.map_nil]); first | done | rfl | (simp only [List.length_drop, List.length_take]; rfl)) ?_; (with_reducible refine (page_Put.calls a0 1 0 _ _ y237 t240 t243 _ ?side1 ?side2 A10.out).mono ?_); (case side1 => repeat (first | exact (Kd.R_reads' HO239.out).2.2 | (with_reducible refine Kd.C_alloc ?_ _) | (with_reducible refine Kd.C_drewN ?_ _) | (with_reducible refine Kd.C_drew ?_))); (case side2 => exact (Kd.R_reads' HO239.out).2.1); rintro e w20 ⟨v241, rfl, ho0, hb⟩; refine ⟨_, rfl, ?_⟩; have n0_ := Aside0.mk (Kd.R_elder' (by (with_reducible repeat (first | apply Kd.R_alloc | apply Kd.R_drewN | apply Kd.R_drew)); exact HO239.out) (Kd.R_base ho0) hb); have n1_ := Aside0.mk (Kd.R_lower (Kd.R_new' ho0 (Kd.R_lt (by (with_reducible repeat (first | apply Kd.R_alloc | apply Kd.R_drewN | apply Kd.R_drew)); exact HO239.out))) (below_size (by repeat (first | (with_reducible first | exact HB.out | apply below_alloc | apply pw_below_drewN | apply below_drew1) | exact HB.out)))); have n2_ := Aside0.mk (below_step (by repeat (first | (with_reducible first | exact HB.out | apply below_alloc | apply pw_below_drewN | apply below_drew1) | exact HB.out)) hb); clear HO239; clear HB; have HO239 := n0_; have HO242 := n1_; have HB := n2_; clear n0_ n1_ n2_; (try clear hb); (try clear hb2); (try clear hk); (try clear hi); (try clear ho0)) | ((with_reducible refine gate_callee (f := 22) rfl ?_); refine goesL_ (some 24) rfl rfl Try.func22 (by kernel_rfl) rfl #[.int .i64 a0] rfl (by (try simp only [List.map_toArray, List.map_cons, List.map_nil]); first | done | rfl | (simp only [List.length_drop, List.length_take]; rfl)) ?_; (with_reducible refine (page_Room.calls kj2 a0 t244 _ A11.out).mono ?_); rintro e w' ⟨rfl, ⟨nd, rfl⟩⟩; refine ⟨_, rfl, ?_⟩) | ((with_reducible refine gate_callee (f := 20) rfl ?_); refine goesL_ (some 28) rfl rfl Try.func20 (by kernel_rfl) rfl #[.int .i64 t243] rfl (by (try simp only [List.map_toArray, List.map_cons, List.map_nil]); first | done | rfl | (simp only [List.length_drop, List.length_take]; rfl)) ?_; (with_reducible refine (klaxonlaw03_num.calls t243 t245 _ A13.out).mono ?_); rintro e w' ⟨rfl, ⟨nd, rfl⟩⟩; refine ⟨_, rfl, ?_⟩; obtain ⟨Ao21, co21, eo21⟩ := Kd.R_slice HO242.out; subst eo21) | (go_at_call 15; (with_reducible refine (klaxonlaw03_live.calls  t246 _ A16.out).mono ?_); rintro e w22 ⟨rfl, hb⟩; have n0_ := Aside0.mk (Kd.R_below (by (with_reducible repeat (first | apply Kd.R_alloc | apply Kd.R_drewN | apply Kd.R_drew)); exact HO239.out) hb); have n1_ := Aside0.mk (Kd.R_below (by (with_reducible repeat (first | apply Kd.R_alloc | apply Kd.R_drewN | apply Kd.R_drew)); exact HO242.out) hb); have n2_ := Aside0.mk (below_step (by repeat (first | (with_reducible first | exact HB.out | apply below_alloc | apply pw_below_drewN | apply below_drew1) | exact HB.out)) hb); clear HO239; clear HO242; clear HB; have HO239 := n0_; have HO242 := n1_; have HB := n2_; clear n0_ n1_ n2_; (try clear hb); (try clear hb2); (try clear hk); (try clear hi)))
                  go_ret
                  exact ⟨by first | rfl | (simp [errW_none, errW_some] <;> rfl) | (simp [*, errW_none, errW_some] <;> rfl), by repeat (first | (with_reducible first | exact HB.out | apply below_alloc | apply pw_below_drewN | apply below_drew1) | exact HB.out)⟩
                · rw [if_neg c15] at H
                  have c15b0 : ((t240.length : Int) == 0) = false := beq_eq_false_iff_ne.mpr c15
                  have c15b1 : ((t240.length : Int) != 0) = true := bne_iff_ne.mpr c15
                  have c15b2 : ¬ (t240 = []) := fun h_ => c15 (by rw [h_]; rfl)
                  exact absurd H (by simp)
              · rw [if_neg c14] at H
                have c14b0 : (t245 == 2) = false := beq_eq_false_iff_ne.mpr c14
                have c14b1 : (t245 != 2) = true := bne_iff_ne.mpr c14
                exact absurd H (by simp)
            · rw [if_neg c12] at H
              have c12b0 : (t244 == 0) = false := beq_eq_false_iff_ne.mpr c12
              have c12b1 : (t244 != 0) = true := bne_iff_ne.mpr c12
              by_cases c23 : t244 = (wrap64 (a0 - 11))
              · rw [if_pos c23] at H
                have c23b0 : (t244 == (wrap64 (a0 - 11))) = true := beq_iff_eq.mpr c23
                have c23b1 : (t244 != (wrap64 (a0 - 11))) = false := bne_eq_false_iff_eq.mpr c23
                clear c23
                replace H := Option.bind_eq_some_iff.mp H
                obtain ⟨t247, A240, H⟩ := H
                replace H : (if ((t247 == 0) == (decide (a1 ≤ t244))) = true then ((klaxonlaw03_num.f t243).bind fun t248 => (if ((t248 == 0) == ((t240.length : Int) == a0)) = true then ((klaxonlaw03_live.f).bind fun t249 => (some t249)) else (some false))) else (some false)) = some true := H
                have A24 := Aside0.mk A240
                clear A240
                by_cases c25 : ((t247 == 0) == (decide (a1 ≤ t244))) = true
                · rw [if_pos c25] at H
                  have c25b0 : ((t247 == 0) == (decide (a1 ≤ t244))) = true := c25
                  (try (have c25b1 : decide ((t247 == 0) = (decide (a1 ≤ t244))) = true := by simpa using c25))
                  (try (have c25b2 : ((t247 == 0) == (decide (a1 ≤ t244))) = true := by simpa using c25))
                  clear c25
                  replace H := Option.bind_eq_some_iff.mp H
                  obtain ⟨t248, A260, H⟩ := H
                  replace H : (if ((t248 == 0) == ((t240.length : Int) == a0)) = true then ((klaxonlaw03_live.f).bind fun t249 => (some t249)) else (some false)) = some true := H
                  have A26 := Aside0.mk A260
                  clear A260
                  by_cases c27 : ((t248 == 0) == ((t240.length : Int) == a0)) = true
                  · rw [if_pos c27] at H
                    have c27b0 : ((t248 == 0) == ((t240.length : Int) == a0)) = true := c27
                    (try (have c27b1 : decide ((t248 == 0) = ((t240.length : Int) == a0)) = true := by simpa using c27))
                    (try (have c27b2 : ((t248 == 0) == ((t240.length : Int) == a0)) = true := by simpa using c27))
                    clear c27
                    replace H := Option.bind_eq_some_iff.mp H
                    obtain ⟨t249, A280, H⟩ := H
                    replace H : (some t249) = some true := H
                    have A28 := Aside0.mk A280
                    clear A280
                    have H9_ := Option.some.inj H
                    clear H
                    (try (have e_ : t247 = t248 := Option.some.inj (A24.out.symm.trans A26.out); subst e_))
                    go_wp2_with (first | ((with_reducible refine gate_dst (N := 18) rfl ?_); (try (refine gate_guard (by rfl) ?_; dsimp only)); refine Kd.R_make (Kd.int .u8) _ 5 rfl (N := 18) rfl 23 _ _ rfl a1 rfl rfl Try.underlying23 (.int .u8 0) 1 info5 rfl (by decide) (by omega) 0 (ok := fun _ => True) (okp := fun _ => True) rfl (fun _ hk => hk) trivial (of_decide_eq_true (by first | (with_reducible assumption) | assumption)) (Nat.le_trans (Nat.mul_le_mul_right _ (of_decide_eq_true (by first | (with_reducible assumption) | assumption) : a1.toNat ≤ 281474976710656)) (by omega)) (Below.refl _ _) (Nat.le_refl _) ?_; intro v238 w29 ho30 hb hg_ hnew_; clear hg_ hnew_; (first | rw [← Ny237.out] at ho30 | (simp only [Int.reduceToNat] at ho30; rw [← Ny237.out] at ho30)); have n0_ := Aside0.mk (Kd.R_lower ho30 (below_size (by repeat (first | (with_reducible first | exact HB.out | apply below_alloc | apply pw_below_drewN | apply below_drew1) | exact HB.out)))); have n1_ := Aside0.mk (below_step (by repeat (first | (with_reducible first | exact HB.out | apply below_alloc | apply pw_below_drewN | apply below_drew1) | exact HB.out)) hb); clear HB; have HO239 := n0_; have HB := n1_; clear n0_ n1_; clear hb ho30; obtain ⟨Ao31, co31, eo31⟩ := Kd.R_slice HO239.out; subst eo31) | ((with_reducible refine gate_callee (f := 16) rfl ?_); refine goesL_ (some 20) rfl rfl Try.func16 (by kernel_rfl) rfl #[.int .i64 a0, .agg #[.int .u8 1, .int .u32 0, .slice Ao31 y237.length co31]] rfl (by (try simp only [List.map_toArray, List.map_cons, List.map_nil]); first | done | rfl | (simp only [List.length_drop, List.length_take]; rfl)) ?_; (with_reducible refine (page_Put.calls a0 1 0 _ _ y237 t240 t243 _ ?side1 ?side2 A10.out).mono ?_); (case side1 => repeat (first | exact (Kd.R_reads' HO239.out).2.2 | (with_reducible refine Kd.C_alloc ?_ _) | (with_reducible refine Kd.C_drewN ?_ _) | (with_reducible refine Kd.C_drew ?_))); (case side2 => exact (Kd.R_reads' HO239.out).2.1); rintro e w32 ⟨v241, rfl, ho0, hb⟩; refine ⟨_, rfl, ?_⟩; have n0_ := Aside0.mk (Kd.R_elder' (by (with_reducible repeat (first | apply Kd.R_alloc | apply Kd.R_drewN | apply Kd.R_drew)); exact HO239.out) (Kd.R_base ho0) hb); have n1_ := Aside0.mk (Kd.R_lower (Kd.R_new' ho0 (Kd.R_lt (by (with_reducible repeat (first | apply Kd.R_alloc | apply Kd.R_drewN | apply Kd.R_drew)); exact HO239.out))) (below_size (by repeat (first | (with_reducible first | exact HB.out | apply below_alloc | apply pw_below_drewN | apply below_drew1) | exact HB.out)))); have n2_ := Aside0.mk (below_step (by repeat (first | (with_reducible first | exact HB.out | apply below_alloc | apply pw_below_drewN | apply below_drew1) | exact HB.out)) hb); clear HO239; clear HB; have HO239 := n0_; have HO242 := n1_; have HB := n2_; clear n0_ n1_ n2_; (try clear hb); (try clear hb2); (try clear hk); (try clear hi); (try clear ho0)) | ((with_reducible refine gate_callee (f := 22) rfl ?_); refine goesL_ (some 24) rfl rfl Try.func22 (by kernel_rfl) rfl #[.int .i64 a0] rfl (by (try simp only [List.map_toArray, List.map_cons, List.map_nil]); first | done | rfl | (simp only [List.length_drop, List.length_take]; rfl)) ?_; (with_reducible refine (page_Room.calls kj2 a0 t244 _ A11.out).mono ?_); rintro e w' ⟨rfl, ⟨nd, rfl⟩⟩; refine ⟨_, rfl, ?_⟩) | (go_at_call 20; (with_reducible refine (klaxonlaw03_num.calls t243 t247 _ A24.out).mono ?_); rintro e w' ⟨rfl, ⟨nd, rfl⟩⟩; (try (obtain ⟨Ao33, co33, eo33⟩ := Kd.R_slice HO242.out; subst eo33))) | (go_at_call 20; (with_reducible refine (klaxonlaw03_num.calls t243 t248 _ A26.out).mono ?_); rintro e w' ⟨rfl, ⟨nd, rfl⟩⟩; obtain ⟨Ao33, co33, eo33⟩ := Kd.R_slice HO242.out; subst eo33) | (go_at_call 15; (with_reducible refine (klaxonlaw03_live.calls  t249 _ A28.out).mono ?_); rintro e w34 ⟨rfl, hb⟩; have n0_ := Aside0.mk (Kd.R_below (by (with_reducible repeat (first | apply Kd.R_alloc | apply Kd.R_drewN | apply Kd.R_drew)); exact HO239.out) hb); have n1_ := Aside0.mk (Kd.R_below (by (with_reducible repeat (first | apply Kd.R_alloc | apply Kd.R_drewN | apply Kd.R_drew)); exact HO242.out) hb); have n2_ := Aside0.mk (below_step (by repeat (first | (with_reducible first | exact HB.out | apply below_alloc | apply pw_below_drewN | apply below_drew1) | exact HB.out)) hb); clear HO239; clear HO242; clear HB; have HO239 := n0_; have HO242 := n1_; have HB := n2_; clear n0_ n1_ n2_; (try clear hb); (try clear hb2); (try clear hk); (try clear hi)))
                    go_ret
                    exact ⟨by first | rfl | (simp [errW_none, errW_some] <;> rfl) | (simp [*, errW_none, errW_some] <;> rfl), by repeat (first | (with_reducible first | exact HB.out | apply below_alloc | apply pw_below_drewN | apply below_drew1) | exact HB.out)⟩
                  · rw [if_neg c27] at H
                    have c27b0 : ((t248 == 0) == ((t240.length : Int) == a0)) = false := by simpa using c27
                    (try (have c27b1 : decide ((t248 == 0) = ((t240.length : Int) == a0)) = false := by simpa using c27))
                    (try (have c27b2 : ((t248 == 0) == ((t240.length : Int) == a0)) = false := by simpa using c27))
                    (try (have c27b3 : ¬ ((t248 == 0) = ((t240.length : Int) == a0)) := by simpa using c27))
                    clear c27
                    exact absurd H (by simp)
                · rw [if_neg c25] at H
                  have c25b0 : ((t247 == 0) == (decide (a1 ≤ t244))) = false := by simpa using c25
                  (try (have c25b1 : decide ((t247 == 0) = (decide (a1 ≤ t244))) = false := by simpa using c25))
                  (try (have c25b2 : ((t247 == 0) == (decide (a1 ≤ t244))) = false := by simpa using c25))
                  (try (have c25b3 : ¬ ((t247 == 0) = (decide (a1 ≤ t244))) := by simpa using c25))
                  clear c25
                  exact absurd H (by simp)
              · rw [if_neg c23] at H
                have c23b0 : (t244 == (wrap64 (a0 - 11))) = false := beq_eq_false_iff_ne.mpr c23
                have c23b1 : (t244 != (wrap64 (a0 - 11))) = true := bne_iff_ne.mpr c23
                exact absurd H (by simp)
          · rw [if_neg c9] at H
            exact absurd H (by simp)
        · rw [if_neg c8] at H
          exact absurd H (by simp)

-- NOT PRINTED: function 60 (disk_Disk_Size)

-- NOT PRINTED: function 61 (disk_Disk_Sectors)

-- NOT PRINTED: function 25 (page_Count)

-- NOT PRINTED: function 73 (disk_Disk_has)

-- NOT PRINTED: function 79 (disk_Disk_at)

-- NOT PRINTED: function 59 (disk_Disk_Read)

-- NOT PRINTED: function 24 (page_Read)

-- NOT PRINTED: function 64 (disk_Disk_begin)

-- NOT PRINTED: function 82 (slices_Grow_byte_byte)

-- NOT PRINTED: function 72 (slices_Concat_byte_byte)

-- NOT PRINTED: function 39 (disk_Disk_Write)

-- NOT PRINTED: function 62 (slices_Chunk_byte_byte)

-- NOT PRINTED: function 26 (page_Write)


/-! ### klaxonlaw03_PageNil: function 7 -/
open Go.Proofs.YtndeagphchnokaaK
set_option maxHeartbeats 400000 in
theorem size_nil (w : World) : Calls Try.prog 60 #[.pointer none] w fun e w' => e = .returned (.int .i64 0) ∧ Drawn0 w w' := by
  go_enter Try.func60, Try.ntmps60
  go_wp2
  go_ret
  exact ⟨rfl, by repeat (first | exact Drawn0.refl _ | apply Drawn0.step)⟩
set_option maxHeartbeats 400000 in
theorem count_nil (per : Int) (w : World) : Calls Try.prog 25 #[.pointer none, .int .i64 per] w fun e w' => e = .returned (.int .i64 0) ∧ Drawn0 w w' := by
  go_enter Try.func25, Try.ntmps25
  by_cases h1 : per < 1
  · have d1 : decide (per < 1) = true := decide_eq_true h1
    go_wp2
    go_ret
    exact ⟨rfl, by repeat (first | exact Drawn0.refl _ | apply Drawn0.step)⟩
  have d1 : decide (per < 1) = false := decide_eq_false h1
  by_cases h2 : 8192 < per
  · have d2 : decide (8192 < per) = true := decide_eq_true h2
    go_wp2
    go_ret
    exact ⟨rfl, by repeat (first | exact Drawn0.refl _ | apply Drawn0.step)⟩
  have d2 : decide (8192 < per) = false := decide_eq_false h2
  go_wp2_with fail
  refine (size_nil _).mono ?_
  rintro e w1 ⟨rfl, ⟨n1, rfl⟩⟩
  go_wp2_with fail
  refine (room_calls 0 _).mono ?_
  rintro e w2 ⟨rfl, ⟨n2, rfl⟩⟩
  have hr : room 0 = 0 := rfl
  rw [hr]
  go_wp2_with fail
  go_ret
  exact ⟨rfl, ⟨_, rfl⟩⟩
set_option maxHeartbeats 400000 in
theorem read_nil (per id : Int) (w : World) : Calls Try.prog 24 #[.pointer none, .int .i64 per, .int .i64 id] w fun e w' => e = .returned (.tuple #[.agg #[.int .u8 0, .int .u32 0, .slice none 0 0], .int .i64 7]) ∧ Below w.heap.size w w' := by
  go_enter Try.func24, Try.ntmps24
  go_wp2_with fail
  exact bodyPost_ret (v := .tuple #[.agg #[.int .u8 0, .int .u32 0, .slice none 0 0], .int .i64 7]) (by simp [results, Try.results24, go_sem]) rfl ⟨rfl, below_alloc (Below.refl _ _) _⟩
set_option maxHeartbeats 400000 in
theorem write_nil (per : Int) (x : Value) (a b c : Value) (w : World) : Calls Try.prog 26 #[.pointer none, .int .i64 per, .agg #[a, b, c]] w fun e w' => e = .returned (.int .i64 7) ∧ Below w.heap.size w w' := by
  go_enter Try.func26, Try.ntmps26
  go_wp2_with fail
  exact bodyPost_ret (v := .int .i64 7) (by simp [results, Try.results26, go_sem]) rfl ⟨rfl, below_alloc (below_alloc (below_alloc (Below.refl _ _) _) _) _⟩
set_option maxHeartbeats 4000000 in
set_option maxRecDepth 100000 in
theorem pagenil_law (per kind id : Int) (A : Option Addr) (n c : Nat) (aid : Int) (w : World) (hn : n ≤ 9223372036854775807) : Calls Try.prog 7 #[.int .i64 per, .agg #[.int .u8 kind, .int .u32 id, .slice A n c], .int .i64 aid] w fun e w' => e = .returned (.bool true) ∧ Below w.heap.size w w' := by
  go_enter Try.func7, Try.ntmps7
  by_cases h1 : 20000 < (n : Int)
  · have d1 : decide (20000 < (n : Int)) = true := decide_eq_true h1
    go_wp2_with fail
    refine (klaxonlaw03_live.calls true _ rfl).mono ?_
    rintro e w1 ⟨rfl, hb⟩
    have HB := Aside0.mk (below_step (below_alloc (Below.refl w.heap.size w) _) hb)
    clear hb
    go_wp2_with fail
    go_ret
    exact ⟨rfl, HB.out⟩
  have d1 : decide (20000 < (n : Int)) = false := decide_eq_false h1
  go_wp2_with fail
  refine (read_nil per aid _).mono ?_
  rintro e w1 ⟨rfl, hb1⟩
  have hX := blk_below (blk_new w (Obj.cells #[Value.int IntKind.u8 kind, Value.int IntKind.u32 id, Value.slice A n c] 25)) hb1
  have hx0 : (w1.alloc (Obj.cells #[Value.int IntKind.u8 0, Value.int IntKind.u32 0, Value.slice none 0 0] 25)).cell? ⟨w.heap.size, 0, none⟩ = some (.int .u8 kind) := by rw [blk_cell (blk_alloc hX _)]; rfl
  have hx1 : (w1.alloc (Obj.cells #[Value.int IntKind.u8 0, Value.int IntKind.u32 0, Value.slice none 0 0] 25)).cell? ⟨w.heap.size, 1, none⟩ = some (.int .u32 id) := by rw [blk_cell (blk_alloc hX _)]; rfl
  have hx2 : (w1.alloc (Obj.cells #[Value.int IntKind.u8 0, Value.int IntKind.u32 0, Value.slice none 0 0] 25)).cell? ⟨w.heap.size, 2, none⟩ = some (.slice A n c) := by rw [blk_cell (blk_alloc hX _)]; rfl
  have HB1 := Aside0.mk (below_step (below_alloc (Below.refl w.heap.size w) _) hb1)
  clear hb1 hX
  go_wp2_with fail
  refine (count_nil per _).mono ?_
  rintro e w2 ⟨rfl, ⟨n2, rfl⟩⟩
  go_wp2_with fail
  refine (write_nil per (.int .i64 0) _ _ _ _).mono ?_
  rintro e w3 ⟨rfl, hb3⟩
  have HB3 := Aside0.mk (below_step (pw_below_drewN (below_alloc HB1.out _) _) hb3)
  clear hb3
  go_wp2_with fail
  refine (klaxonlaw03_num.calls 7 7 _ rfl).mono ?_
  rintro e w4 ⟨rfl, ⟨n4, rfl⟩⟩
  go_wp2_with fail
  refine (klaxonlaw03_num.calls 7 7 _ rfl).mono ?_
  rintro e w5 ⟨rfl, ⟨n5, rfl⟩⟩
  go_wp2_with fail
  refine (klaxonlaw03_live.calls true _ rfl).mono ?_
  rintro e w6 ⟨rfl, hb6⟩
  have HB6 := Aside0.mk (below_step (pw_below_drewN HB3.out _) hb6)
  clear hb6
  go_wp2_with fail
  go_ret
  exact ⟨rfl, HB6.out⟩
def klaxonlaw03_PageNil.f (a0 : Int) (a1_0 : Int) (a1_1 : Int) (l1_2 : List Int) (a2 : Int) : Option Bool := some true
theorem klaxonlaw03_PageNil.calls (a0 : Int) (a1_0 : Int) (a1_1 : Int) (A1_2 : Option Addr) (c1_2 : Nat) (l1_2 : List Int) (a2 : Int) (r : Bool) (w : World) (hr1_2 : Kd.C (Kd.int .u8) w A1_2 l1_2.length l1_2) (hc1_2 : l1_2.length ≤ c1_2) (h : klaxonlaw03_PageNil.f a0 a1_0 a1_1 l1_2 a2 = some r) :
    Calls Try.prog 7 #[.int .i64 a0, .agg #[.int .u8 a1_0, .int .u32 a1_1, .slice A1_2 l1_2.length c1_2], .int .i64 a2] w fun e w' => e = .returned (.bool r) ∧ Below w.heap.size w w' := by
  obtain rfl : true = r := Option.some.inj h
  exact pagenil_law a0 a1_0 a1_1 A1_2 l1_2.length c1_2 a2 w hr1_2.2.1

end Go.Proofs.Ytndeagphchnokaa.PPage
