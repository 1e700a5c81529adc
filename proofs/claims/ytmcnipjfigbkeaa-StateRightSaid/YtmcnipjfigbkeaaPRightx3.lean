-- Written by a program of this session (wip/myprint.py), which drives the kit's print; read and checked by Lean alone.
import Derived.Test.YtmcnipjfigbkeaaPRightx0
namespace Go.Proofs.Ytmcnipjfigbkeaa.PRight
open Go.RowKit Go.Proofs.YtmcnipjfigbkeaaW.PrintWords Go.Proofs.YtmcnipjfigbkeaaW.PrintLast Go.Proofs.YtmcnipjfigbkeaaW.PrintMore
attribute [local go_sem] max2_int min2_int max_two min_two max_three min_three max_four min_four   -- for this text's walks alone
set_option linter.unusedVariables false
set_option linter.unusedSimpArgs false


/-! ### state_Means: function 21 -/
open Go.KState
def state_Means.f (a0_0 a0_1 a0_2 a0_3 a1 : Int) : Option Int := some (meansP a0_2 a0_3 a1)

theorem zero3 (w : World) : (zeroValue 3).run Try.prog w = .ok (.int .i64 0) w := by kernel_rfl
/-- The literal map of policies. -/
def polMap (r : Int) : Array MapEntry := #[{ key := .int .i64 1, val := .int .i64 r, born := 0 }, { key := .int .i64 2, val := .int .i64 2, born := 1 }, { key := .int .i64 3, val := .int .i64 1, born := 2 }]
theorem polMap_look (W : World) (b : Nat) (r p : Int) (hb : W.heap[b]? = some (.map (polMap r) 3)) : (Instr.lookup 82 (.map (some b)) (.int .i64 p) false).run Try.prog W = .ok (.int .i64 (polP p r)) W := by
  unfold polP
  by_cases h1 : p = 1
  · subst h1
    exact KMap.run_lookup_at W 82 3 3 .i64 b _ 3 1 0 _ Try.underlying82 Try.underlying3 hb rfl
  · by_cases h2 : p = 2
    · subst h2
      exact KMap.run_lookup_at W 82 3 3 .i64 b _ 3 2 1 _ Try.underlying82 Try.underlying3 hb rfl
    · by_cases h3 : p = 3
      · subst h3
        exact KMap.run_lookup_at W 82 3 3 .i64 b _ 3 3 2 _ Try.underlying82 Try.underlying3 hb rfl
      · simp only [h1, h2, h3, if_false]
        exact KMap.run_lookup_none W 82 3 3 .i64 b _ 3 p _ Try.underlying82 Try.underlying3 hb (zero3 _) (by simp [polMap, Instr.findNow, Instr.sameNow, beq_eq_false_iff_ne.mpr h1, beq_eq_false_iff_ne.mpr h2, beq_eq_false_iff_ne.mpr h3])

set_option maxHeartbeats 400000 in
set_option maxRecDepth 100000 in
theorem state_Means.calls (a0_0 a0_1 a0_2 a0_3 a1 : Int) (r : Int) (w : World) (h : state_Means.f a0_0 a0_1 a0_2 a0_3 a1 = some r) :
    Calls Try.prog 21 #[.agg #[.int .i64 a0_0, .int .i64 a0_1, .int .i64 a0_2, .int .i64 a0_3], .int .i64 a1] w fun e w' => e = .returned (.int .i64 r) ∧ Below w.heap.size w w' := by
  simp only [state_Means.f, Option.some.injEq] at h
  have hmm := @run_makeMap Try.prog
  have i1 := fun (o : Obj) (r : Int) => KMap.run_insert_at (w.alloc o) (w.heap.size + 1) 82 3 3 .i64 #[] #[{ key := .int .i64 1, val := .int .i64 r, born := 0 }] 0 1 1 (.int .i64 r) Try.underlying82 Try.underlying3 (by simp) rfl rfl rfl
  have i2 := fun (o : Obj) (r : Int) => KMap.run_insert_at (w.alloc o) (w.heap.size + 1) 82 3 3 .i64 #[{ key := .int .i64 1, val := .int .i64 r, born := 0 }] #[{ key := .int .i64 1, val := .int .i64 r, born := 0 }, { key := .int .i64 2, val := .int .i64 2, born := 1 }] 1 2 2 (.int .i64 2) Try.underlying82 Try.underlying3 (by simp) rfl rfl rfl
  have i3 := fun (o : Obj) (r : Int) => KMap.run_insert_at (w.alloc o) (w.heap.size + 1) 82 3 3 .i64 #[{ key := .int .i64 1, val := .int .i64 r, born := 0 }, { key := .int .i64 2, val := .int .i64 2, born := 1 }] (polMap r) 2 3 3 (.int .i64 1) Try.underlying82 Try.underlying3 (by simp) rfl rfl rfl
  have lk := fun (o : Obj) (r p : Int) => polMap_look ((w.alloc o).alloc (.map (polMap r) 3)) (w.heap.size + 1) r p (by have := heap_alloc_new (w.alloc o) (.map (polMap r) 3); simpa using this)
  by_cases h1 : a1 = 1
  · subst h1
    obtain rfl : 1 = r := by simpa [meansP] using h
    go_enter Try.func21, Try.ntmps21
    go_wp2
    go_ret
    exact ⟨rfl, ((Below.refl _ _).alloc (Nat.le_refl _) _).alloc (by simp) _⟩
  by_cases h2 : a1 = 2
  · subst h2
    obtain rfl : 2 = r := by simpa [meansP] using h
    go_enter Try.func21, Try.ntmps21
    go_wp2
    go_ret
    exact ⟨rfl, ((Below.refl _ _).alloc (Nat.le_refl _) _).alloc (by simp) _⟩
  by_cases h3 : a1 = 3
  · subst h3
    obtain rfl : polP a0_2 3 = r := by simpa [meansP] using h
    go_enter Try.func21, Try.ntmps21
    go_wp2
    go_ret
    exact ⟨rfl, ((Below.refl _ _).alloc (Nat.le_refl _) _).alloc (by simp) _⟩
  by_cases h4 : a1 = 4
  · subst h4
    obtain rfl : polP a0_3 4 = r := by simpa [meansP] using h
    go_enter Try.func21, Try.ntmps21
    go_wp2
    go_ret
    exact ⟨rfl, ((Below.refl _ _).alloc (Nat.le_refl _) _).alloc (by simp) _⟩
  · obtain rfl : 0 = r := by simpa [meansP, h1, h2, h3, h4] using h
    have b1 : (a1 == 1) = false := beq_eq_false_iff_ne.mpr h1
    have b2 : (a1 == 2) = false := beq_eq_false_iff_ne.mpr h2
    have b3 : (a1 == 3) = false := beq_eq_false_iff_ne.mpr h3
    have b4 : (a1 == 4) = false := beq_eq_false_iff_ne.mpr h4
    clear h1 h2 h3 h4
    go_enter Try.func21, Try.ntmps21
    go_wp2
    go_ret
    exact ⟨rfl, (Below.refl _ _).alloc (Nat.le_refl _) _⟩




/-! ### state_Step: function 23 -/
open Go.KState
/-- The step's block. -/
def StepAt (w : World) (b : Nat) (x0 x1 x2 x3 x4 x5 x6 h0 h1 h2 h3 now : Int) : Prop :=
  w.heap[b]? = some (.cells #[.int .i64 x0, .int .i64 x1, .int .i64 x2, .int .i64 x3, .int .i64 x4, .int .i64 x5, .int .i64 x6, .int .i64 h0, .int .i64 h1, .int .i64 h2, .int .i64 h3, .int .i64 now] 85 (0, 0))

theorem StepAt.cells {w : World} {b : Nat} {x0 x1 x2 x3 x4 x5 x6 h0 h1 h2 h3 now : Int} (h : StepAt w b x0 x1 x2 x3 x4 x5 x6 h0 h1 h2 h3 now) :
   w.cell? ⟨b, 0, none⟩ = some (.int .i64 x0) ∧ w.cell? ⟨b, 1, none⟩ = some (.int .i64 x1) ∧ w.cell? ⟨b, 2, none⟩ = some (.int .i64 x2) ∧ w.cell? ⟨b, 3, none⟩ = some (.int .i64 x3) ∧
   w.cell? ⟨b, 7, none⟩ = some (.int .i64 h0) ∧ w.cell? ⟨b, 8, none⟩ = some (.int .i64 h1) ∧ w.cell? ⟨b, 11, none⟩ = some (.int .i64 now) ∧
   w.frozen? ⟨b, 0, none⟩ = false ∧ w.frozen? ⟨b, 1, none⟩ = false ∧ w.frozen? ⟨b, 2, none⟩ = false ∧ w.frozen? ⟨b, 3, none⟩ = false :=
  ⟨blk_cell h 0, blk_cell h 1, blk_cell h 2, blk_cell h 3, blk_cell h 7, blk_cell h 8, blk_cell h 11, blk_frozen h 0, blk_frozen h 1, blk_frozen h 2, blk_frozen h 3⟩

theorem bput {b i : Nat} {w w1 : World} {v : Value} (h : Below b w w1) : Below b w (w1.setCell ⟨b, i, none⟩ v) := h.setCell (Nat.le_refl _) v


set_option maxHeartbeats 400000 in
set_option maxRecDepth 100000 in
theorem to_calls (b : Nat) (x0 x1 x2 x3 x4 x5 x6 h0 h1 h2 h3 now s : Int) (w : World) (hb : StepAt w b x0 x1 x2 x3 x4 x5 x6 h0 h1 h2 h3 now) :
    Calls Try.prog 71 #[.pointer (some ⟨b, 0, none⟩), .int .i64 s] w fun e w' => e = .returned (.tuple #[]) ∧ StepAt w' b s (toS x0 x1 now s) (toF x2 s) (toQ x0 x3 s) x4 x5 x6 h0 h1 h2 h3 now ∧ Below b w w' := by
  obtain ⟨c0, c1, c2, c3, c7, c8, c11, f0, f1, f2, f3⟩ := hb.cells
  have HB : Hid (StepAt w b x0 x1 x2 x3 x4 x5 x6 h0 h1 h2 h3 now) := hb
  clear hb
  by_cases h5 : x0 = s
  · subst h5
    by_cases h67 : x0 = 2 ∨ x0 = 3
    · have e : toS x0 x1 now x0 = x1 ∧ toF x2 x0 = x2 ∧ toQ x0 x3 x0 = x3 := by simp [toS, toF, toQ, h67]
      rw [e.1, e.2.1, e.2.2]; clear e
      rcases h67 with rfl | rfl
      all_goals
        go_enter Try.func71, Try.ntmps71
        go_wp2
        go_end0
        exact ⟨rfl, HB.out, Below.refl _ _⟩
    · have e : toS x0 x1 now x0 = x1 ∧ toF x2 x0 = -1 ∧ toQ x0 x3 x0 = -1 := by simp [toS, toF, toQ, h67]
      rw [e.1, e.2.1, e.2.2]; clear e
      have h6b : (x0 != 2) = true := bne_iff_ne.mpr (by omega)
      have h7b : (x0 != 3) = true := bne_iff_ne.mpr (by omega)
      clear h67
      go_enter Try.func71, Try.ntmps71
      go_wp2
      go_end0
      exact ⟨rfl, by simpa [StepAt] using blk_set (blk_set HB.out 2 _) 3 _, by repeat (first | exact Below.refl _ _ | apply bput)⟩
  · have h5b := bne_iff_ne.mpr h5
    by_cases h67 : s = 2 ∨ s = 3
    · have e : toS x0 x1 now s = now ∧ toF x2 s = x2 ∧ toQ x0 x3 s = -1 := by simp [toS, toF, toQ, h67, h5]
      rw [e.1, e.2.1, e.2.2]; clear e h5
      rcases h67 with rfl | rfl
      all_goals
        go_enter Try.func71, Try.ntmps71
        go_wp2
        all_goals first | (exfalso; simp_all; done) | skip
        go_end0
        exact ⟨rfl, by simpa [StepAt] using blk_set (blk_set (blk_set HB.out 0 _) 1 _) 3 _, by repeat (first | exact Below.refl _ _ | apply bput)⟩
    · have e : toS x0 x1 now s = now ∧ toF x2 s = -1 ∧ toQ x0 x3 s = -1 := by simp [toS, toF, toQ, h67, h5]
      rw [e.1, e.2.1, e.2.2]; clear e h5
      have h6b : (s != 2) = true := bne_iff_ne.mpr (by omega)
      have h7b : (s != 3) = true := bne_iff_ne.mpr (by omega)
      clear h67
      go_enter Try.func71, Try.ntmps71
      go_wp2
      go_end0
      exact ⟨rfl, by simpa [StepAt] using blk_set (blk_set (blk_set (blk_set (blk_set HB.out 0 _) 1 _) 3 _) 2 _) 3 _, by repeat (first | exact Below.refl _ _ | apply bput)⟩

set_option maxHeartbeats 400000 in
set_option maxRecDepth 100000 in
theorem noData_calls (b : Nat) (x0 x1 x2 x3 x4 x5 x6 h0 h1 h2 h3 now : Int) (w : World) (hb : StepAt w b x0 x1 x2 x3 x4 x5 x6 h0 h1 h2 h3 now) :
    Calls Try.prog 55 #[.pointer (some ⟨b, 0, none⟩)] w fun e w' => e = .returned (.tuple #[]) ∧ StepAt w' b 4 (toS x0 x1 now 4) (toF x2 4) (toQ x0 x3 4) x4 x5 x6 h0 h1 h2 h3 now ∧ Below b w w' := by
  go_enter Try.func55, Try.ntmps55
  go_wp2_with (go_at_call 71; refine (to_calls b x0 x1 x2 x3 x4 x5 x6 h0 h1 h2 h3 now 4 _ hb).mono ?_; rintro e w' ⟨rfl, h1, h2⟩)
  go_end0
  exact ⟨rfl, h1, h2⟩

set_option maxHeartbeats 400000 in
set_option maxRecDepth 100000 in
theorem fails_calls (b : Nat) (x0 x1 x2 x3 x4 x5 x6 h0 h1 h2 h3 now : Int) (w : World) (hb : StepAt w b x0 x1 x2 x3 x4 x5 x6 h0 h1 h2 h3 now) :
    Calls Try.prog 56 #[.pointer (some ⟨b, 0, none⟩)] w fun e w' => e = .returned (.tuple #[]) ∧ StepAt w' b 5 (toS x0 x1 now 5) (toF x2 5) (toQ x0 x3 5) x4 x5 x6 h0 h1 h2 h3 now ∧ Below b w w' := by
  go_enter Try.func56, Try.ntmps56
  go_wp2_with (go_at_call 71; refine (to_calls b x0 x1 x2 x3 x4 x5 x6 h0 h1 h2 h3 now 5 _ hb).mono ?_; rintro e w' ⟨rfl, h1, h2⟩)
  go_end0
  exact ⟨rfl, h1, h2⟩





set_option maxHeartbeats 400000 in
set_option maxRecDepth 100000 in
theorem alert_calls (b : Nat) (x0 x1 x2 x3 x4 x5 x6 h0 h1 h2 h3 now : Int) (w : World) (hb : StepAt w b x0 x1 x2 x3 x4 x5 x6 h0 h1 h2 h3 now) (r : Int × Int × Int × Int) (hr : alertP h0 now x0 x1 x2 x3 = r) :
    Calls Try.prog 53 #[.pointer (some ⟨b, 0, none⟩)] w fun e w' => e = .returned (.tuple #[]) ∧ StepAt w' b r.1 r.2.1 r.2.2.1 r.2.2.2 x4 x5 x6 h0 h1 h2 h3 now ∧ Below b w w' := by
  obtain ⟨c0, c1, c2, c3, c7, c8, c11, f0, f1, f2, f3⟩ := hb.cells
  have HB : Hid (StepAt w b x0 x1 x2 x3 x4 x5 x6 h0 h1 h2 h3 now) := hb
  clear hb
  by_cases h5 : x0 = 3
  · subst h5
    simp [alertP] at hr
    subst hr
    go_enter Try.func53, Try.ntmps53
    go_wp2
    refine bodyPost_ret (results_none rfl _ _ _) rfl ?_
    exact ⟨rfl, by simpa [StepAt] using blk_set HB.out 3 _, by repeat (first | exact Below.refl _ _ | apply bput)⟩
  · have h5b : (x0 == 3) = false := beq_eq_false_iff_ne.mpr h5
    by_cases h6 : x0 = 2
    · subst h6
      by_cases h7 : h0 ≤ wrap64 (now - x2)
      all_goals
        simp [alertP, h7] at hr
        subst hr
        clear h5
      · go_enter Try.func53, Try.ntmps53
        go_wp2_with fail
        go_quiet (fail)
        go_wp2_with (go_at_call 71; refine (to_calls b 2 x1 x2 x3 x4 x5 x6 h0 h1 h2 h3 now 3 _ (by exact HB.out)).mono ?_; rintro e w1 ⟨rfl, g1, g2⟩)
        go_end0
        exact ⟨rfl, g1, ⟨g2.os, g2.tape, g2.output, g2.size, g2.block⟩⟩
      · go_enter Try.func53, Try.ntmps53
        go_wp2_with fail
        go_quiet (fail)
        go_wp2_with (go_at_call 71; refine (to_calls b 2 x1 x2 x3 x4 x5 x6 h0 h1 h2 h3 now 2 _ (by exact HB.out)).mono ?_; rintro e w1 ⟨rfl, g1, g2⟩)
        go_end0
        exact ⟨rfl, g1, ⟨g2.os, g2.tape, g2.output, g2.size, g2.block⟩⟩
    · have h6b : (x0 == 2) = false := beq_eq_false_iff_ne.mpr h6
      have HB2 : ∀ v : World, v.heap = (w.setCell ⟨b, 2, none⟩ (.int .i64 now)).heap → StepAt v b x0 x1 now x3 x4 x5 x6 h0 h1 h2 h3 now := fun v hv => by
        have := blk_set HB.out 2 (.int .i64 now)
        rw [← hv] at this
        simpa [StepAt] using this
      have HB3 := Aside0.mk HB2
      clear HB2
      by_cases h7 : h0 ≤ 0
      all_goals
        simp [alertP, h5, h6, h7, wrap_zero] at hr
        subst hr
        clear h5 h6
      · go_enter Try.func53, Try.ntmps53
        go_wp2_with fail
        go_quiet (fail)
        go_wp2_with (go_at_call 71; refine (to_calls b x0 x1 now x3 x4 x5 x6 h0 h1 h2 h3 now 3 _ (by exact HB3.out _ rfl)).mono ?_; rintro e w1 ⟨rfl, g1, g2⟩)
        go_end0
        exact ⟨rfl, g1, (by repeat (first | exact Below.refl _ _ | apply bput | apply pw_below_drewN) : Below b w _).trans g2⟩
      · go_enter Try.func53, Try.ntmps53
        go_wp2_with fail
        go_quiet (fail)
        go_wp2_with (go_at_call 71; refine (to_calls b x0 x1 now x3 x4 x5 x6 h0 h1 h2 h3 now 2 _ (by exact HB3.out _ rfl)).mono ?_; rintro e w1 ⟨rfl, g1, g2⟩)
        go_end0
        exact ⟨rfl, g1, (by repeat (first | exact Below.refl _ _ | apply bput | apply pw_below_drewN) : Below b w _).trans g2⟩

set_option maxHeartbeats 400000 in
set_option maxRecDepth 100000 in
theorem normal_calls (b : Nat) (x0 x1 x2 x3 x4 x5 x6 h0 h1 h2 h3 now : Int) (w : World) (hb : StepAt w b x0 x1 x2 x3 x4 x5 x6 h0 h1 h2 h3 now) (r : Int × Int × Int × Int) (hr : normalP h1 now x0 x1 x2 x3 = r) :
    Calls Try.prog 54 #[.pointer (some ⟨b, 0, none⟩)] w fun e w' => e = .returned (.tuple #[]) ∧ StepAt w' b r.1 r.2.1 r.2.2.1 r.2.2.2 x4 x5 x6 h0 h1 h2 h3 now ∧ Below b w w' := by
  obtain ⟨c0, c1, c2, c3, c7, c8, c11, f0, f1, f2, f3⟩ := hb.cells
  have HB : Hid (StepAt w b x0 x1 x2 x3 x4 x5 x6 h0 h1 h2 h3 now) := hb
  clear hb
  by_cases h5 : x0 = 3
  · subst h5
    by_cases h6 : 0 < h1
    · by_cases h7 : x3 = -1
      · subst h7
        have HB2 : ∀ v : World, v.heap = (w.setCell ⟨b, 3, none⟩ (.int .i64 now)).heap → StepAt v b 3 x1 x2 now x4 x5 x6 h0 h1 h2 h3 now := fun v hv => by
          have := blk_set HB.out 3 (.int .i64 now)
          rw [← hv] at this
          simpa [StepAt] using this
        have HB3 := Aside0.mk HB2
        clear HB2
        simp [normalP, h6, wrap_zero] at hr
        subst hr
        go_enter Try.func54, Try.ntmps54
        go_wp2_with fail
        go_quiet (fail)
        go_wp2
        refine bodyPost_ret (results_none rfl _ _ _) rfl ?_
        exact ⟨rfl, HB3.out _ rfl, by repeat (first | exact Below.refl _ _ | apply bput | apply pw_below_drewN)⟩
      · have h7b : (x3 == -1) = false := beq_eq_false_iff_ne.mpr h7
        by_cases h8 : wrap64 (now - x3) < h1
        all_goals
          simp [normalP, h6, h7, h8] at hr
          subst hr
          clear h7
        · go_enter Try.func54, Try.ntmps54
          go_wp2_with fail
          go_quiet (fail)
          go_wp2
          refine bodyPost_ret (results_none rfl _ _ _) rfl ?_
          exact ⟨rfl, HB.out, by repeat (first | exact Below.refl _ _ | apply bput | apply pw_below_drewN)⟩
        · go_enter Try.func54, Try.ntmps54
          go_wp2_with fail
          go_quiet (fail)
          go_wp2_with (go_at_call 71; refine (to_calls b 3 x1 x2 x3 x4 x5 x6 h0 h1 h2 h3 now 1 _ (by exact HB.out)).mono ?_; rintro e w1 ⟨rfl, g1, g2⟩)
          go_end0
          exact ⟨rfl, g1, (by repeat (first | exact Below.refl _ _ | apply bput | apply pw_below_drewN) : Below b w _).trans g2⟩
    · simp [normalP, h6] at hr
      subst hr
      go_enter Try.func54, Try.ntmps54
      go_wp2_with (go_at_call 71; refine (to_calls b 3 x1 x2 x3 x4 x5 x6 h0 h1 h2 h3 now 1 _ (by exact HB.out)).mono ?_; rintro e w1 ⟨rfl, g1, g2⟩)
      go_end0
      exact ⟨rfl, g1, g2⟩
  · have h5b : (x0 == 3) = false := beq_eq_false_iff_ne.mpr h5
    simp [normalP, h5] at hr
    subst hr
    clear h5
    go_enter Try.func54, Try.ntmps54
    go_wp2_with (go_at_call 71; refine (to_calls b x0 x1 x2 x3 x4 x5 x6 h0 h1 h2 h3 now 1 _ (by exact HB.out)).mono ?_; rintro e w1 ⟨rfl, g1, g2⟩)
    go_end0
    exact ⟨rfl, g1, g2⟩
def state_Step.f (a0_0 a0_1 a0_2 a0_3 a0_4 a0_5 a0_6 a1_0 a1_1 a1_2 a1_3 a2 a3_0 a3_1 a4 : Int) : Option (Int × Int × Int × Int × Int × Int × Int) :=
  some ((stepP a1_0 a1_1 (meansP a1_2 a1_3 a2) a4 a0_0 a0_1 a0_2 a0_3).1, (stepP a1_0 a1_1 (meansP a1_2 a1_3 a2) a4 a0_0 a0_1 a0_2 a0_3).2.1, (stepP a1_0 a1_1 (meansP a1_2 a1_3 a2) a4 a0_0 a0_1 a0_2 a0_3).2.2.1, (stepP a1_0 a1_1 (meansP a1_2 a1_3 a2) a4 a0_0 a0_1 a0_2 a0_3).2.2.2, a4, a3_0, a3_1)

/-- The literal map of methods. -/
def doMap : Array MapEntry := #[{ key := .int .i64 2, val := .func (.func 53) #[] #[], born := 0 }, { key := .int .i64 1, val := .func (.func 54) #[] #[], born := 1 }, { key := .int .i64 3, val := .func (.func 55) #[] #[], born := 2 }, { key := .int .i64 4, val := .func (.func 56) #[] #[], born := 3 }]
theorem zero86 (w : World) : (zeroValue 86).run Try.prog w = .ok .nilFunc w := by kernel_rfl
theorem doMap_none (W : World) (b : Nat) (m : Int) (hb : W.heap[b]? = some (.map doMap 4)) (h1 : ¬ m = 1) (h2 : ¬ m = 2) (h3 : ¬ m = 3) (h4 : ¬ m = 4) : (Instr.lookup 87 (.map (some b)) (.int .i64 m) false).run Try.prog W = .ok .nilFunc W :=
  KMap.run_lookup_none W 87 3 86 .i64 b _ 4 m _ Try.underlying87 Try.underlying3 hb (zero86 _) (by simp [doMap, Instr.findNow, Instr.sameNow, beq_eq_false_iff_ne.mpr h1, beq_eq_false_iff_ne.mpr h2, beq_eq_false_iff_ne.mpr h3, beq_eq_false_iff_ne.mpr h4])

theorem StepAt.cells7 {w : World} {b : Nat} {x0 x1 x2 x3 x4 x5 x6 h0 h1 h2 h3 now : Int} (h : StepAt w b x0 x1 x2 x3 x4 x5 x6 h0 h1 h2 h3 now) :
   w.cell? ⟨b, 0, none⟩ = some (.int .i64 x0) ∧ w.cell? ⟨b, 1, none⟩ = some (.int .i64 x1) ∧ w.cell? ⟨b, 2, none⟩ = some (.int .i64 x2) ∧ w.cell? ⟨b, 3, none⟩ = some (.int .i64 x3) ∧
   w.cell? ⟨b, 4, none⟩ = some (.int .i64 x4) ∧ w.cell? ⟨b, 5, none⟩ = some (.int .i64 x5) ∧ w.cell? ⟨b, 6, none⟩ = some (.int .i64 x6) :=
  ⟨blk_cell h 0, blk_cell h 1, blk_cell h 2, blk_cell h 3, blk_cell h 4, blk_cell h 5, blk_cell h 6⟩
/-- The result's block, still zero. -/
def ResZ (w : World) (b : Nat) : Prop := w.heap[b]? = some (.cells #[.int .i64 0, .int .i64 0, .int .i64 0, .int .i64 0, .int .i64 0, .int .i64 0, .int .i64 0] 25 (0, 0))
theorem ResZ.cells {w : World} {b : Nat} (h : ResZ w b) : (w.cell? ⟨b, 0, none⟩ = some (.int .i64 0) ∧ w.cell? ⟨b, 1, none⟩ = some (.int .i64 0) ∧ w.cell? ⟨b, 2, none⟩ = some (.int .i64 0) ∧ w.cell? ⟨b, 3, none⟩ = some (.int .i64 0) ∧ w.cell? ⟨b, 4, none⟩ = some (.int .i64 0) ∧ w.cell? ⟨b, 5, none⟩ = some (.int .i64 0) ∧ w.cell? ⟨b, 6, none⟩ = some (.int .i64 0)) ∧
    (w.frozen? ⟨b, 0, none⟩ = false ∧ w.frozen? ⟨b, 1, none⟩ = false ∧ w.frozen? ⟨b, 2, none⟩ = false ∧ w.frozen? ⟨b, 3, none⟩ = false ∧ w.frozen? ⟨b, 4, none⟩ = false ∧ w.frozen? ⟨b, 5, none⟩ = false ∧ w.frozen? ⟨b, 6, none⟩ = false) :=
  ⟨⟨blk_cell h 0, blk_cell h 1, blk_cell h 2, blk_cell h 3, blk_cell h 4, blk_cell h 5, blk_cell h 6⟩, ⟨blk_frozen h 0, blk_frozen h 1, blk_frozen h 2, blk_frozen h 3, blk_frozen h 4, blk_frozen h 5, blk_frozen h 6⟩⟩

theorem doMap_hit (W : World) (b : Nat) (hb : W.heap[b]? = some (.map doMap 4)) : (Instr.lookup 87 (.map (some b)) (.int .i64 2) false).run Try.prog W = .ok (.func (.func 53) #[] #[]) W ∧ (Instr.lookup 87 (.map (some b)) (.int .i64 1) false).run Try.prog W = .ok (.func (.func 54) #[] #[]) W ∧
    (Instr.lookup 87 (.map (some b)) (.int .i64 3) false).run Try.prog W = .ok (.func (.func 55) #[] #[]) W ∧ (Instr.lookup 87 (.map (some b)) (.int .i64 4) false).run Try.prog W = .ok (.func (.func 56) #[] #[]) W :=
  ⟨KMap.run_lookup_at W 87 3 86 .i64 b _ 4 2 0 _ Try.underlying87 Try.underlying3 hb rfl, KMap.run_lookup_at W 87 3 86 .i64 b _ 4 1 1 _ Try.underlying87 Try.underlying3 hb rfl, KMap.run_lookup_at W 87 3 86 .i64 b _ 4 3 2 _ Try.underlying87 Try.underlying3 hb rfl, KMap.run_lookup_at W 87 3 86 .i64 b _ 4 4 3 _ Try.underlying87 Try.underlying3 hb rfl⟩

theorem six_blocks (w : World) (o1 o2 o3 o4 o5 o6 : Obj) : (((((((w.alloc o1).alloc o2).alloc o3).alloc o4).alloc o5).alloc o6).drew).heap[w.heap.size + 1 + 1 + 1]? = some o4 ∧ (((((((w.alloc o1).alloc o2).alloc o3).alloc o4).alloc o5).alloc o6).drew).heap[w.heap.size + 1 + 1 + 1 + 1]? = some o5 ∧
    (((((((w.alloc o1).alloc o2).alloc o3).alloc o4).alloc o5).alloc o6).drew).heap[w.heap.size + 1 + 1 + 1 + 1 + 1]? = some o6 := by
  have a := heap_alloc_new (((w.alloc o1).alloc o2).alloc o3) o4
  have b := heap_alloc_new ((((w.alloc o1).alloc o2).alloc o3).alloc o4) o5
  have c := heap_alloc_new (((((w.alloc o1).alloc o2).alloc o3).alloc o4).alloc o5) o6
  simp only [World.size_alloc] at a b c
  exact ⟨blk_drew (blk_alloc (blk_alloc a _) _), blk_drew (blk_alloc b _), blk_drew c⟩

/-- What Means leaves as it was: the map, the step, the result's block. -/
theorem after_means {W w1 : World} {B : Nat} {x0 x1 x2 x3 x4 x5 x6 h0 h1 h2 h3 now : Int} (hb : Below W.heap.size W w1)
    (hs : StepAt W (B + 1 + 1 + 1 + 1) x0 x1 x2 x3 x4 x5 x6 h0 h1 h2 h3 now) (hz : ResZ W (B + 1 + 1 + 1)) (hm : W.heap[B + 1 + 1 + 1 + 1 + 1]? = some (.map doMap 4)) :
    StepAt w1 (B + 1 + 1 + 1 + 1) x0 x1 x2 x3 x4 x5 x6 h0 h1 h2 h3 now ∧ ResZ w1 (B + 1 + 1 + 1) ∧ w1.heap[B + 1 + 1 + 1 + 1 + 1]? = some (.map doMap 4) :=
  ⟨(hb.block _ (blk_lt hs)).trans hs, (hb.block _ (blk_lt hz)).trans hz, (hb.block _ (blk_lt hm)).trans hm⟩

theorem neq_func (i : Nat) (w : World) : (binOp .neq 86 (.func (.func i) #[] #[]) .nilFunc).run Try.prog w = .ok (.bool true) w := by kernel_rfl
theorem neq_nil (w : World) : (binOp .neq 86 .nilFunc .nilFunc).run Try.prog w = .ok (.bool false) w := by kernel_rfl

theorem bput7 {B b : Nat} {w w1 : World} {v0 v1 v2 v3 v4 v5 v6 : Value} (hb : B ≤ b) (h : Below B w w1) : Below B w (((((((w1.setCell ⟨b, 0, none⟩ v0).setCell ⟨b, 1, none⟩ v1).setCell ⟨b, 2, none⟩ v2).setCell ⟨b, 3, none⟩ v3).setCell ⟨b, 4, none⟩ v4).setCell ⟨b, 5, none⟩ v5).setCell ⟨b, 6, none⟩ v6) :=
  ((((((h.setCell hb v0).setCell hb v1).setCell hb v2).setCell hb v3).setCell hb v4).setCell hb v5).setCell hb v6

set_option maxHeartbeats 400000 in
set_option maxRecDepth 100000 in
theorem step_calls2 (x0 x1 x2 x3 x4 x5 x6 h0 h1 h2 h3 a2 v0 v1 a4 m : Int) (hm : meansP h2 h3 a2 = m) (w : World) (hmv : m = 2) (r : Int × Int × Int × Int) (hr : stepP h0 h1 m a4 x0 x1 x2 x3 = r) :
    Calls Try.prog 23 #[.agg #[.int .i64 x0, .int .i64 x1, .int .i64 x2, .int .i64 x3, .int .i64 x4, .int .i64 x5, .int .i64 x6], .agg #[.int .i64 h0, .int .i64 h1, .int .i64 h2, .int .i64 h3], .int .i64 a2, .agg #[.int .i64 v0, .int .i64 v1], .int .i64 a4] w fun e w' =>
      e = .returned (.agg #[.int .i64 r.1, .int .i64 r.2.1, .int .i64 r.2.2.1, .int .i64 r.2.2.2, .int .i64 a4, .int .i64 v0, .int .i64 v1]) ∧ Below w.heap.size w w' := by
  have hmm := @run_makeMap Try.prog
  have nf := neq_func
  have nn := neq_nil
  have i1 := fun (o1 o2 o3 o4 o5 : Obj) => KMap.run_insert_at (((((w.alloc o1).alloc o2).alloc o3).alloc o4).alloc o5).drew (w.heap.size + 1 + 1 + 1 + 1 + 1) 87 3 86 .i64 #[] #[{ key := .int .i64 2, val := .func (.func 53) #[] #[], born := 0 }] 0 1 2 (.func (.func 53) #[] #[]) Try.underlying87 Try.underlying3 (by simp) rfl rfl rfl
  have i2 := fun (o1 o2 o3 o4 o5 : Obj) => KMap.run_insert_at (((((w.alloc o1).alloc o2).alloc o3).alloc o4).alloc o5).drew (w.heap.size + 1 + 1 + 1 + 1 + 1) 87 3 86 .i64 #[{ key := .int .i64 2, val := .func (.func 53) #[] #[], born := 0 }] #[{ key := .int .i64 2, val := .func (.func 53) #[] #[], born := 0 }, { key := .int .i64 1, val := .func (.func 54) #[] #[], born := 1 }] 1 2 1 (.func (.func 54) #[] #[]) Try.underlying87 Try.underlying3 (by simp) rfl rfl rfl
  have i3 := fun (o1 o2 o3 o4 o5 : Obj) => KMap.run_insert_at (((((w.alloc o1).alloc o2).alloc o3).alloc o4).alloc o5).drew (w.heap.size + 1 + 1 + 1 + 1 + 1) 87 3 86 .i64 #[{ key := .int .i64 2, val := .func (.func 53) #[] #[], born := 0 }, { key := .int .i64 1, val := .func (.func 54) #[] #[], born := 1 }] #[{ key := .int .i64 2, val := .func (.func 53) #[] #[], born := 0 }, { key := .int .i64 1, val := .func (.func 54) #[] #[], born := 1 }, { key := .int .i64 3, val := .func (.func 55) #[] #[], born := 2 }] 2 3 3 (.func (.func 55) #[] #[]) Try.underlying87 Try.underlying3 (by simp) rfl rfl rfl
  have i4 := fun (o1 o2 o3 o4 o5 : Obj) => KMap.run_insert_at (((((w.alloc o1).alloc o2).alloc o3).alloc o4).alloc o5).drew (w.heap.size + 1 + 1 + 1 + 1 + 1) 87 3 86 .i64 #[{ key := .int .i64 2, val := .func (.func 53) #[] #[], born := 0 }, { key := .int .i64 1, val := .func (.func 54) #[] #[], born := 1 }, { key := .int .i64 3, val := .func (.func 55) #[] #[], born := 2 }] doMap 3 4 4 (.func (.func 56) #[] #[]) Try.underlying87 Try.underlying3 (by simp) rfl rfl rfl
  simp only [World.alloc_drew] at i1 i2 i3 i4
  subst hmv
  have HM := Aside0.mk hm
  clear hm
  have HQ := Aside0.mk (show alertP h0 a4 x0 x1 x2 x3 = r by simpa [stepP] using hr)
  clear hr
  go_enter Try.func23, Try.ntmps23
  go_wp2_with fail
  go_region
  go_wp2_with (first | (go_at_call 21; refine (state_Means.calls h0 h1 h2 h3 a2 2 _ (by rw [state_Means.f, HM.out])).mono ?_; rintro e w1 ⟨rfl, hb⟩; obtain ⟨q4, q5, q6⟩ := six_blocks w _ _ _ _ _ _; obtain ⟨hs, hz, hM⟩ := after_means hb q5 q4 q6; have hB1 : Below w.heap.size w w1 := (by repeat (first | (with_reducible exact Below.refl _ _) | apply below_drew1 | apply below_alloc) : Below w.heap.size w _).trans (hb.mono (by simp; omega)); have lk := (doMap_hit w1 _ hM).1; have HS := Aside0.mk hs; have HZ := Aside0.mk hz; have HB1 := Aside0.mk hB1; clear hb q4 q5 q6 hs hz hM hB1 i1 i2 i3 i4) | (go_at_call 53; refine (alert_calls (w.heap.size + 1 + 1 + 1 + 1) x0 x1 x2 x3 a4 v0 v1 h0 h1 h2 h3 a4 _ (by exact HS.out) r HQ.out).mono ?_; rintro e w2 ⟨rfl, g1, g2⟩; have hz2 : ResZ w2 (w.heap.size + 1 + 1 + 1) := (g2.block _ (Nat.lt_succ_self _)).trans HZ.out; obtain ⟨⟨z0, z1, z2, z3, z4, z5, z6⟩, ⟨f0, f1, f2, f3, f4, f5, f6⟩⟩ := hz2.cells; obtain ⟨k0, k1, k2, k3, k4, k5, k6⟩ := g1.cells7; have HB2 := Aside0.mk (HB1.out.trans (g2.mono (by omega))); have HZ2 := Aside0.mk hz2; clear hz2 g1 g2 lk HS HZ HB1))
  refine bodyPost_ret (results_cell_row rfl _ _ (w.heap.size + 1 + 1 + 1) 25 #[.int .i64 r.1, .int .i64 r.2.1, .int .i64 r.2.2.1, .int .i64 r.2.2.2, .int .i64 a4, .int .i64 v0, .int .i64 v1] (0, 0) _ rfl (by simpa using blk_set (blk_set (blk_set (blk_set (blk_set (blk_set (blk_set HZ2.out 0 _) 1 _) 2 _) 3 _) 4 _) 5 _) 6 _) Try.underlying25 rfl (by kernel_rfl)) rfl ?_
  exact ⟨rfl, bput7 (by omega) HB2.out⟩

set_option maxHeartbeats 400000 in
set_option maxRecDepth 100000 in
theorem step_calls1 (x0 x1 x2 x3 x4 x5 x6 h0 h1 h2 h3 a2 v0 v1 a4 m : Int) (hm : meansP h2 h3 a2 = m) (w : World) (hmv : m = 1) (r : Int × Int × Int × Int) (hr : stepP h0 h1 m a4 x0 x1 x2 x3 = r) :
    Calls Try.prog 23 #[.agg #[.int .i64 x0, .int .i64 x1, .int .i64 x2, .int .i64 x3, .int .i64 x4, .int .i64 x5, .int .i64 x6], .agg #[.int .i64 h0, .int .i64 h1, .int .i64 h2, .int .i64 h3], .int .i64 a2, .agg #[.int .i64 v0, .int .i64 v1], .int .i64 a4] w fun e w' =>
      e = .returned (.agg #[.int .i64 r.1, .int .i64 r.2.1, .int .i64 r.2.2.1, .int .i64 r.2.2.2, .int .i64 a4, .int .i64 v0, .int .i64 v1]) ∧ Below w.heap.size w w' := by
  have hmm := @run_makeMap Try.prog
  have nf := neq_func
  have nn := neq_nil
  have i1 := fun (o1 o2 o3 o4 o5 : Obj) => KMap.run_insert_at (((((w.alloc o1).alloc o2).alloc o3).alloc o4).alloc o5).drew (w.heap.size + 1 + 1 + 1 + 1 + 1) 87 3 86 .i64 #[] #[{ key := .int .i64 2, val := .func (.func 53) #[] #[], born := 0 }] 0 1 2 (.func (.func 53) #[] #[]) Try.underlying87 Try.underlying3 (by simp) rfl rfl rfl
  have i2 := fun (o1 o2 o3 o4 o5 : Obj) => KMap.run_insert_at (((((w.alloc o1).alloc o2).alloc o3).alloc o4).alloc o5).drew (w.heap.size + 1 + 1 + 1 + 1 + 1) 87 3 86 .i64 #[{ key := .int .i64 2, val := .func (.func 53) #[] #[], born := 0 }] #[{ key := .int .i64 2, val := .func (.func 53) #[] #[], born := 0 }, { key := .int .i64 1, val := .func (.func 54) #[] #[], born := 1 }] 1 2 1 (.func (.func 54) #[] #[]) Try.underlying87 Try.underlying3 (by simp) rfl rfl rfl
  have i3 := fun (o1 o2 o3 o4 o5 : Obj) => KMap.run_insert_at (((((w.alloc o1).alloc o2).alloc o3).alloc o4).alloc o5).drew (w.heap.size + 1 + 1 + 1 + 1 + 1) 87 3 86 .i64 #[{ key := .int .i64 2, val := .func (.func 53) #[] #[], born := 0 }, { key := .int .i64 1, val := .func (.func 54) #[] #[], born := 1 }] #[{ key := .int .i64 2, val := .func (.func 53) #[] #[], born := 0 }, { key := .int .i64 1, val := .func (.func 54) #[] #[], born := 1 }, { key := .int .i64 3, val := .func (.func 55) #[] #[], born := 2 }] 2 3 3 (.func (.func 55) #[] #[]) Try.underlying87 Try.underlying3 (by simp) rfl rfl rfl
  have i4 := fun (o1 o2 o3 o4 o5 : Obj) => KMap.run_insert_at (((((w.alloc o1).alloc o2).alloc o3).alloc o4).alloc o5).drew (w.heap.size + 1 + 1 + 1 + 1 + 1) 87 3 86 .i64 #[{ key := .int .i64 2, val := .func (.func 53) #[] #[], born := 0 }, { key := .int .i64 1, val := .func (.func 54) #[] #[], born := 1 }, { key := .int .i64 3, val := .func (.func 55) #[] #[], born := 2 }] doMap 3 4 4 (.func (.func 56) #[] #[]) Try.underlying87 Try.underlying3 (by simp) rfl rfl rfl
  simp only [World.alloc_drew] at i1 i2 i3 i4
  subst hmv
  have HM := Aside0.mk hm
  clear hm
  have HQ := Aside0.mk (show normalP h1 a4 x0 x1 x2 x3 = r by simpa [stepP] using hr)
  clear hr
  go_enter Try.func23, Try.ntmps23
  go_wp2_with fail
  go_region
  go_wp2_with (first | (go_at_call 21; refine (state_Means.calls h0 h1 h2 h3 a2 1 _ (by rw [state_Means.f, HM.out])).mono ?_; rintro e w1 ⟨rfl, hb⟩; obtain ⟨q4, q5, q6⟩ := six_blocks w _ _ _ _ _ _; obtain ⟨hs, hz, hM⟩ := after_means hb q5 q4 q6; have hB1 : Below w.heap.size w w1 := (by repeat (first | (with_reducible exact Below.refl _ _) | apply below_drew1 | apply below_alloc) : Below w.heap.size w _).trans (hb.mono (by simp; omega)); have lk := (doMap_hit w1 _ hM).2.1; have HS := Aside0.mk hs; have HZ := Aside0.mk hz; have HB1 := Aside0.mk hB1; clear hb q4 q5 q6 hs hz hM hB1 i1 i2 i3 i4) | (go_at_call 54; refine (normal_calls (w.heap.size + 1 + 1 + 1 + 1) x0 x1 x2 x3 a4 v0 v1 h0 h1 h2 h3 a4 _ (by exact HS.out) r HQ.out).mono ?_; rintro e w2 ⟨rfl, g1, g2⟩; have hz2 : ResZ w2 (w.heap.size + 1 + 1 + 1) := (g2.block _ (Nat.lt_succ_self _)).trans HZ.out; obtain ⟨⟨z0, z1, z2, z3, z4, z5, z6⟩, ⟨f0, f1, f2, f3, f4, f5, f6⟩⟩ := hz2.cells; obtain ⟨k0, k1, k2, k3, k4, k5, k6⟩ := g1.cells7; have HB2 := Aside0.mk (HB1.out.trans (g2.mono (by omega))); have HZ2 := Aside0.mk hz2; clear hz2 g1 g2 lk HS HZ HB1))
  refine bodyPost_ret (results_cell_row rfl _ _ (w.heap.size + 1 + 1 + 1) 25 #[.int .i64 r.1, .int .i64 r.2.1, .int .i64 r.2.2.1, .int .i64 r.2.2.2, .int .i64 a4, .int .i64 v0, .int .i64 v1] (0, 0) _ rfl (by simpa using blk_set (blk_set (blk_set (blk_set (blk_set (blk_set (blk_set HZ2.out 0 _) 1 _) 2 _) 3 _) 4 _) 5 _) 6 _) Try.underlying25 rfl (by kernel_rfl)) rfl ?_
  exact ⟨rfl, bput7 (by omega) HB2.out⟩

set_option maxHeartbeats 400000 in
set_option maxRecDepth 100000 in
theorem step_calls3 (x0 x1 x2 x3 x4 x5 x6 h0 h1 h2 h3 a2 v0 v1 a4 m : Int) (hm : meansP h2 h3 a2 = m) (w : World) (hmv : m = 3) (r : Int × Int × Int × Int) (hr : stepP h0 h1 m a4 x0 x1 x2 x3 = r) :
    Calls Try.prog 23 #[.agg #[.int .i64 x0, .int .i64 x1, .int .i64 x2, .int .i64 x3, .int .i64 x4, .int .i64 x5, .int .i64 x6], .agg #[.int .i64 h0, .int .i64 h1, .int .i64 h2, .int .i64 h3], .int .i64 a2, .agg #[.int .i64 v0, .int .i64 v1], .int .i64 a4] w fun e w' =>
      e = .returned (.agg #[.int .i64 r.1, .int .i64 r.2.1, .int .i64 r.2.2.1, .int .i64 r.2.2.2, .int .i64 a4, .int .i64 v0, .int .i64 v1]) ∧ Below w.heap.size w w' := by
  have hmm := @run_makeMap Try.prog
  have nf := neq_func
  have nn := neq_nil
  have i1 := fun (o1 o2 o3 o4 o5 : Obj) => KMap.run_insert_at (((((w.alloc o1).alloc o2).alloc o3).alloc o4).alloc o5).drew (w.heap.size + 1 + 1 + 1 + 1 + 1) 87 3 86 .i64 #[] #[{ key := .int .i64 2, val := .func (.func 53) #[] #[], born := 0 }] 0 1 2 (.func (.func 53) #[] #[]) Try.underlying87 Try.underlying3 (by simp) rfl rfl rfl
  have i2 := fun (o1 o2 o3 o4 o5 : Obj) => KMap.run_insert_at (((((w.alloc o1).alloc o2).alloc o3).alloc o4).alloc o5).drew (w.heap.size + 1 + 1 + 1 + 1 + 1) 87 3 86 .i64 #[{ key := .int .i64 2, val := .func (.func 53) #[] #[], born := 0 }] #[{ key := .int .i64 2, val := .func (.func 53) #[] #[], born := 0 }, { key := .int .i64 1, val := .func (.func 54) #[] #[], born := 1 }] 1 2 1 (.func (.func 54) #[] #[]) Try.underlying87 Try.underlying3 (by simp) rfl rfl rfl
  have i3 := fun (o1 o2 o3 o4 o5 : Obj) => KMap.run_insert_at (((((w.alloc o1).alloc o2).alloc o3).alloc o4).alloc o5).drew (w.heap.size + 1 + 1 + 1 + 1 + 1) 87 3 86 .i64 #[{ key := .int .i64 2, val := .func (.func 53) #[] #[], born := 0 }, { key := .int .i64 1, val := .func (.func 54) #[] #[], born := 1 }] #[{ key := .int .i64 2, val := .func (.func 53) #[] #[], born := 0 }, { key := .int .i64 1, val := .func (.func 54) #[] #[], born := 1 }, { key := .int .i64 3, val := .func (.func 55) #[] #[], born := 2 }] 2 3 3 (.func (.func 55) #[] #[]) Try.underlying87 Try.underlying3 (by simp) rfl rfl rfl
  have i4 := fun (o1 o2 o3 o4 o5 : Obj) => KMap.run_insert_at (((((w.alloc o1).alloc o2).alloc o3).alloc o4).alloc o5).drew (w.heap.size + 1 + 1 + 1 + 1 + 1) 87 3 86 .i64 #[{ key := .int .i64 2, val := .func (.func 53) #[] #[], born := 0 }, { key := .int .i64 1, val := .func (.func 54) #[] #[], born := 1 }, { key := .int .i64 3, val := .func (.func 55) #[] #[], born := 2 }] doMap 3 4 4 (.func (.func 56) #[] #[]) Try.underlying87 Try.underlying3 (by simp) rfl rfl rfl
  simp only [World.alloc_drew] at i1 i2 i3 i4
  subst hmv
  have HM := Aside0.mk hm
  clear hm
  have hr' : (4, toS x0 x1 a4 4, toF x2 4, toQ x0 x3 4) = r := by simpa [stepP] using hr
  subst hr'
  clear hr
  go_enter Try.func23, Try.ntmps23
  go_wp2_with fail
  go_region
  go_wp2_with (first | (go_at_call 21; refine (state_Means.calls h0 h1 h2 h3 a2 3 _ (by rw [state_Means.f, HM.out])).mono ?_; rintro e w1 ⟨rfl, hb⟩; obtain ⟨q4, q5, q6⟩ := six_blocks w _ _ _ _ _ _; obtain ⟨hs, hz, hM⟩ := after_means hb q5 q4 q6; have hB1 : Below w.heap.size w w1 := (by repeat (first | (with_reducible exact Below.refl _ _) | apply below_drew1 | apply below_alloc) : Below w.heap.size w _).trans (hb.mono (by simp; omega)); have lk := (doMap_hit w1 _ hM).2.2.1; have HS := Aside0.mk hs; have HZ := Aside0.mk hz; have HB1 := Aside0.mk hB1; clear hb q4 q5 q6 hs hz hM hB1 i1 i2 i3 i4) | (go_at_call 55; refine (noData_calls (w.heap.size + 1 + 1 + 1 + 1) x0 x1 x2 x3 a4 v0 v1 h0 h1 h2 h3 a4 _ (by exact HS.out)).mono ?_; rintro e w2 ⟨rfl, g1, g2⟩; have hz2 : ResZ w2 (w.heap.size + 1 + 1 + 1) := (g2.block _ (Nat.lt_succ_self _)).trans HZ.out; obtain ⟨⟨z0, z1, z2, z3, z4, z5, z6⟩, ⟨f0, f1, f2, f3, f4, f5, f6⟩⟩ := hz2.cells; obtain ⟨k0, k1, k2, k3, k4, k5, k6⟩ := g1.cells7; have HB2 := Aside0.mk (HB1.out.trans (g2.mono (by omega))); have HZ2 := Aside0.mk hz2; clear hz2 g1 g2 lk HS HZ HB1))
  refine bodyPost_ret (results_cell_row rfl _ _ (w.heap.size + 1 + 1 + 1) 25 #[.int .i64 4, .int .i64 (toS x0 x1 a4 4), .int .i64 (toF x2 4), .int .i64 (toQ x0 x3 4), .int .i64 a4, .int .i64 v0, .int .i64 v1] (0, 0) _ rfl (by simpa using blk_set (blk_set (blk_set (blk_set (blk_set (blk_set (blk_set HZ2.out 0 _) 1 _) 2 _) 3 _) 4 _) 5 _) 6 _) Try.underlying25 rfl (by kernel_rfl)) rfl ?_
  exact ⟨rfl, bput7 (by omega) HB2.out⟩

set_option maxHeartbeats 400000 in
set_option maxRecDepth 100000 in
theorem step_calls4 (x0 x1 x2 x3 x4 x5 x6 h0 h1 h2 h3 a2 v0 v1 a4 m : Int) (hm : meansP h2 h3 a2 = m) (w : World) (hmv : m = 4) (r : Int × Int × Int × Int) (hr : stepP h0 h1 m a4 x0 x1 x2 x3 = r) :
    Calls Try.prog 23 #[.agg #[.int .i64 x0, .int .i64 x1, .int .i64 x2, .int .i64 x3, .int .i64 x4, .int .i64 x5, .int .i64 x6], .agg #[.int .i64 h0, .int .i64 h1, .int .i64 h2, .int .i64 h3], .int .i64 a2, .agg #[.int .i64 v0, .int .i64 v1], .int .i64 a4] w fun e w' =>
      e = .returned (.agg #[.int .i64 r.1, .int .i64 r.2.1, .int .i64 r.2.2.1, .int .i64 r.2.2.2, .int .i64 a4, .int .i64 v0, .int .i64 v1]) ∧ Below w.heap.size w w' := by
  have hmm := @run_makeMap Try.prog
  have nf := neq_func
  have nn := neq_nil
  have i1 := fun (o1 o2 o3 o4 o5 : Obj) => KMap.run_insert_at (((((w.alloc o1).alloc o2).alloc o3).alloc o4).alloc o5).drew (w.heap.size + 1 + 1 + 1 + 1 + 1) 87 3 86 .i64 #[] #[{ key := .int .i64 2, val := .func (.func 53) #[] #[], born := 0 }] 0 1 2 (.func (.func 53) #[] #[]) Try.underlying87 Try.underlying3 (by simp) rfl rfl rfl
  have i2 := fun (o1 o2 o3 o4 o5 : Obj) => KMap.run_insert_at (((((w.alloc o1).alloc o2).alloc o3).alloc o4).alloc o5).drew (w.heap.size + 1 + 1 + 1 + 1 + 1) 87 3 86 .i64 #[{ key := .int .i64 2, val := .func (.func 53) #[] #[], born := 0 }] #[{ key := .int .i64 2, val := .func (.func 53) #[] #[], born := 0 }, { key := .int .i64 1, val := .func (.func 54) #[] #[], born := 1 }] 1 2 1 (.func (.func 54) #[] #[]) Try.underlying87 Try.underlying3 (by simp) rfl rfl rfl
  have i3 := fun (o1 o2 o3 o4 o5 : Obj) => KMap.run_insert_at (((((w.alloc o1).alloc o2).alloc o3).alloc o4).alloc o5).drew (w.heap.size + 1 + 1 + 1 + 1 + 1) 87 3 86 .i64 #[{ key := .int .i64 2, val := .func (.func 53) #[] #[], born := 0 }, { key := .int .i64 1, val := .func (.func 54) #[] #[], born := 1 }] #[{ key := .int .i64 2, val := .func (.func 53) #[] #[], born := 0 }, { key := .int .i64 1, val := .func (.func 54) #[] #[], born := 1 }, { key := .int .i64 3, val := .func (.func 55) #[] #[], born := 2 }] 2 3 3 (.func (.func 55) #[] #[]) Try.underlying87 Try.underlying3 (by simp) rfl rfl rfl
  have i4 := fun (o1 o2 o3 o4 o5 : Obj) => KMap.run_insert_at (((((w.alloc o1).alloc o2).alloc o3).alloc o4).alloc o5).drew (w.heap.size + 1 + 1 + 1 + 1 + 1) 87 3 86 .i64 #[{ key := .int .i64 2, val := .func (.func 53) #[] #[], born := 0 }, { key := .int .i64 1, val := .func (.func 54) #[] #[], born := 1 }, { key := .int .i64 3, val := .func (.func 55) #[] #[], born := 2 }] doMap 3 4 4 (.func (.func 56) #[] #[]) Try.underlying87 Try.underlying3 (by simp) rfl rfl rfl
  simp only [World.alloc_drew] at i1 i2 i3 i4
  subst hmv
  have HM := Aside0.mk hm
  clear hm
  have hr' : (5, toS x0 x1 a4 5, toF x2 5, toQ x0 x3 5) = r := by simpa [stepP] using hr
  subst hr'
  clear hr
  go_enter Try.func23, Try.ntmps23
  go_wp2_with fail
  go_region
  go_wp2_with (first | (go_at_call 21; refine (state_Means.calls h0 h1 h2 h3 a2 4 _ (by rw [state_Means.f, HM.out])).mono ?_; rintro e w1 ⟨rfl, hb⟩; obtain ⟨q4, q5, q6⟩ := six_blocks w _ _ _ _ _ _; obtain ⟨hs, hz, hM⟩ := after_means hb q5 q4 q6; have hB1 : Below w.heap.size w w1 := (by repeat (first | (with_reducible exact Below.refl _ _) | apply below_drew1 | apply below_alloc) : Below w.heap.size w _).trans (hb.mono (by simp; omega)); have lk := (doMap_hit w1 _ hM).2.2.2; have HS := Aside0.mk hs; have HZ := Aside0.mk hz; have HB1 := Aside0.mk hB1; clear hb q4 q5 q6 hs hz hM hB1 i1 i2 i3 i4) | (go_at_call 56; refine (fails_calls (w.heap.size + 1 + 1 + 1 + 1) x0 x1 x2 x3 a4 v0 v1 h0 h1 h2 h3 a4 _ (by exact HS.out)).mono ?_; rintro e w2 ⟨rfl, g1, g2⟩; have hz2 : ResZ w2 (w.heap.size + 1 + 1 + 1) := (g2.block _ (Nat.lt_succ_self _)).trans HZ.out; obtain ⟨⟨z0, z1, z2, z3, z4, z5, z6⟩, ⟨f0, f1, f2, f3, f4, f5, f6⟩⟩ := hz2.cells; obtain ⟨k0, k1, k2, k3, k4, k5, k6⟩ := g1.cells7; have HB2 := Aside0.mk (HB1.out.trans (g2.mono (by omega))); have HZ2 := Aside0.mk hz2; clear hz2 g1 g2 lk HS HZ HB1))
  refine bodyPost_ret (results_cell_row rfl _ _ (w.heap.size + 1 + 1 + 1) 25 #[.int .i64 5, .int .i64 (toS x0 x1 a4 5), .int .i64 (toF x2 5), .int .i64 (toQ x0 x3 5), .int .i64 a4, .int .i64 v0, .int .i64 v1] (0, 0) _ rfl (by simpa using blk_set (blk_set (blk_set (blk_set (blk_set (blk_set (blk_set HZ2.out 0 _) 1 _) 2 _) 3 _) 4 _) 5 _) 6 _) Try.underlying25 rfl (by kernel_rfl)) rfl ?_
  exact ⟨rfl, bput7 (by omega) HB2.out⟩

set_option maxHeartbeats 400000 in
set_option maxRecDepth 100000 in
theorem step_calls0 (x0 x1 x2 x3 x4 x5 x6 h0 h1 h2 h3 a2 v0 v1 a4 m : Int) (hm : meansP h2 h3 a2 = m) (w : World) (hm1 : ¬ m = 1) (hm2 : ¬ m = 2) (hm3 : ¬ m = 3) (hm4 : ¬ m = 4) (r : Int × Int × Int × Int) (hr : stepP h0 h1 m a4 x0 x1 x2 x3 = r) :
    Calls Try.prog 23 #[.agg #[.int .i64 x0, .int .i64 x1, .int .i64 x2, .int .i64 x3, .int .i64 x4, .int .i64 x5, .int .i64 x6], .agg #[.int .i64 h0, .int .i64 h1, .int .i64 h2, .int .i64 h3], .int .i64 a2, .agg #[.int .i64 v0, .int .i64 v1], .int .i64 a4] w fun e w' =>
      e = .returned (.agg #[.int .i64 r.1, .int .i64 r.2.1, .int .i64 r.2.2.1, .int .i64 r.2.2.2, .int .i64 a4, .int .i64 v0, .int .i64 v1]) ∧ Below w.heap.size w w' := by
  have hmm := @run_makeMap Try.prog
  have nf := neq_func
  have nn := neq_nil
  have i1 := fun (o1 o2 o3 o4 o5 : Obj) => KMap.run_insert_at (((((w.alloc o1).alloc o2).alloc o3).alloc o4).alloc o5).drew (w.heap.size + 1 + 1 + 1 + 1 + 1) 87 3 86 .i64 #[] #[{ key := .int .i64 2, val := .func (.func 53) #[] #[], born := 0 }] 0 1 2 (.func (.func 53) #[] #[]) Try.underlying87 Try.underlying3 (by simp) rfl rfl rfl
  have i2 := fun (o1 o2 o3 o4 o5 : Obj) => KMap.run_insert_at (((((w.alloc o1).alloc o2).alloc o3).alloc o4).alloc o5).drew (w.heap.size + 1 + 1 + 1 + 1 + 1) 87 3 86 .i64 #[{ key := .int .i64 2, val := .func (.func 53) #[] #[], born := 0 }] #[{ key := .int .i64 2, val := .func (.func 53) #[] #[], born := 0 }, { key := .int .i64 1, val := .func (.func 54) #[] #[], born := 1 }] 1 2 1 (.func (.func 54) #[] #[]) Try.underlying87 Try.underlying3 (by simp) rfl rfl rfl
  have i3 := fun (o1 o2 o3 o4 o5 : Obj) => KMap.run_insert_at (((((w.alloc o1).alloc o2).alloc o3).alloc o4).alloc o5).drew (w.heap.size + 1 + 1 + 1 + 1 + 1) 87 3 86 .i64 #[{ key := .int .i64 2, val := .func (.func 53) #[] #[], born := 0 }, { key := .int .i64 1, val := .func (.func 54) #[] #[], born := 1 }] #[{ key := .int .i64 2, val := .func (.func 53) #[] #[], born := 0 }, { key := .int .i64 1, val := .func (.func 54) #[] #[], born := 1 }, { key := .int .i64 3, val := .func (.func 55) #[] #[], born := 2 }] 2 3 3 (.func (.func 55) #[] #[]) Try.underlying87 Try.underlying3 (by simp) rfl rfl rfl
  have i4 := fun (o1 o2 o3 o4 o5 : Obj) => KMap.run_insert_at (((((w.alloc o1).alloc o2).alloc o3).alloc o4).alloc o5).drew (w.heap.size + 1 + 1 + 1 + 1 + 1) 87 3 86 .i64 #[{ key := .int .i64 2, val := .func (.func 53) #[] #[], born := 0 }, { key := .int .i64 1, val := .func (.func 54) #[] #[], born := 1 }, { key := .int .i64 3, val := .func (.func 55) #[] #[], born := 2 }] doMap 3 4 4 (.func (.func 56) #[] #[]) Try.underlying87 Try.underlying3 (by simp) rfl rfl rfl
  simp only [World.alloc_drew] at i1 i2 i3 i4
  have HM := Aside0.mk hm
  clear hm
  obtain rfl : (x0, x1, x2, x3) = r := by simpa [stepP, hm1, hm2, hm3, hm4] using hr
  have HM1 := Aside0.mk hm1
  have HM2 := Aside0.mk hm2
  have HM3 := Aside0.mk hm3
  have HM4 := Aside0.mk hm4
  clear hr hm1 hm2 hm3 hm4
  go_enter Try.func23, Try.ntmps23
  go_wp2_with fail
  go_region
  go_wp2_with (go_at_call 21; refine (state_Means.calls h0 h1 h2 h3 a2 m _ (by rw [state_Means.f, HM.out])).mono ?_; rintro e w1 ⟨rfl, hb⟩; obtain ⟨q4, q5, q6⟩ := six_blocks w _ _ _ _ _ _; obtain ⟨hs, hz, hM⟩ := after_means hb q5 q4 q6; have hB1 : Below w.heap.size w w1 := (by repeat (first | (with_reducible exact Below.refl _ _) | apply below_drew1 | apply below_alloc) : Below w.heap.size w _).trans (hb.mono (by simp; omega)); have lk := doMap_none w1 _ m hM HM1.out HM2.out HM3.out HM4.out; have HZ2 := Aside0.mk hz; have HB2 := Aside0.mk hB1; obtain ⟨⟨z0, z1, z2, z3, z4, z5, z6⟩, ⟨f0, f1, f2, f3, f4, f5, f6⟩⟩ := hz.cells; obtain ⟨k0, k1, k2, k3, k4, k5, k6⟩ := hs.cells7; clear hb q4 q5 q6 hs hz hM hB1 i1 i2 i3 i4)
  refine bodyPost_ret (results_cell_row rfl _ _ (w.heap.size + 1 + 1 + 1) 25 #[.int .i64 x0, .int .i64 x1, .int .i64 x2, .int .i64 x3, .int .i64 a4, .int .i64 v0, .int .i64 v1] (0, 0) _ rfl (by simpa using blk_set (blk_set (blk_set (blk_set (blk_set (blk_set (blk_set HZ2.out 0 _) 1 _) 2 _) 3 _) 4 _) 5 _) 6 _) Try.underlying25 rfl (by kernel_rfl)) rfl ?_
  exact ⟨rfl, bput7 (by omega) HB2.out⟩

theorem step_calls (x0 x1 x2 x3 x4 x5 x6 h0 h1 h2 h3 a2 v0 v1 a4 m : Int) (hm : meansP h2 h3 a2 = m) (w : World) (r : Int × Int × Int × Int) (hr : stepP h0 h1 m a4 x0 x1 x2 x3 = r) :
    Calls Try.prog 23 #[.agg #[.int .i64 x0, .int .i64 x1, .int .i64 x2, .int .i64 x3, .int .i64 x4, .int .i64 x5, .int .i64 x6], .agg #[.int .i64 h0, .int .i64 h1, .int .i64 h2, .int .i64 h3], .int .i64 a2, .agg #[.int .i64 v0, .int .i64 v1], .int .i64 a4] w fun e w' =>
      e = .returned (.agg #[.int .i64 r.1, .int .i64 r.2.1, .int .i64 r.2.2.1, .int .i64 r.2.2.2, .int .i64 a4, .int .i64 v0, .int .i64 v1]) ∧ Below w.heap.size w w' := by
  by_cases m2 : m = 2
  · exact step_calls2 _ _ _ _ _ _ _ _ _ _ _ _ _ _ _ _ hm w m2 r hr
  by_cases m1 : m = 1
  · exact step_calls1 _ _ _ _ _ _ _ _ _ _ _ _ _ _ _ _ hm w m1 r hr
  by_cases m3 : m = 3
  · exact step_calls3 _ _ _ _ _ _ _ _ _ _ _ _ _ _ _ _ hm w m3 r hr
  by_cases m4 : m = 4
  · exact step_calls4 _ _ _ _ _ _ _ _ _ _ _ _ _ _ _ _ hm w m4 r hr
  exact step_calls0 _ _ _ _ _ _ _ _ _ _ _ _ _ _ _ _ hm w m1 m2 m3 m4 r hr

theorem state_Step.calls (a0_0 a0_1 a0_2 a0_3 a0_4 a0_5 a0_6 a1_0 a1_1 a1_2 a1_3 a2 a3_0 a3_1 a4 : Int) (r1 r2 r3 r4 r5 r6 r7 : Int) (w : World) (h : state_Step.f a0_0 a0_1 a0_2 a0_3 a0_4 a0_5 a0_6 a1_0 a1_1 a1_2 a1_3 a2 a3_0 a3_1 a4 = some (r1, r2, r3, r4, r5, r6, r7)) :
    Calls Try.prog 23 #[.agg #[.int .i64 a0_0, .int .i64 a0_1, .int .i64 a0_2, .int .i64 a0_3, .int .i64 a0_4, .int .i64 a0_5, .int .i64 a0_6], .agg #[.int .i64 a1_0, .int .i64 a1_1, .int .i64 a1_2, .int .i64 a1_3], .int .i64 a2, .agg #[.int .i64 a3_0, .int .i64 a3_1], .int .i64 a4] w fun e w' =>
      e = .returned (.agg #[.int .i64 r1, .int .i64 r2, .int .i64 r3, .int .i64 r4, .int .i64 r5, .int .i64 r6, .int .i64 r7]) ∧ Below w.heap.size w w' := by
  simp only [state_Step.f, Option.some.injEq, Prod.mk.injEq] at h
  obtain ⟨rfl, rfl, rfl, rfl, rfl, rfl, rfl⟩ := h
  exact step_calls _ _ _ _ _ _ _ _ _ _ _ _ _ _ _ _ rfl w _ rfl

/-! ### klaxonref08_Plus: function 58 -/
def klaxonref08_Plus.f  : Option (Int × Int) := some (4, 0)
set_option maxHeartbeats 8000000 in
set_option maxRecDepth 100000 in
theorem klaxonref08_Plus.calls  (r1 : Int) (r2 : Int) (w : World) (h : klaxonref08_Plus.f  = some (r1, r2)) :
    Calls Try.prog 58 #[] w fun e w' => e = .returned (.agg #[.int .i64 r1, .int .i64 r2]) ∧ Below w.heap.size w w' := by
  have hu23 := Try.underlying23
  have HB := Aside0.mk (Below.refl w.heap.size w)
  have H : (some (4, 0)) = some (r1, r2) := h
  clear h
  simp only [Option.some.injEq, Prod.mk.injEq] at H
  obtain ⟨rfl, rfl⟩ := H
  go_enter Try.func58, Try.ntmps58
  go_wp2_with (first | ((with_reducible refine gate_dst (N := 0) rfl ?_); refine box_event ?hg (N := 0) ?hd (cs := #[.int .i64 0, .int .i64 0]) (t := 23) ?hr ?_; (case hd => rfl); (case hg => rfl); (case hr => first | (go_simp; done) | (go_simp; rfl)); intro gb116 hg w1 hbox hb; have n0_ := Aside0.mk (below_step (by repeat (first | (with_reducible first | exact HB.out | apply below_alloc | apply pw_below_drewN | apply below_drew1) | exact HB.out)) hb); have n1_ := Aside0.mk (hbox); have n2_ := Aside0.mk ((by rw [hg]; exact (below_size (by repeat (first | (with_reducible first | exact HB.out | apply below_alloc | apply pw_below_drewN | apply below_drew1) | exact HB.out))) : w.heap.size ≤ gb116)); have n3_ := Aside0.mk ((by rw [hg]; exact (below_size (by repeat (first | (with_reducible first | exact HB.out | apply below_alloc | apply pw_below_drewN | apply below_drew1) | exact HB.out))) : w.heap.size ≤ gb116)); clear HB; have HB := n0_; have BK116 := n1_; have GW116 := n2_; have GE116 := n3_; clear n0_ n1_ n2_ n3_; clear hb hbox hg; have hcz2_0 : w1.cell? ⟨gb116, 0, none⟩ = some (.int .i64 0) := (blk_cell BK116.out 0).trans rfl; have hcz2_1 : w1.cell? ⟨gb116, 1, none⟩ = some (.int .i64 0) := (blk_cell BK116.out 1).trans rfl; have hfz2_0 := blk_frozen BK116.out 0; have hfz2_1 := blk_frozen BK116.out 1))
  refine bodyPost_ret (results_cell_row rfl _ _ gb116 23 #[.int .i64 4, .int .i64 0] (0, 0) _ rfl (by (with_reducible repeat (first | refine blk_drewN ?_ _ | refine blk_drew ?_ | refine blk_alloc ?_ _)); refine blk_put (cs := #[.int .i64 4, .int .i64 0]) ?_ 1 _ rfl; (with_reducible repeat (first | refine blk_drewN ?_ _ | refine blk_drew ?_ | refine blk_alloc ?_ _)); refine blk_put (cs := #[.int .i64 0, .int .i64 0]) ?_ 0 _ rfl; (with_reducible repeat (first | refine blk_drewN ?_ _ | refine blk_drew ?_ | refine blk_alloc ?_ _)); exact BK116.out) Try.underlying23 rfl (by kernel_rfl)) rfl ?_
  exact ⟨by first | rfl | (simp [errW_none, errW_some] <;> rfl) | (simp [*, errW_none, errW_some] <;> rfl), by repeat (first | (with_reducible first | exact HB.out | apply below_alloc | apply pw_below_drewN | apply below_drew1 | refine below_set ?_ GE116.out) | exact HB.out)⟩

/-! ### klaxonref08_Minus: function 59 -/
def klaxonref08_Minus.f  : Option (Int × Int) := some (5, 0)
set_option maxHeartbeats 8000000 in
set_option maxRecDepth 100000 in
theorem klaxonref08_Minus.calls  (r1 : Int) (r2 : Int) (w : World) (h : klaxonref08_Minus.f  = some (r1, r2)) :
    Calls Try.prog 59 #[] w fun e w' => e = .returned (.agg #[.int .i64 r1, .int .i64 r2]) ∧ Below w.heap.size w w' := by
  have hu23 := Try.underlying23
  have HB := Aside0.mk (Below.refl w.heap.size w)
  have H : (some (5, 0)) = some (r1, r2) := h
  clear h
  simp only [Option.some.injEq, Prod.mk.injEq] at H
  obtain ⟨rfl, rfl⟩ := H
  go_enter Try.func59, Try.ntmps59
  go_wp2_with (first | ((with_reducible refine gate_dst (N := 0) rfl ?_); refine box_event ?hg (N := 0) ?hd (cs := #[.int .i64 0, .int .i64 0]) (t := 23) ?hr ?_; (case hd => rfl); (case hg => rfl); (case hr => first | (go_simp; done) | (go_simp; rfl)); intro gb117 hg w1 hbox hb; have n0_ := Aside0.mk (below_step (by repeat (first | (with_reducible first | exact HB.out | apply below_alloc | apply pw_below_drewN | apply below_drew1) | exact HB.out)) hb); have n1_ := Aside0.mk (hbox); have n2_ := Aside0.mk ((by rw [hg]; exact (below_size (by repeat (first | (with_reducible first | exact HB.out | apply below_alloc | apply pw_below_drewN | apply below_drew1) | exact HB.out))) : w.heap.size ≤ gb117)); have n3_ := Aside0.mk ((by rw [hg]; exact (below_size (by repeat (first | (with_reducible first | exact HB.out | apply below_alloc | apply pw_below_drewN | apply below_drew1) | exact HB.out))) : w.heap.size ≤ gb117)); clear HB; have HB := n0_; have BK117 := n1_; have GW117 := n2_; have GE117 := n3_; clear n0_ n1_ n2_ n3_; clear hb hbox hg; have hcz2_0 : w1.cell? ⟨gb117, 0, none⟩ = some (.int .i64 0) := (blk_cell BK117.out 0).trans rfl; have hcz2_1 : w1.cell? ⟨gb117, 1, none⟩ = some (.int .i64 0) := (blk_cell BK117.out 1).trans rfl; have hfz2_0 := blk_frozen BK117.out 0; have hfz2_1 := blk_frozen BK117.out 1))
  refine bodyPost_ret (results_cell_row rfl _ _ gb117 23 #[.int .i64 5, .int .i64 0] (0, 0) _ rfl (by (with_reducible repeat (first | refine blk_drewN ?_ _ | refine blk_drew ?_ | refine blk_alloc ?_ _)); refine blk_put (cs := #[.int .i64 5, .int .i64 0]) ?_ 1 _ rfl; (with_reducible repeat (first | refine blk_drewN ?_ _ | refine blk_drew ?_ | refine blk_alloc ?_ _)); refine blk_put (cs := #[.int .i64 0, .int .i64 0]) ?_ 0 _ rfl; (with_reducible repeat (first | refine blk_drewN ?_ _ | refine blk_drew ?_ | refine blk_alloc ?_ _)); exact BK117.out) Try.underlying23 rfl (by kernel_rfl)) rfl ?_
  exact ⟨by first | rfl | (simp [errW_none, errW_some] <;> rfl) | (simp [*, errW_none, errW_some] <;> rfl), by repeat (first | (with_reducible first | exact HB.out | apply below_alloc | apply pw_below_drewN | apply below_drew1 | refine below_set ?_ GE117.out) | exact HB.out)⟩

/-! ### klaxonref08_Num: function 26 -/
def klaxonref08_Num.f (a0 : Int) : Option (Int × Int) := if a0 > 1000000000000000 then ((klaxonref08_Plus.f).bind fun bt119 => (some (bt119.1, bt119.2))) else (if a0 < (-1000000000000000) then ((klaxonref08_Minus.f).bind fun bt121 => (some (bt121.1, bt121.2))) else (some (1, a0)))
set_option maxHeartbeats 8000000 in
set_option maxRecDepth 100000 in
theorem klaxonref08_Num.calls (a0 : Int) (r1 : Int) (r2 : Int) (w : World) (h : klaxonref08_Num.f a0 = some (r1, r2)) :
    Calls Try.prog 26 #[.int .i64 a0] w fun e w' => e = .returned (.agg #[.int .i64 r1, .int .i64 r2]) ∧ Below w.heap.size w w' := by
  have hu23 := Try.underlying23
  have HB := Aside0.mk (Below.refl w.heap.size w)
  have H : (if a0 > 1000000000000000 then ((klaxonref08_Plus.f).bind fun bt119 => (some (bt119.1, bt119.2))) else (if a0 < (-1000000000000000) then ((klaxonref08_Minus.f).bind fun bt121 => (some (bt121.1, bt121.2))) else (some (1, a0)))) = some (r1, r2) := h
  clear h
  by_cases c2 : a0 > 1000000000000000
  · rw [if_pos c2] at H
    have c2b0 : decide (1000000000000000 < a0) = true := decide_eq_true c2
    clear c2
    replace H := Option.bind_eq_some_iff.mp H
    obtain ⟨⟨t119, t120⟩, A30, H⟩ := H
    replace H : (some (t119, t120)) = some (r1, r2) := H
    have A3 := Aside0.mk A30
    clear A30
    simp only [Option.some.injEq, Prod.mk.injEq] at H
    obtain ⟨rfl, rfl⟩ := H
    go_enter Try.func26, Try.ntmps26
    go_wp2_with (first | ((with_reducible refine gate_dst (N := 2) rfl ?_); refine box_event ?hg (N := 2) ?hd (cs := #[.int .i64 0, .int .i64 0]) (t := 23) ?hr ?_; (case hd => rfl); (case hg => rfl); (case hr => first | (go_simp; done) | (go_simp; rfl)); intro gb118 hg w4 hbox hb; have n0_ := Aside0.mk (below_step (by repeat (first | (with_reducible first | exact HB.out | apply below_alloc | apply pw_below_drewN | apply below_drew1) | exact HB.out)) hb); have n1_ := Aside0.mk (hbox); have n2_ := Aside0.mk ((by rw [hg]; exact (below_size (by repeat (first | (with_reducible first | exact HB.out | apply below_alloc | apply pw_below_drewN | apply below_drew1) | exact HB.out))) : w.heap.size ≤ gb118)); have n3_ := Aside0.mk ((by rw [hg]; exact (below_size (by repeat (first | (with_reducible first | exact HB.out | apply below_alloc | apply pw_below_drewN | apply below_drew1) | exact HB.out))) : w.heap.size ≤ gb118)); clear HB; have HB := n0_; have BK118 := n1_; have GW118 := n2_; have GE118 := n3_; clear n0_ n1_ n2_ n3_; clear hb hbox hg) | ((with_reducible refine gate_callee (f := 58) rfl ?_); refine goesL_ (some 5) rfl rfl Try.func58 (by kernel_rfl) rfl #[] rfl (by (try simp only [List.map_toArray, List.map_cons, List.map_nil]); first | done | rfl | (simp only [List.length_drop, List.length_take]; rfl)) ?_; (with_reducible refine (klaxonref08_Plus.calls  t119 t120 _ A3.out).mono ?_); rintro e w5 ⟨rfl, hb⟩; refine ⟨_, rfl, ?_⟩; have n0_ := Aside0.mk (blk_below (g := gb118) (o := .cells #[.int .i64 0, .int .i64 0] 23 (0, 0)) (by (with_reducible repeat (first | refine blk_drewN ?_ _ | refine blk_drew ?_ | refine blk_alloc ?_ _)); exact BK118.out) hb); have n1_ := Aside0.mk (below_step (by repeat (first | (with_reducible first | exact HB.out | apply below_alloc | apply pw_below_drewN | apply below_drew1 | refine below_set ?_ GE118.out) | exact HB.out)) hb); clear BK118; clear HB; have BK118 := n0_; have HB := n1_; clear n0_ n1_; (try clear hb); (try clear hb2); (try clear hk); (try clear hi); have hcz6_0 : w5.cell? ⟨gb118, 0, none⟩ = some (.int .i64 0) := (blk_cell BK118.out 0).trans rfl; have hcz6_1 : w5.cell? ⟨gb118, 1, none⟩ = some (.int .i64 0) := (blk_cell BK118.out 1).trans rfl; have hfz6_0 := blk_frozen BK118.out 0; have hfz6_1 := blk_frozen BK118.out 1))
    refine bodyPost_ret (results_cell_row rfl _ _ gb118 23 #[.int .i64 t119, .int .i64 t120] (0, 0) _ rfl (by (with_reducible repeat (first | refine blk_drewN ?_ _ | refine blk_drew ?_ | refine blk_alloc ?_ _)); refine blk_put (cs := #[.int .i64 t119, .int .i64 0]) ?_ 1 _ rfl; (with_reducible repeat (first | refine blk_drewN ?_ _ | refine blk_drew ?_ | refine blk_alloc ?_ _)); refine blk_put (cs := #[.int .i64 0, .int .i64 0]) ?_ 0 _ rfl; (with_reducible repeat (first | refine blk_drewN ?_ _ | refine blk_drew ?_ | refine blk_alloc ?_ _)); exact BK118.out) Try.underlying23 rfl (by kernel_rfl)) rfl ?_
    exact ⟨by first | rfl | (simp [errW_none, errW_some] <;> rfl) | (simp [*, errW_none, errW_some] <;> rfl), by repeat (first | (with_reducible first | exact HB.out | apply below_alloc | apply pw_below_drewN | apply below_drew1 | refine below_set ?_ GE118.out) | exact HB.out)⟩
  · rw [if_neg c2] at H
    have c2b0 : decide (1000000000000000 < a0) = false := decide_eq_false c2
    clear c2
    by_cases c7 : a0 < (-1000000000000000)
    · rw [if_pos c7] at H
      have c7b0 : decide (a0 < (-1000000000000000)) = true := decide_eq_true c7
      clear c7
      replace H := Option.bind_eq_some_iff.mp H
      obtain ⟨⟨t121, t122⟩, A80, H⟩ := H
      replace H : (some (t121, t122)) = some (r1, r2) := H
      have A8 := Aside0.mk A80
      clear A80
      simp only [Option.some.injEq, Prod.mk.injEq] at H
      obtain ⟨rfl, rfl⟩ := H
      go_enter Try.func26, Try.ntmps26
      go_wp2_with (first | ((with_reducible refine gate_dst (N := 2) rfl ?_); refine box_event ?hg (N := 2) ?hd (cs := #[.int .i64 0, .int .i64 0]) (t := 23) ?hr ?_; (case hd => rfl); (case hg => rfl); (case hr => first | (go_simp; done) | (go_simp; rfl)); intro gb118 hg w9 hbox hb; have n0_ := Aside0.mk (below_step (by repeat (first | (with_reducible first | exact HB.out | apply below_alloc | apply pw_below_drewN | apply below_drew1) | exact HB.out)) hb); have n1_ := Aside0.mk (hbox); have n2_ := Aside0.mk ((by rw [hg]; exact (below_size (by repeat (first | (with_reducible first | exact HB.out | apply below_alloc | apply pw_below_drewN | apply below_drew1) | exact HB.out))) : w.heap.size ≤ gb118)); have n3_ := Aside0.mk ((by rw [hg]; exact (below_size (by repeat (first | (with_reducible first | exact HB.out | apply below_alloc | apply pw_below_drewN | apply below_drew1) | exact HB.out))) : w.heap.size ≤ gb118)); clear HB; have HB := n0_; have BK118 := n1_; have GW118 := n2_; have GE118 := n3_; clear n0_ n1_ n2_ n3_; clear hb hbox hg) | ((with_reducible refine gate_callee (f := 59) rfl ?_); refine goesL_ (some 8) rfl rfl Try.func59 (by kernel_rfl) rfl #[] rfl (by (try simp only [List.map_toArray, List.map_cons, List.map_nil]); first | done | rfl | (simp only [List.length_drop, List.length_take]; rfl)) ?_; (with_reducible refine (klaxonref08_Minus.calls  t121 t122 _ A8.out).mono ?_); rintro e w10 ⟨rfl, hb⟩; refine ⟨_, rfl, ?_⟩; have n0_ := Aside0.mk (blk_below (g := gb118) (o := .cells #[.int .i64 0, .int .i64 0] 23 (0, 0)) (by (with_reducible repeat (first | refine blk_drewN ?_ _ | refine blk_drew ?_ | refine blk_alloc ?_ _)); exact BK118.out) hb); have n1_ := Aside0.mk (below_step (by repeat (first | (with_reducible first | exact HB.out | apply below_alloc | apply pw_below_drewN | apply below_drew1 | refine below_set ?_ GE118.out) | exact HB.out)) hb); clear BK118; clear HB; have BK118 := n0_; have HB := n1_; clear n0_ n1_; (try clear hb); (try clear hb2); (try clear hk); (try clear hi); have hcz11_0 : w10.cell? ⟨gb118, 0, none⟩ = some (.int .i64 0) := (blk_cell BK118.out 0).trans rfl; have hcz11_1 : w10.cell? ⟨gb118, 1, none⟩ = some (.int .i64 0) := (blk_cell BK118.out 1).trans rfl; have hfz11_0 := blk_frozen BK118.out 0; have hfz11_1 := blk_frozen BK118.out 1))
      refine bodyPost_ret (results_cell_row rfl _ _ gb118 23 #[.int .i64 t121, .int .i64 t122] (0, 0) _ rfl (by (with_reducible repeat (first | refine blk_drewN ?_ _ | refine blk_drew ?_ | refine blk_alloc ?_ _)); refine blk_put (cs := #[.int .i64 t121, .int .i64 0]) ?_ 1 _ rfl; (with_reducible repeat (first | refine blk_drewN ?_ _ | refine blk_drew ?_ | refine blk_alloc ?_ _)); refine blk_put (cs := #[.int .i64 0, .int .i64 0]) ?_ 0 _ rfl; (with_reducible repeat (first | refine blk_drewN ?_ _ | refine blk_drew ?_ | refine blk_alloc ?_ _)); exact BK118.out) Try.underlying23 rfl (by kernel_rfl)) rfl ?_
      exact ⟨by first | rfl | (simp [errW_none, errW_some] <;> rfl) | (simp [*, errW_none, errW_some] <;> rfl), by repeat (first | (with_reducible first | exact HB.out | apply below_alloc | apply pw_below_drewN | apply below_drew1 | refine below_set ?_ GE118.out) | exact HB.out)⟩
    · rw [if_neg c7] at H
      have c7b0 : decide (a0 < (-1000000000000000)) = false := decide_eq_false c7
      clear c7
      simp only [Option.some.injEq, Prod.mk.injEq] at H
      obtain ⟨rfl, rfl⟩ := H
      go_enter Try.func26, Try.ntmps26
      go_wp2_with (first | ((with_reducible refine gate_dst (N := 2) rfl ?_); refine box_event ?hg (N := 2) ?hd (cs := #[.int .i64 0, .int .i64 0]) (t := 23) ?hr ?_; (case hd => rfl); (case hg => rfl); (case hr => first | (go_simp; done) | (go_simp; rfl)); intro gb118 hg w12 hbox hb; have n0_ := Aside0.mk (below_step (by repeat (first | (with_reducible first | exact HB.out | apply below_alloc | apply pw_below_drewN | apply below_drew1) | exact HB.out)) hb); have n1_ := Aside0.mk (hbox); have n2_ := Aside0.mk ((by rw [hg]; exact (below_size (by repeat (first | (with_reducible first | exact HB.out | apply below_alloc | apply pw_below_drewN | apply below_drew1) | exact HB.out))) : w.heap.size ≤ gb118)); have n3_ := Aside0.mk ((by rw [hg]; exact (below_size (by repeat (first | (with_reducible first | exact HB.out | apply below_alloc | apply pw_below_drewN | apply below_drew1) | exact HB.out))) : w.heap.size ≤ gb118)); clear HB; have HB := n0_; have BK118 := n1_; have GW118 := n2_; have GE118 := n3_; clear n0_ n1_ n2_ n3_; clear hb hbox hg; have hcz13_0 : w12.cell? ⟨gb118, 0, none⟩ = some (.int .i64 0) := (blk_cell BK118.out 0).trans rfl; have hcz13_1 : w12.cell? ⟨gb118, 1, none⟩ = some (.int .i64 0) := (blk_cell BK118.out 1).trans rfl; have hfz13_0 := blk_frozen BK118.out 0; have hfz13_1 := blk_frozen BK118.out 1))
      refine bodyPost_ret (results_cell_row rfl _ _ gb118 23 #[.int .i64 1, .int .i64 a0] (0, 0) _ rfl (by (with_reducible repeat (first | refine blk_drewN ?_ _ | refine blk_drew ?_ | refine blk_alloc ?_ _)); refine blk_put (cs := #[.int .i64 1, .int .i64 0]) ?_ 1 _ rfl; (with_reducible repeat (first | refine blk_drewN ?_ _ | refine blk_drew ?_ | refine blk_alloc ?_ _)); refine blk_put (cs := #[.int .i64 0, .int .i64 0]) ?_ 0 _ rfl; (with_reducible repeat (first | refine blk_drewN ?_ _ | refine blk_drew ?_ | refine blk_alloc ?_ _)); exact BK118.out) Try.underlying23 rfl (by kernel_rfl)) rfl ?_
      exact ⟨by first | rfl | (simp [errW_none, errW_some] <;> rfl) | (simp [*, errW_none, errW_some] <;> rfl), by repeat (first | (with_reducible first | exact HB.out | apply below_alloc | apply pw_below_drewN | apply below_drew1 | refine below_set ?_ GE118.out) | exact HB.out)⟩

end Go.Proofs.Ytmcnipjfigbkeaa.PRight
