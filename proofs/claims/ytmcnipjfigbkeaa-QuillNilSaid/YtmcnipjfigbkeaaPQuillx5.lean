-- Written by a program of this session (wip/myprint.py), which drives the kit's print; read and checked by Lean alone.
import Derived.Test.YtmcnipjfigbkeaaPQuillx0
import Derived.Test.YtmcnipjfigbkeaaPQuillx1
import Derived.Test.YtmcnipjfigbkeaaPQuillx2
import Derived.Test.YtmcnipjfigbkeaaPQuillx3
namespace Go.Proofs.Ytmcnipjfigbkeaa.PQuill
open Go.RowKit Go.Proofs.YtmcnipjfigbkeaaW.PrintWords Go.Proofs.YtmcnipjfigbkeaaW.PrintLast Go.Proofs.YtmcnipjfigbkeaaW.PrintMore
attribute [local go_sem] max2_int min2_int max_two min_two max_three min_three max_four min_four   -- for this text's walks alone
set_option linter.unusedVariables false
set_option linter.unusedSimpArgs false

/-! ### klaxonlaw01_QuillShort: function 12 -/
def klaxonlaw01_QuillShort.j0 : Nat → Int → ByteArray → Int → List Int → Bool → Option (Bool)
  | 0, _, _, _, _, _ => none
  | k + 1, x0, x1, x2, x7, x31 => if x31 = true then ((klaxonlaw01_live.f).bind fun t375 => (some t375)) else ((quill_Number.f k ([] : List Int) (([x0] : List Int))).bind fun t379 => (if 0 ≤ x2 then (if x2 ≤ (x7.length : Int) then ((quill_Unroll.f (x7.take (x2 : Int).toNat)).bind fun bt386 => ((quill_Strip_Number.f bt386.1 bt386.2.1 bt386.2.2.1 bt386.2.2.2).bind fun bt391 => ((quill_Strip_Text.f bt386.1 bt391.2.1 bt391.2.2.1 bt391.2.2.2 (x1.size : Int)).bind fun bt395 => ((quill_Strip_Bad.f bt386.1 bt395.2.1 bt395.2.2.1 bt395.2.2.2).bind fun bt399 => (if x2 < (t379.length : Int) then (if bt391.1 = 0 then (if bt395.1.toList = ([] : List UInt8) then ((klaxonlaw01_num.f bt399.1).bind fun t404 => (if t404 = 3 then (if bt399.2.1 = 0 then ((quill_Strip_Where.f bt386.1 bt399.2.2.1 bt399.2.2.2.1 bt399.2.2.2.2).bind fun bt405 => (if bt405.1 = 0 then ((klaxonlaw01_live.f).bind fun t409 => (some t409)) else (some false))) else (some false)) else (some false))) else (some false)) else (some false)) else (if bt391.1 = x0 then (if bt395.1.toList = ([] : List UInt8) then ((klaxonlaw01_num.f bt399.1).bind fun t410 => (if t410 = 3 then (if bt399.2.1 = (t379.length : Int) then ((quill_Strip_Where.f bt386.1 bt399.2.2.1 bt399.2.2.2.1 bt399.2.2.2.2).bind fun bt411 => (if bt411.1 = (t379.length : Int) then ((quill_Strip_Over.f bt386.1 bt411.2.1 bt411.2.2.1 bt411.2.2.2).bind fun bt415 => ((klaxonlaw01_num.f bt415.1).bind fun t419 => (if t419 = 3 then ((klaxonlaw01_live.f).bind fun t420 => (some t420)) else (some false)))) else (some false))) else (some false)) else (some false))) else (some false)) else (some false))))))) else (none)) else (none)))
def klaxonlaw01_QuillShort.f (k : Nat) (a0 : Int) (a1 : ByteArray) (a2 : Int) : Option (Bool) := if (a1.size : Int) > 20000 then ((klaxonlaw01_live.f).bind fun t362 => (some t362)) else ((quill_Number.f k ([] : List Int) (([a0] : List Int))).bind fun t366 => ((quill_Text.f k t366 (([a1] : List ByteArray))).bind fun t372 => (if a2 < 0 then (klaxonlaw01_QuillShort.j0 k a0 a1 a2 t372 true) else (klaxonlaw01_QuillShort.j0 k a0 a1 a2 t372 (decide (a2 ≥ (t372.length : Int)))))))
theorem klaxonlaw01_QuillShort.mono_l : ∀ k, (∀ y0 y1 y2 y3 y4, LeO (klaxonlaw01_QuillShort.j0 k y0 y1 y2 y3 y4) (klaxonlaw01_QuillShort.j0 (k + 1) y0 y1 y2 y3 y4))
  | 0 => fun _ _ _ _ _ r h => by simp [klaxonlaw01_QuillShort.j0] at h
  | k + 1 => by
    have ih0 := klaxonlaw01_QuillShort.mono_l k
    · intro y0 y1 y2 y3 y4
      unfold klaxonlaw01_QuillShort.j0
      repeat' first
      | (with_reducible exact ih0 _ _ _ _ _)
      | (with_reducible exact quill_Number.mono _ _ _)
      | (with_reducible exact quill_Text.mono _ _ _)
      | (with_reducible exact LeO.refl _)
      | (with_reducible exact LeO.none _)
      | (with_reducible refine LeO.ite ?_ ?_)
      | (with_reducible refine LeO.bind ?_ (fun _ => ?_))
      | exact ih0 _ _ _ _ _
      | exact quill_Number.mono _ _ _
      | exact quill_Text.mono _ _ _
      | exact LeO.none _
      | refine LeO.ite ?_ ?_
      | refine LeO.bind ?_ (fun _ => ?_)
theorem klaxonlaw01_QuillShort.mono : ∀ a0 a1 a2 k, LeO (klaxonlaw01_QuillShort.f k a0 a1 a2) (klaxonlaw01_QuillShort.f (k + 1) a0 a1 a2) := by
  intro a0 a1 a2 k
  have ih0 := klaxonlaw01_QuillShort.mono_l k
  unfold klaxonlaw01_QuillShort.f
  repeat' first
      | (with_reducible exact ih0 _ _ _ _ _)
      | (with_reducible exact quill_Number.mono _ _ _)
      | (with_reducible exact quill_Text.mono _ _ _)
      | (with_reducible exact LeO.refl _)
      | (with_reducible exact LeO.none _)
      | (with_reducible refine LeO.ite ?_ ?_)
      | (with_reducible refine LeO.bind ?_ (fun _ => ?_))
      | exact ih0 _ _ _ _ _
      | exact quill_Number.mono _ _ _
      | exact quill_Text.mono _ _ _
      | exact LeO.none _
      | refine LeO.ite ?_ ?_
      | refine LeO.bind ?_ (fun _ => ?_)
set_option maxHeartbeats 8000000 in
set_option maxRecDepth 100000 in
theorem klaxonlaw01_QuillShort.calls (k : Nat) (a0 : Int) (a1 : ByteArray) (a2 : Int) (w : World) (h : klaxonlaw01_QuillShort.f k a0 a1 a2 = some true) :
    Calls Try.prog 12 #[.int .u64 a0, .string a1, .int .i64 a2] w fun e w' => e = .returned (.bool true) ∧ Below w.heap.size w w' := by
  have HB := Aside0.mk (Below.refl w.heap.size w)
  have H : (if (a1.size : Int) > 20000 then ((klaxonlaw01_live.f).bind fun t362 => (some t362)) else ((quill_Number.f k ([] : List Int) (([a0] : List Int))).bind fun t366 => ((quill_Text.f k t366 (([a1] : List ByteArray))).bind fun t372 => (if a2 < 0 then (klaxonlaw01_QuillShort.j0 k a0 a1 a2 t372 true) else (klaxonlaw01_QuillShort.j0 k a0 a1 a2 t372 (decide (a2 ≥ (t372.length : Int)))))))) = some true := h
  clear h
  by_cases c4 : (a1.size : Int) > 20000
  · rw [if_pos c4] at H
    have c4b0 : decide (20000 < (a1.size : Int)) = true := decide_eq_true c4
    have c4b1 : decide (20000 < a1.size) = true := decide_eq_true (by omega)
    clear c4
    replace H := Option.bind_eq_some_iff.mp H
    obtain ⟨t362, A50, H⟩ := H
    replace H : (some t362) = some true := H
    have A5 := Aside0.mk A50
    clear A50
    have H9_ := Option.some.inj H
    clear H
    go_enter Try.func12, Try.ntmps12
    go_wp2_with (first | ((with_reducible refine gate_callee (f := 28) rfl ?_); refine goesL_ (some 17) rfl rfl Try.func28 (by kernel_rfl) rfl #[] rfl (by (try simp only [List.map_toArray, List.map_cons, List.map_nil]); first | done | rfl | (simp only [List.length_drop, List.length_take]; rfl)) ?_; (with_reducible refine (klaxonlaw01_live.calls  t362 _ A5.out).mono ?_); rintro e w6 ⟨rfl, hb⟩; refine ⟨_, rfl, ?_⟩; have n0_ := Aside0.mk (below_step (by repeat (first | (with_reducible first | exact HB.out | apply below_alloc | apply pw_below_drewN | apply below_drew1) | exact HB.out)) hb); clear HB; have HB := n0_; clear n0_; (try clear hb); (try clear hb2); (try clear hk); (try clear hi)))
    go_ret
    exact ⟨by first | rfl | (simp [errW_none, errW_some] <;> rfl) | (simp [*, errW_none, errW_some] <;> rfl), by repeat (first | (with_reducible first | exact HB.out | apply below_alloc | apply pw_below_drewN | apply below_drew1) | exact HB.out)⟩
  · rw [if_neg c4] at H
    have c4b0 : decide (20000 < (a1.size : Int)) = false := decide_eq_false c4
    have c4b1 : decide (20000 < a1.size) = false := decide_eq_false (by omega)
    clear c4
    obtain ⟨y363, hy363⟩ : ∃ y_ : List Int, y_ = (([a0] : List Int)) := ⟨_, rfl⟩
    replace H : ((quill_Number.f k ([] : List Int) y363).bind fun t366 => ((quill_Text.f k t366 (([a1] : List ByteArray))).bind fun t372 => (if a2 < 0 then (klaxonlaw01_QuillShort.j0 k a0 a1 a2 t372 true) else (klaxonlaw01_QuillShort.j0 k a0 a1 a2 t372 (decide (a2 ≥ (t372.length : Int))))))) = some true := by first | (rw [hy363]; with_reducible exact H) | (have H2_ := (Option.bind_some _ _).symm.trans H; rw [hy363]; with_reducible exact H2_) | (have H2_ := (Option.bind_some _ _).symm.trans H; with_reducible exact H2_) | with_reducible exact H | (rw [hy363]; exact H) | exact H
    have Ny363 := Aside0.mk hy363
    clear hy363
    replace H := Option.bind_eq_some_iff.mp H
    obtain ⟨t366, A70, H⟩ := H
    replace H : ((quill_Text.f k t366 (([a1] : List ByteArray))).bind fun t372 => (if a2 < 0 then (klaxonlaw01_QuillShort.j0 k a0 a1 a2 t372 true) else (klaxonlaw01_QuillShort.j0 k a0 a1 a2 t372 (decide (a2 ≥ (t372.length : Int)))))) = some true := H
    have A7 := Aside0.mk A70
    clear A70
    obtain ⟨y369, hy369⟩ : ∃ y_ : List ByteArray, y_ = (([a1] : List ByteArray)) := ⟨_, rfl⟩
    replace H : ((quill_Text.f k t366 y369).bind fun t372 => (if a2 < 0 then (klaxonlaw01_QuillShort.j0 k a0 a1 a2 t372 true) else (klaxonlaw01_QuillShort.j0 k a0 a1 a2 t372 (decide (a2 ≥ (t372.length : Int)))))) = some true := by first | (rw [hy369]; with_reducible exact H) | (have H2_ := (Option.bind_some _ _).symm.trans H; rw [hy369]; with_reducible exact H2_) | (have H2_ := (Option.bind_some _ _).symm.trans H; with_reducible exact H2_) | with_reducible exact H | (rw [hy369]; exact H) | exact H
    have Ny369 := Aside0.mk hy369
    clear hy369
    replace H := Option.bind_eq_some_iff.mp H
    obtain ⟨t372, A80, H⟩ := H
    replace H : (if a2 < 0 then (klaxonlaw01_QuillShort.j0 k a0 a1 a2 t372 true) else (klaxonlaw01_QuillShort.j0 k a0 a1 a2 t372 (decide (a2 ≥ (t372.length : Int))))) = some true := H
    have A8 := Aside0.mk A80
    clear A80
    have HC9 := Aside0.mk H
    clear H
    go_enter Try.func12, Try.ntmps12
    go_upto_region 4 with (first | ((with_reducible refine gate_dst (N := 19) rfl ?_); (try (refine gate_guard (by rfl) ?_; dsimp only)); refine Kd.R_lit (Kd.int .u64) _ 51 ?hg (N := 19) ?hd (xs := ([a0] : List Int)) (inner := [.int .u64 a0]) (ok := fun _ => True) (okp := fun _ => True) ?hr ?hp (fun _ hk => hk) trivial (Below.refl _ _) (Nat.le_refl _) (by simp) ?_; (case hd => rfl); (case hg => rfl); (case hr => first | (go_simp; done) | (go_simp; rfl)); (case hp => exact (Reps.one (show Kd.M (Kd.int .u64) _ _ _ a0 [.int .u64 a0] from rfl) (Reps.none _ _))); intro v364 w10 ho11 hb hg_ hnew_; clear hg_ hnew_; (first | rw [← Ny363.out] at ho11 | (simp only [Int.reduceToNat] at ho11; rw [← Ny363.out] at ho11)); have n0_ := Aside0.mk (Kd.R_lower ho11 (below_size (by repeat (first | (with_reducible first | exact HB.out | apply below_alloc | apply pw_below_drewN | apply below_drew1) | exact HB.out)))); have n1_ := Aside0.mk (below_step (by repeat (first | (with_reducible first | exact HB.out | apply below_alloc | apply pw_below_drewN | apply below_drew1) | exact HB.out)) hb); clear HB; have HO365 := n0_; have HB := n1_; clear n0_ n1_; clear hb ho11; obtain ⟨Ao12, co12, eo12⟩ := Kd.R_slice HO365.out; subst eo12) | ((with_reducible refine gate_callee (f := 29) rfl ?_); refine goesL_ (some 20) rfl rfl Try.func29 (by kernel_rfl) rfl #[.slice none 0 0, .slice Ao12 y363.length co12] rfl (by (try simp only [List.map_toArray, List.map_cons, List.map_nil]); first | done | rfl | (simp only [List.length_drop, List.length_take]; rfl)) ?_; (refine (quill_Number.calls k (fun k_ => some k_ = (.slice none 0 0 : Value).ownBlock) (.slice none 0 0) ([] : List Int) _ _ y363 t366 w _ ?side1 ?side2 ?side3 ?side4 A7.out).mono ?_); (case side1 => repeat (first | (with_reducible first | exact HB.out | apply below_alloc | apply pw_below_drewN | apply below_drew1) | exact HB.out)); (case side2 => exact Kd.R_nil _ _ _ _ _); (case side3 => exact Kd.C_kept_own (HO365.out) (fun k_ hk_ hs_ => (fun e_ => by simp [Value.ownBlock] at e_) hs_)); (case side4 => exact (Kd.R_reads' HO365.out).2.1); rintro e w13 ⟨v367, rfl, ho0, hb, hkp⟩; refine ⟨_, rfl, ?_⟩; have n0_ := Aside0.mk (Kd.R_mono (ok' := fun k_ => True) (Kd.R_keptB (HO365.out) hkp (fun k_ hk_ hs_ => (fun e_ => by simp [Value.ownBlock] at e_) hs_)) (fun k_ hk_ => trivial)); have n1_ := Aside0.mk (Kd.R_mono (ok' := fun k_ => True) ho0 (fun k_ hk_ => trivial)); have n2_ := Aside0.mk (hb); clear HO365; clear HB; have HO365 := n0_; have HO368 := n1_; have HB := n2_; clear n0_ n1_ n2_; (try clear hb); (try clear hkp); (try clear ho0)) | ((with_reducible refine gate_dst (N := 22) rfl ?_); (try (refine gate_guard (by rfl) ?_; dsimp only)); refine Kd.R_lit Kd.string _ 9 ?hg (N := 22) ?hd (xs := ([a1] : List ByteArray)) (inner := [.string a1]) (ok := fun _ => True) (okp := fun _ => True) ?hr ?hp (fun _ hk => hk) trivial (Below.refl _ _) (Nat.le_refl _) (by simp) ?_; (case hd => rfl); (case hg => rfl); (case hr => first | (go_simp; done) | (go_simp; rfl)); (case hp => exact (Reps.one (show Kd.M Kd.string _ _ _ a1 [.string a1] from rfl) (Reps.none _ _))); intro v370 w14 ho15 hb hg_ hnew_; clear hg_ hnew_; (first | rw [← Ny369.out] at ho15 | (simp only [Int.reduceToNat] at ho15; rw [← Ny369.out] at ho15)); have n0_ := Aside0.mk (Kd.R_below (by (with_reducible repeat (first | apply Kd.R_alloc | apply Kd.R_drewN | apply Kd.R_drew)); exact HO365.out) hb); have n1_ := Aside0.mk (Kd.R_below (by (with_reducible repeat (first | apply Kd.R_alloc | apply Kd.R_drewN | apply Kd.R_drew)); exact HO368.out) hb); have n2_ := Aside0.mk (Kd.R_lower ho15 (below_size (by repeat (first | (with_reducible first | exact HB.out | apply below_alloc | apply pw_below_drewN | apply below_drew1) | exact HB.out)))); have n3_ := Aside0.mk (below_step (by repeat (first | (with_reducible first | exact HB.out | apply below_alloc | apply pw_below_drewN | apply below_drew1) | exact HB.out)) hb); clear HO365; clear HO368; clear HB; have HO365 := n0_; have HO368 := n1_; have HO371 := n2_; have HB := n3_; clear n0_ n1_ n2_ n3_; clear hb ho15; obtain ⟨Ao16, co16, eo16⟩ := Kd.R_slice HO368.out; subst eo16; obtain ⟨Ao17, co17, eo17⟩ := Kd.R_slice HO371.out; subst eo17) | ((with_reducible refine gate_callee (f := 42) rfl ?_); refine goesL_ (some 23) rfl rfl Try.func42 (by kernel_rfl) rfl #[.slice Ao16 t366.length co16, .slice Ao17 y369.length co17] rfl (by (try simp only [List.map_toArray, List.map_cons, List.map_nil]); first | done | rfl | (simp only [List.length_drop, List.length_take]; rfl)) ?_; (with_reducible refine (quill_Text.calls k (fun k_ => some k_ = (.slice Ao16 t366.length co16 : Value).ownBlock) (.slice Ao16 t366.length co16) t366 _ _ y369 t372 w _ ?side1 ?side2 ?side3 ?side4 A8.out).mono ?_); (case side1 => repeat (first | (with_reducible first | exact HB.out | apply below_alloc | apply pw_below_drewN | apply below_drew1) | exact HB.out)); (case side2 => exact Kd.R_tight rfl HO368.out); (case side3 => exact Kd.C_kept_own ((Kd.R_apart' HO371.out (Kd.R_typed HO368.out) (by decide))) (fun k_ hk_ hs_ => (hk_.2) hs_)); (case side4 => exact (Kd.R_reads' HO371.out).2.1); rintro e w18 ⟨v373, rfl, ho0, hb, hkp⟩; refine ⟨_, rfl, ?_⟩; have n0_ := Aside0.mk (Kd.R_mono (ok' := fun k_ => True) (Kd.R_keptB ((Kd.R_apart' HO365.out (Kd.R_typed HO368.out) (by decide))) hkp (fun k_ hk_ hs_ => (hk_.2) hs_)) (fun k_ hk_ => trivial)); have n1_ := Aside0.mk (Kd.R_mono (ok' := fun k_ => True) (Kd.R_keptB ((Kd.R_apart' HO371.out (Kd.R_typed HO368.out) (by decide))) hkp (fun k_ hk_ hs_ => (hk_.2) hs_)) (fun k_ hk_ => trivial)); have n2_ := Aside0.mk (Kd.R_mono (ok' := fun k_ => True) ho0 (fun k_ hk_ => trivial)); have n3_ := Aside0.mk (hb); clear HO365; clear HO371; clear HB; clear HO368; have HO365 := n0_; have HO371 := n1_; have HO374 := n2_; have HB := n3_; clear n0_ n1_ n2_ n3_; (try clear hb); (try clear hkp); (try clear ho0)))
    (try simp only [Act.put, List.setIfInBounds_toArray, List.set_cons_zero, List.set_cons_succ])
    go_cut [31] (fun v31 wc => ∃ (kq : Nat) (x31_8 : Bool), v31 = .bool x31_8 ∧ Aside0 (klaxonlaw01_QuillShort.j0 kq a0 a1 a2 t372 x31_8 = some true) ∧ Aside0 (kq ≤ k) ∧ Aside0 (Kd.R (Kd.int .u8) 5 wc w.heap.size (fun _ => True) v373 t372) ∧ Aside0 (Below w.heap.size w wc))
    case first =>
      have H := HC9.out
      clear HC9
      by_cases c19 : a2 < 0
      · rw [if_pos c19] at H
        have c19b0 : decide (a2 < 0) = true := decide_eq_true c19
        clear c19
        (first | rw [c19b0] | (simp only [i64_w, i32_w]; rw [c19b0]) | skip)
        have H' := Aside0.mk H
        clear H
        go_wp2
        go_meet
        case rel => exact ⟨_, (true), (by first | rfl | (simp; done) | (simp [*]; done)), H', ⟨by first | omega | exact Nat.le_refl _⟩, ⟨by (with_reducible repeat (first | apply Kd.R_alloc | apply Kd.R_drewN | apply Kd.R_drew)); exact HO374.out⟩, ⟨by repeat (first | (with_reducible first | exact HB.out | apply below_alloc | apply pw_below_drewN | apply below_drew1) | exact HB.out)⟩⟩
      · rw [if_neg c19] at H
        have c19b0 : decide (a2 < 0) = false := decide_eq_false c19
        clear c19
        (first | rw [c19b0] | (simp only [i64_w, i32_w]; rw [c19b0]) | skip)
        have H' := Aside0.mk H
        clear H
        obtain ⟨Ao20, co20, eo20⟩ := Kd.R_slice HO374.out
        subst eo20
        go_wp2
        go_meet
        case rel => exact ⟨_, (decide (a2 ≥ (t372.length : Int))), (by first | rfl | (simp; done) | (simp [*]; done)), H', ⟨by first | omega | exact Nat.le_refl _⟩, ⟨by (with_reducible repeat (first | apply Kd.R_alloc | apply Kd.R_drewN | apply Kd.R_drew)); exact HO374.out⟩, ⟨by repeat (first | (with_reducible first | exact HB.out | apply below_alloc | apply pw_below_drewN | apply below_drew1) | exact HB.out)⟩⟩
    case rest =>
      clear HC9
      try clear c1
      try clear c2
      try clear p2
      try clear c4
      try clear c4b0
      try clear c4b1
      try clear c12
      try clear c19
      try clear c19b0
      obtain ⟨kq, x31_8, rfl, HA, HJ8, HO_7, HB⟩ := hcut
      cases kq with
      | zero => exact absurd HA.out (by simp [klaxonlaw01_QuillShort.j0])
      | succ kj8 =>
        have H := HA.out
        clear HA
        simp only [klaxonlaw01_QuillShort.j0] at H
        by_cases c21 : x31_8 = true
        · subst c21
          have H1 : ((klaxonlaw01_live.f).bind fun t375 => (some t375)) = some true := by rw [if_pos rfl] at H; exact H
          clear H
          have H := H1
          clear H1
          replace H := Option.bind_eq_some_iff.mp H
          obtain ⟨t375, A220, H⟩ := H
          replace H : (some t375) = some true := H
          have A22 := Aside0.mk A220
          clear A220
          have H9_ := Option.some.inj H
          clear H
          go_wp2_with (first | ((with_reducible refine gate_callee (f := 28) rfl ?_); refine goesL_ (some 32) rfl rfl Try.func28 (by kernel_rfl) rfl #[] rfl (by (try simp only [List.map_toArray, List.map_cons, List.map_nil]); first | done | rfl | (simp only [List.length_drop, List.length_take]; rfl)) ?_; (with_reducible refine (klaxonlaw01_live.calls  t375 _ A22.out).mono ?_); rintro e w23 ⟨rfl, hb⟩; refine ⟨_, rfl, ?_⟩; have n0_ := Aside0.mk (Kd.R_below (by (with_reducible repeat (first | apply Kd.R_alloc | apply Kd.R_drewN | apply Kd.R_drew)); exact HO_7.out) hb); have n1_ := Aside0.mk (below_step (by repeat (first | (with_reducible first | exact HB.out | apply below_alloc | apply pw_below_drewN | apply below_drew1) | exact HB.out)) hb); clear HO_7; clear HB; have HO_7 := n0_; have HB := n1_; clear n0_ n1_; (try clear hb); (try clear hb2); (try clear hk); (try clear hi)))
          go_ret
          exact ⟨by first | rfl | (simp [errW_none, errW_some] <;> rfl) | (simp [*, errW_none, errW_some] <;> rfl), by repeat (first | (with_reducible first | exact HB.out | apply below_alloc | apply pw_below_drewN | apply below_drew1) | exact HB.out)⟩
        · replace c21 := Bool.eq_false_iff.mpr c21
          subst c21
          have H1 : ((quill_Number.f kj8 ([] : List Int) (([a0] : List Int))).bind fun t379 => (if 0 ≤ a2 then (if a2 ≤ (t372.length : Int) then ((quill_Unroll.f (t372.take (a2 : Int).toNat)).bind fun bt386 => ((quill_Strip_Number.f bt386.1 bt386.2.1 bt386.2.2.1 bt386.2.2.2).bind fun bt391 => ((quill_Strip_Text.f bt386.1 bt391.2.1 bt391.2.2.1 bt391.2.2.2 (a1.size : Int)).bind fun bt395 => ((quill_Strip_Bad.f bt386.1 bt395.2.1 bt395.2.2.1 bt395.2.2.2).bind fun bt399 => (if a2 < (t379.length : Int) then (if bt391.1 = 0 then (if bt395.1.toList = ([] : List UInt8) then ((klaxonlaw01_num.f bt399.1).bind fun t404 => (if t404 = 3 then (if bt399.2.1 = 0 then ((quill_Strip_Where.f bt386.1 bt399.2.2.1 bt399.2.2.2.1 bt399.2.2.2.2).bind fun bt405 => (if bt405.1 = 0 then ((klaxonlaw01_live.f).bind fun t409 => (some t409)) else (some false))) else (some false)) else (some false))) else (some false)) else (some false)) else (if bt391.1 = a0 then (if bt395.1.toList = ([] : List UInt8) then ((klaxonlaw01_num.f bt399.1).bind fun t410 => (if t410 = 3 then (if bt399.2.1 = (t379.length : Int) then ((quill_Strip_Where.f bt386.1 bt399.2.2.1 bt399.2.2.2.1 bt399.2.2.2.2).bind fun bt411 => (if bt411.1 = (t379.length : Int) then ((quill_Strip_Over.f bt386.1 bt411.2.1 bt411.2.2.1 bt411.2.2.2).bind fun bt415 => ((klaxonlaw01_num.f bt415.1).bind fun t419 => (if t419 = 3 then ((klaxonlaw01_live.f).bind fun t420 => (some t420)) else (some false)))) else (some false))) else (some false)) else (some false))) else (some false)) else (some false))))))) else (none)) else (none))) = some true := by rw [if_neg (show ¬ (false = true) by decide)] at H; exact H
          clear H
          have H := H1
          clear H1
          obtain ⟨y376, hy376⟩ : ∃ y_ : List Int, y_ = (([a0] : List Int)) := ⟨_, rfl⟩
          replace H : ((quill_Number.f kj8 ([] : List Int) y376).bind fun t379 => (if 0 ≤ a2 then (if a2 ≤ (t372.length : Int) then ((quill_Unroll.f (t372.take (a2 : Int).toNat)).bind fun bt386 => ((quill_Strip_Number.f bt386.1 bt386.2.1 bt386.2.2.1 bt386.2.2.2).bind fun bt391 => ((quill_Strip_Text.f bt386.1 bt391.2.1 bt391.2.2.1 bt391.2.2.2 (a1.size : Int)).bind fun bt395 => ((quill_Strip_Bad.f bt386.1 bt395.2.1 bt395.2.2.1 bt395.2.2.2).bind fun bt399 => (if a2 < (t379.length : Int) then (if bt391.1 = 0 then (if bt395.1.toList = ([] : List UInt8) then ((klaxonlaw01_num.f bt399.1).bind fun t404 => (if t404 = 3 then (if bt399.2.1 = 0 then ((quill_Strip_Where.f bt386.1 bt399.2.2.1 bt399.2.2.2.1 bt399.2.2.2.2).bind fun bt405 => (if bt405.1 = 0 then ((klaxonlaw01_live.f).bind fun t409 => (some t409)) else (some false))) else (some false)) else (some false))) else (some false)) else (some false)) else (if bt391.1 = a0 then (if bt395.1.toList = ([] : List UInt8) then ((klaxonlaw01_num.f bt399.1).bind fun t410 => (if t410 = 3 then (if bt399.2.1 = (t379.length : Int) then ((quill_Strip_Where.f bt386.1 bt399.2.2.1 bt399.2.2.2.1 bt399.2.2.2.2).bind fun bt411 => (if bt411.1 = (t379.length : Int) then ((quill_Strip_Over.f bt386.1 bt411.2.1 bt411.2.2.1 bt411.2.2.2).bind fun bt415 => ((klaxonlaw01_num.f bt415.1).bind fun t419 => (if t419 = 3 then ((klaxonlaw01_live.f).bind fun t420 => (some t420)) else (some false)))) else (some false))) else (some false)) else (some false))) else (some false)) else (some false))))))) else (none)) else (none))) = some true := by first | (rw [hy376]; with_reducible exact H) | (have H2_ := (Option.bind_some _ _).symm.trans H; rw [hy376]; with_reducible exact H2_) | (have H2_ := (Option.bind_some _ _).symm.trans H; with_reducible exact H2_) | with_reducible exact H | (rw [hy376]; exact H) | exact H
          have Ny376 := Aside0.mk hy376
          clear hy376
          replace H := Option.bind_eq_some_iff.mp H
          obtain ⟨t379, A240, H⟩ := H
          replace H : (if 0 ≤ a2 then (if a2 ≤ (t372.length : Int) then ((quill_Unroll.f (t372.take (a2 : Int).toNat)).bind fun bt386 => ((quill_Strip_Number.f bt386.1 bt386.2.1 bt386.2.2.1 bt386.2.2.2).bind fun bt391 => ((quill_Strip_Text.f bt386.1 bt391.2.1 bt391.2.2.1 bt391.2.2.2 (a1.size : Int)).bind fun bt395 => ((quill_Strip_Bad.f bt386.1 bt395.2.1 bt395.2.2.1 bt395.2.2.2).bind fun bt399 => (if a2 < (t379.length : Int) then (if bt391.1 = 0 then (if bt395.1.toList = ([] : List UInt8) then ((klaxonlaw01_num.f bt399.1).bind fun t404 => (if t404 = 3 then (if bt399.2.1 = 0 then ((quill_Strip_Where.f bt386.1 bt399.2.2.1 bt399.2.2.2.1 bt399.2.2.2.2).bind fun bt405 => (if bt405.1 = 0 then ((klaxonlaw01_live.f).bind fun t409 => (some t409)) else (some false))) else (some false)) else (some false))) else (some false)) else (some false)) else (if bt391.1 = a0 then (if bt395.1.toList = ([] : List UInt8) then ((klaxonlaw01_num.f bt399.1).bind fun t410 => (if t410 = 3 then (if bt399.2.1 = (t379.length : Int) then ((quill_Strip_Where.f bt386.1 bt399.2.2.1 bt399.2.2.2.1 bt399.2.2.2.2).bind fun bt411 => (if bt411.1 = (t379.length : Int) then ((quill_Strip_Over.f bt386.1 bt411.2.1 bt411.2.2.1 bt411.2.2.2).bind fun bt415 => ((klaxonlaw01_num.f bt415.1).bind fun t419 => (if t419 = 3 then ((klaxonlaw01_live.f).bind fun t420 => (some t420)) else (some false)))) else (some false))) else (some false)) else (some false))) else (some false)) else (some false))))))) else (none)) else (none)) = some true := H
          have A24 := Aside0.mk A240
          clear A240
          by_cases c25 : 0 ≤ a2
          · rw [if_pos c25] at H
            have c25b0 := eq_true c25
            have c25b1 : decide (0 ≤ a2) = true := decide_eq_true c25
            clear c25
            by_cases c26 : a2 ≤ (t372.length : Int)
            · rw [if_pos c26] at H
              have c26b0 := eq_true c26
              have c26b1 : decide (a2 ≤ (t372.length : Int)) = true := decide_eq_true c26
              clear c26
              obtain ⟨y382, hy382⟩ : ∃ y_ : List Int, y_ = (t372.take (a2 : Int).toNat) := ⟨_, rfl⟩
              replace H : ((quill_Unroll.f y382).bind fun bt386 => ((quill_Strip_Number.f bt386.1 bt386.2.1 bt386.2.2.1 bt386.2.2.2).bind fun bt391 => ((quill_Strip_Text.f bt386.1 bt391.2.1 bt391.2.2.1 bt391.2.2.2 (a1.size : Int)).bind fun bt395 => ((quill_Strip_Bad.f bt386.1 bt395.2.1 bt395.2.2.1 bt395.2.2.2).bind fun bt399 => (if a2 < (t379.length : Int) then (if bt391.1 = 0 then (if bt395.1.toList = ([] : List UInt8) then ((klaxonlaw01_num.f bt399.1).bind fun t404 => (if t404 = 3 then (if bt399.2.1 = 0 then ((quill_Strip_Where.f bt386.1 bt399.2.2.1 bt399.2.2.2.1 bt399.2.2.2.2).bind fun bt405 => (if bt405.1 = 0 then ((klaxonlaw01_live.f).bind fun t409 => (some t409)) else (some false))) else (some false)) else (some false))) else (some false)) else (some false)) else (if bt391.1 = a0 then (if bt395.1.toList = ([] : List UInt8) then ((klaxonlaw01_num.f bt399.1).bind fun t410 => (if t410 = 3 then (if bt399.2.1 = (t379.length : Int) then ((quill_Strip_Where.f bt386.1 bt399.2.2.1 bt399.2.2.2.1 bt399.2.2.2.2).bind fun bt411 => (if bt411.1 = (t379.length : Int) then ((quill_Strip_Over.f bt386.1 bt411.2.1 bt411.2.2.1 bt411.2.2.2).bind fun bt415 => ((klaxonlaw01_num.f bt415.1).bind fun t419 => (if t419 = 3 then ((klaxonlaw01_live.f).bind fun t420 => (some t420)) else (some false)))) else (some false))) else (some false)) else (some false))) else (some false)) else (some false))))))) = some true := by first | (rw [hy382]; with_reducible exact H) | (have H2_ := (Option.bind_some _ _).symm.trans H; rw [hy382]; with_reducible exact H2_) | (have H2_ := (Option.bind_some _ _).symm.trans H; with_reducible exact H2_) | with_reducible exact H | (rw [hy382]; exact H) | exact H
              have Ny382 := Aside0.mk hy382
              clear hy382
              replace H := Option.bind_eq_some_iff.mp H
              obtain ⟨⟨t386, t387, t388, t389⟩, A270, H⟩ := H
              replace H : ((quill_Strip_Number.f t386 t387 t388 t389).bind fun bt391 => ((quill_Strip_Text.f t386 bt391.2.1 bt391.2.2.1 bt391.2.2.2 (a1.size : Int)).bind fun bt395 => ((quill_Strip_Bad.f t386 bt395.2.1 bt395.2.2.1 bt395.2.2.2).bind fun bt399 => (if a2 < (t379.length : Int) then (if bt391.1 = 0 then (if bt395.1.toList = ([] : List UInt8) then ((klaxonlaw01_num.f bt399.1).bind fun t404 => (if t404 = 3 then (if bt399.2.1 = 0 then ((quill_Strip_Where.f t386 bt399.2.2.1 bt399.2.2.2.1 bt399.2.2.2.2).bind fun bt405 => (if bt405.1 = 0 then ((klaxonlaw01_live.f).bind fun t409 => (some t409)) else (some false))) else (some false)) else (some false))) else (some false)) else (some false)) else (if bt391.1 = a0 then (if bt395.1.toList = ([] : List UInt8) then ((klaxonlaw01_num.f bt399.1).bind fun t410 => (if t410 = 3 then (if bt399.2.1 = (t379.length : Int) then ((quill_Strip_Where.f t386 bt399.2.2.1 bt399.2.2.2.1 bt399.2.2.2.2).bind fun bt411 => (if bt411.1 = (t379.length : Int) then ((quill_Strip_Over.f t386 bt411.2.1 bt411.2.2.1 bt411.2.2.2).bind fun bt415 => ((klaxonlaw01_num.f bt415.1).bind fun t419 => (if t419 = 3 then ((klaxonlaw01_live.f).bind fun t420 => (some t420)) else (some false)))) else (some false))) else (some false)) else (some false))) else (some false)) else (some false)))))) = some true := H
              have A27 := Aside0.mk A270
              clear A270
              replace H := Option.bind_eq_some_iff.mp H
              obtain ⟨⟨t391, t392, t393, t394⟩, A280, H⟩ := H
              replace H : ((quill_Strip_Text.f t386 t392 t393 t394 (a1.size : Int)).bind fun bt395 => ((quill_Strip_Bad.f t386 bt395.2.1 bt395.2.2.1 bt395.2.2.2).bind fun bt399 => (if a2 < (t379.length : Int) then (if t391 = 0 then (if bt395.1.toList = ([] : List UInt8) then ((klaxonlaw01_num.f bt399.1).bind fun t404 => (if t404 = 3 then (if bt399.2.1 = 0 then ((quill_Strip_Where.f t386 bt399.2.2.1 bt399.2.2.2.1 bt399.2.2.2.2).bind fun bt405 => (if bt405.1 = 0 then ((klaxonlaw01_live.f).bind fun t409 => (some t409)) else (some false))) else (some false)) else (some false))) else (some false)) else (some false)) else (if t391 = a0 then (if bt395.1.toList = ([] : List UInt8) then ((klaxonlaw01_num.f bt399.1).bind fun t410 => (if t410 = 3 then (if bt399.2.1 = (t379.length : Int) then ((quill_Strip_Where.f t386 bt399.2.2.1 bt399.2.2.2.1 bt399.2.2.2.2).bind fun bt411 => (if bt411.1 = (t379.length : Int) then ((quill_Strip_Over.f t386 bt411.2.1 bt411.2.2.1 bt411.2.2.2).bind fun bt415 => ((klaxonlaw01_num.f bt415.1).bind fun t419 => (if t419 = 3 then ((klaxonlaw01_live.f).bind fun t420 => (some t420)) else (some false)))) else (some false))) else (some false)) else (some false))) else (some false)) else (some false))))) = some true := H
              have A28 := Aside0.mk A280
              clear A280
              replace H := Option.bind_eq_some_iff.mp H
              obtain ⟨⟨t395, t396, t397, t398⟩, A290, H⟩ := H
              replace H : ((quill_Strip_Bad.f t386 t396 t397 t398).bind fun bt399 => (if a2 < (t379.length : Int) then (if t391 = 0 then (if t395.toList = ([] : List UInt8) then ((klaxonlaw01_num.f bt399.1).bind fun t404 => (if t404 = 3 then (if bt399.2.1 = 0 then ((quill_Strip_Where.f t386 bt399.2.2.1 bt399.2.2.2.1 bt399.2.2.2.2).bind fun bt405 => (if bt405.1 = 0 then ((klaxonlaw01_live.f).bind fun t409 => (some t409)) else (some false))) else (some false)) else (some false))) else (some false)) else (some false)) else (if t391 = a0 then (if t395.toList = ([] : List UInt8) then ((klaxonlaw01_num.f bt399.1).bind fun t410 => (if t410 = 3 then (if bt399.2.1 = (t379.length : Int) then ((quill_Strip_Where.f t386 bt399.2.2.1 bt399.2.2.2.1 bt399.2.2.2.2).bind fun bt411 => (if bt411.1 = (t379.length : Int) then ((quill_Strip_Over.f t386 bt411.2.1 bt411.2.2.1 bt411.2.2.2).bind fun bt415 => ((klaxonlaw01_num.f bt415.1).bind fun t419 => (if t419 = 3 then ((klaxonlaw01_live.f).bind fun t420 => (some t420)) else (some false)))) else (some false))) else (some false)) else (some false))) else (some false)) else (some false)))) = some true := H
              have A29 := Aside0.mk A290
              clear A290
              replace H := Option.bind_eq_some_iff.mp H
              obtain ⟨⟨t399, t400, t401, t402, t403⟩, A300, H⟩ := H
              replace H : (if a2 < (t379.length : Int) then (if t391 = 0 then (if t395.toList = ([] : List UInt8) then ((klaxonlaw01_num.f t399).bind fun t404 => (if t404 = 3 then (if t400 = 0 then ((quill_Strip_Where.f t386 t401 t402 t403).bind fun bt405 => (if bt405.1 = 0 then ((klaxonlaw01_live.f).bind fun t409 => (some t409)) else (some false))) else (some false)) else (some false))) else (some false)) else (some false)) else (if t391 = a0 then (if t395.toList = ([] : List UInt8) then ((klaxonlaw01_num.f t399).bind fun t410 => (if t410 = 3 then (if t400 = (t379.length : Int) then ((quill_Strip_Where.f t386 t401 t402 t403).bind fun bt411 => (if bt411.1 = (t379.length : Int) then ((quill_Strip_Over.f t386 bt411.2.1 bt411.2.2.1 bt411.2.2.2).bind fun bt415 => ((klaxonlaw01_num.f bt415.1).bind fun t419 => (if t419 = 3 then ((klaxonlaw01_live.f).bind fun t420 => (some t420)) else (some false)))) else (some false))) else (some false)) else (some false))) else (some false)) else (some false))) = some true := H
              have A30 := Aside0.mk A300
              clear A300
              by_cases c31 : a2 < (t379.length : Int)
              · rw [if_pos c31] at H
                have c31b0 : decide (a2 < (t379.length : Int)) = true := decide_eq_true c31
                clear c31
                by_cases c32 : t391 = 0
                · rw [if_pos c32] at H
                  have c32b0 : (t391 == 0) = true := beq_iff_eq.mpr c32
                  have c32b1 : (t391 != 0) = false := bne_eq_false_iff_eq.mpr c32
                  clear c32
                  by_cases c33 : t395.toList = ([] : List UInt8)
                  · rw [if_pos c33] at H
                    have c33b0 : (t395.toList == ([] : List UInt8)) = true := beq_iff_eq.mpr c33
                    have c33b1 : (t395.toList != ([] : List UInt8)) = false := bne_eq_false_iff_eq.mpr c33
                    clear c33
                    replace H := Option.bind_eq_some_iff.mp H
                    obtain ⟨t404, A340, H⟩ := H
                    replace H : (if t404 = 3 then (if t400 = 0 then ((quill_Strip_Where.f t386 t401 t402 t403).bind fun bt405 => (if bt405.1 = 0 then ((klaxonlaw01_live.f).bind fun t409 => (some t409)) else (some false))) else (some false)) else (some false)) = some true := H
                    have A34 := Aside0.mk A340
                    clear A340
                    by_cases c35 : t404 = 3
                    · rw [if_pos c35] at H
                      have c35b0 : (t404 == 3) = true := beq_iff_eq.mpr c35
                      have c35b1 : (t404 != 3) = false := bne_eq_false_iff_eq.mpr c35
                      clear c35
                      by_cases c36 : t400 = 0
                      · rw [if_pos c36] at H
                        have c36b0 : (t400 == 0) = true := beq_iff_eq.mpr c36
                        have c36b1 : (t400 != 0) = false := bne_eq_false_iff_eq.mpr c36
                        clear c36
                        replace H := Option.bind_eq_some_iff.mp H
                        obtain ⟨⟨t405, t406, t407, t408⟩, A370, H⟩ := H
                        replace H : (if t405 = 0 then ((klaxonlaw01_live.f).bind fun t409 => (some t409)) else (some false)) = some true := H
                        have A37 := Aside0.mk A370
                        clear A370
                        by_cases c38 : t405 = 0
                        · rw [if_pos c38] at H
                          have c38b0 : (t405 == 0) = true := beq_iff_eq.mpr c38
                          have c38b1 : (t405 != 0) = false := bne_eq_false_iff_eq.mpr c38
                          clear c38
                          replace H := Option.bind_eq_some_iff.mp H
                          obtain ⟨t409, A390, H⟩ := H
                          replace H : (some t409) = some true := H
                          have A39 := Aside0.mk A390
                          clear A390
                          have H9_ := Option.some.inj H
                          clear H
                          go_wp2_with (first | ((with_reducible refine gate_dst (N := 34) rfl ?_); (try (refine gate_guard (by rfl) ?_; dsimp only)); refine Kd.R_lit (Kd.int .u64) _ 51 ?hg (N := 34) ?hd (xs := ([a0] : List Int)) (inner := [.int .u64 a0]) (ok := fun _ => True) (okp := fun _ => True) ?hr ?hp (fun _ hk => hk) trivial (Below.refl _ _) (Nat.le_refl _) (by simp) ?_; (case hd => rfl); (case hg => rfl); (case hr => first | (go_simp; done) | (go_simp; rfl)); (case hp => exact (Reps.one (show Kd.M (Kd.int .u64) _ _ _ a0 [.int .u64 a0] from rfl) (Reps.none _ _))); intro v377 w40 ho41 hb hg_ hnew_; clear hg_ hnew_; (first | rw [← Ny376.out] at ho41 | (simp only [Int.reduceToNat] at ho41; rw [← Ny376.out] at ho41)); have n0_ := Aside0.mk (Kd.R_below (by (with_reducible repeat (first | apply Kd.R_alloc | apply Kd.R_drewN | apply Kd.R_drew)); exact HO_7.out) hb); have n1_ := Aside0.mk (Kd.R_lower ho41 (below_size (by repeat (first | (with_reducible first | exact HB.out | apply below_alloc | apply pw_below_drewN | apply below_drew1) | exact HB.out)))); have n2_ := Aside0.mk (below_step (by repeat (first | (with_reducible first | exact HB.out | apply below_alloc | apply pw_below_drewN | apply below_drew1) | exact HB.out)) hb); clear HO_7; clear HB; have HO_7 := n0_; have HO378 := n1_; have HB := n2_; clear n0_ n1_ n2_; clear hb ho41; obtain ⟨Ao42, co42, eo42⟩ := Kd.R_slice HO378.out; subst eo42) | ((with_reducible refine gate_callee (f := 29) rfl ?_); refine goesL_ (some 35) rfl rfl Try.func29 (by kernel_rfl) rfl #[.slice none 0 0, .slice Ao42 y376.length co42] rfl (by (try simp only [List.map_toArray, List.map_cons, List.map_nil]); first | done | rfl | (simp only [List.length_drop, List.length_take]; rfl)) ?_; (refine (quill_Number.calls kj8 (fun k_ => some k_ = (.slice none 0 0 : Value).ownBlock) (.slice none 0 0) ([] : List Int) _ _ y376 t379 w _ ?side1 ?side2 ?side3 ?side4 A24.out).mono ?_); (case side1 => repeat (first | (with_reducible first | exact HB.out | apply below_alloc | apply pw_below_drewN | apply below_drew1) | exact HB.out)); (case side2 => exact Kd.R_nil _ _ _ _ _); (case side3 => exact Kd.C_kept_own (HO378.out) (fun k_ hk_ hs_ => (fun e_ => by simp [Value.ownBlock] at e_) hs_)); (case side4 => exact (Kd.R_reads' HO378.out).2.1); rintro e w43 ⟨v380, rfl, ho0, hb, hkp⟩; refine ⟨_, rfl, ?_⟩; have n0_ := Aside0.mk (Kd.R_mono (ok' := fun k_ => some k_ ≠ (v380 : Value).ownBlock) (Kd.R_keptB (HO_7.out) hkp (fun k_ hk_ hs_ => (fun e_ => by simp [Value.ownBlock] at e_) hs_)) (fun k_ hk_ => fun e_ => Or.elim (ho0.1 k_ e_.symm) (fun hs_ => hk_.2.1 hs_) (fun hn_ => Nat.not_le.2 hk_.2.2 hn_))); have n1_ := Aside0.mk (Kd.R_mono (ok' := fun k_ => True) (Kd.R_keptB (HO378.out) hkp (fun k_ hk_ hs_ => (fun e_ => by simp [Value.ownBlock] at e_) hs_)) (fun k_ hk_ => trivial)); have n2_ := Aside0.mk (Kd.R_mono (ok' := fun k_ => some k_ ≠ (v373 : Value).ownBlock) ho0 (fun k_ hk_ => Or.elim hk_ (fun hs_ => absurd hs_ (by simp [Value.ownBlock])) (fun hn_ => (Kd.fresh' (Kd.R_lt (by (with_reducible repeat (first | apply Kd.R_alloc | apply Kd.R_drewN | apply Kd.R_drew)); exact HO_7.out)) k_ hn_)))); have n3_ := Aside0.mk (hb); clear HO_7; clear HO378; clear HB; have HO_7 := n0_; have HO378 := n1_; have HO381 := n2_; have HB := n3_; clear n0_ n1_ n2_ n3_; (try clear hb); (try clear hkp); (try clear ho0); obtain ⟨Ao44, co44, eo44⟩ := Kd.R_slice HO381.out; subst eo44; obtain ⟨Ao46, co46, eo46⟩ := Kd.R_slice HO_7.out; subst eo46; have q45 : (a2 : Int) ≤ ((t372.length : Int) : Int) := of_decide_eq_true (by first | (with_reducible assumption) | assumption); obtain ⟨i045, hi045, _, hsz45, _⟩ := info_parts info5; have hroom45 : t372.length ≤ co46 := (Kd.R_reads' HO_7.out).2.1; have hC45 : Kd.C (Kd.int .u8) _ Ao46 t372.length t372 := (Kd.R_reads' HO_7.out).2.2; have hcut45 := cut_to (P := Try.prog) 50 5 .i64 Try.underlying50 hi045 Ao46 t372.length co46 a2 (of_decide_eq_true (by first | (with_reducible assumption) | assumption)) q45 hroom45; have hr45 := Kd.C_take (m := (a2 : Int).toNat) hC45 (by omega); have hy45 : y382.length = (a2 : Int).toNat := (by rw [Ny382.out, List.length_take]; omega); rw [← Ny382.out] at hr45; rw [← hy45] at hcut45; have HR385 := Aside0.mk hr45; have HC385 := Aside0.mk (show y382.length ≤ co46 from by omega); clear hr45 hC45 hroom45 hi045 hsz45; have KY45 := Aside0.mk hy45; clear hy45; have KL45 := Aside0.mk (show (a2 : Int).toNat ≤ t372.length from by omega); replace q45 := eq_true q45) | ((with_reducible refine gate_callee (f := 30) rfl ?_); refine goesL_ (some 40) rfl rfl Try.func30 (by kernel_rfl) rfl #[.slice Ao46 y382.length co46] rfl (by (try simp only [List.map_toArray, List.map_cons, List.map_nil]); first | done | rfl | (simp only [List.length_drop, List.length_take]; rfl)) ?_; (with_reducible refine (quill_Unroll.calls _ _ y382 t386 t387 t388 t389 w _ ?side1 ?side2 ?side3 A27.out).mono ?_); (case side1 => repeat (first | (with_reducible first | exact HB.out | apply below_alloc | apply pw_below_drewN | apply below_drew1) | exact HB.out)); (case side2 => repeat (first | exact (by repeat (first | (with_reducible exact HR385.out) | (with_reducible refine Kd.C_alloc ?_ _) | (with_reducible refine Kd.C_drewN ?_ _) | (with_reducible refine Kd.C_drew ?_) | exact HR385.out)) | (with_reducible refine Kd.C_alloc ?_ _) | (with_reducible refine Kd.C_drewN ?_ _) | (with_reducible refine Kd.C_drew ?_))); (case side3 => exact HC385.out); rintro e w47 ⟨g390, rfl, hi, hb, hb2⟩; refine ⟨_, rfl, ?_⟩; have n0_ := Aside0.mk (Kd.R_below (by (with_reducible repeat (first | apply Kd.R_alloc | apply Kd.R_drewN | apply Kd.R_drew)); exact HO_7.out) hb2); have n1_ := Aside0.mk (Kd.R_below (by (with_reducible repeat (first | apply Kd.R_alloc | apply Kd.R_drewN | apply Kd.R_drew)); exact HO378.out) hb2); have n2_ := Aside0.mk (Kd.R_below (by (with_reducible repeat (first | apply Kd.R_alloc | apply Kd.R_drewN | apply Kd.R_drew)); exact HO381.out) hb2); have n3_ := Aside0.mk (Kd.C_below (by repeat (first | (with_reducible exact HR385.out) | (with_reducible refine Kd.C_alloc ?_ _) | (with_reducible refine Kd.C_drewN ?_ _) | (with_reducible refine Kd.C_drew ?_) | exact HR385.out)) hb2); have n4_ := Aside0.mk (hb); have n5_ := Aside0.mk (hi); clear HO_7; clear HO378; clear HO381; clear HR385; clear HB; have HO_7 := n0_; have HO378 := n1_; have HO381 := n2_; have HR385 := n3_; have HB := n4_; have HI390 := n5_; clear n0_ n1_ n2_ n3_ n4_ n5_; (try clear hb); (try clear hb2); (try clear hk); (try clear hi)) | ((with_reducible refine gate_callee (f := 31) rfl ?_); refine goesL_ (some 42) rfl rfl Try.func31 (by kernel_rfl) rfl #[.pointer (some ⟨g390, 0, none⟩)] rfl (by (try simp only [List.map_toArray, List.map_cons, List.map_nil]); first | done | rfl | (simp only [List.length_drop, List.length_take]; rfl)) ?_; (with_reducible refine (quill_Strip_Number.calls g390 t386 t387 t388 t389 t391 t392 t393 t394 w _ ?side1 ?side2 A28.out).mono ?_); (case side1 => repeat (first | (with_reducible first | exact HI390.out | apply IsS91.alloc | apply IsS91.drewN | apply IsS91.drew | apply IsS91.set_1 | apply IsS91.set_2 | apply IsS91.set_3) | exact HI390.out)); (case side2 => repeat (first | (with_reducible first | exact HB.out | apply below_alloc | apply pw_below_drewN | apply below_drew1 | refine below_set ?_ (IsS91.ge HI390.out)) | exact HB.out)); rintro e w48 ⟨rfl, hi, hb, hk⟩; refine ⟨_, rfl, ?_⟩; have n0_ := Aside0.mk (Kd.R_mono (Kd.R_keep (IsS91.apart (show IsS91 w _ g390 t386 t387 t388 t389 from by repeat (first | (with_reducible first | exact HI390.out | apply IsS91.alloc | apply IsS91.drewN | apply IsS91.drew | apply IsS91.set_1 | apply IsS91.set_2 | apply IsS91.set_3) | exact HI390.out)) (by (with_reducible repeat (first | apply Kd.R_alloc | apply Kd.R_drewN | apply Kd.R_drew)); exact HO_7.out) (by decide)) hk (fun _ h => h.2)) (fun _ h => h.1)); have n1_ := Aside0.mk (Kd.R_mono (Kd.R_keep (IsS91.apart (show IsS91 w _ g390 t386 t387 t388 t389 from by repeat (first | (with_reducible first | exact HI390.out | apply IsS91.alloc | apply IsS91.drewN | apply IsS91.drew | apply IsS91.set_1 | apply IsS91.set_2 | apply IsS91.set_3) | exact HI390.out)) (by (with_reducible repeat (first | apply Kd.R_alloc | apply Kd.R_drewN | apply Kd.R_drew)); exact HO378.out) (by decide)) hk (fun _ h => h.2)) (fun _ h => h.1)); have n2_ := Aside0.mk (Kd.R_mono (Kd.R_keep (IsS91.apart (show IsS91 w _ g390 t386 t387 t388 t389 from by repeat (first | (with_reducible first | exact HI390.out | apply IsS91.alloc | apply IsS91.drewN | apply IsS91.drew | apply IsS91.set_1 | apply IsS91.set_2 | apply IsS91.set_3) | exact HI390.out)) (by (with_reducible repeat (first | apply Kd.R_alloc | apply Kd.R_drewN | apply Kd.R_drew)); exact HO381.out) (by decide)) hk (fun _ h => h.2)) (fun _ h => h.1)); have n3_ := Aside0.mk (hb); have n4_ := Aside0.mk (hi); clear HO_7; clear HO378; clear HO381; clear HB; clear HI390; have HO_7 := n0_; have HO378 := n1_; have HO381 := n2_; have HB := n3_; have HI390 := n4_; clear n0_ n1_ n2_ n3_ n4_; (try clear hb); (try clear hb2); (try clear hk); (try clear hi)) | ((with_reducible refine gate_callee (f := 44) rfl ?_); refine goesL_ (some 46) rfl rfl Try.func44 (by kernel_rfl) rfl #[.pointer (some ⟨g390, 0, none⟩), .int .i64 (a1.size : Int)] rfl (by (try simp only [List.map_toArray, List.map_cons, List.map_nil]); first | done | rfl | (simp only [List.length_drop, List.length_take]; rfl)) ?_; (with_reducible refine (quill_Strip_Text.calls g390 t386 t392 t393 t394 (a1.size : Int) t395 t396 t397 t398 w _ ?side1 ?side2 A29.out).mono ?_); (case side1 => repeat (first | (with_reducible first | exact HI390.out | apply IsS91.alloc | apply IsS91.drewN | apply IsS91.drew | apply IsS91.set_1 | apply IsS91.set_2 | apply IsS91.set_3) | exact HI390.out)); (case side2 => repeat (first | (with_reducible first | exact HB.out | apply below_alloc | apply pw_below_drewN | apply below_drew1 | refine below_set ?_ (IsS91.ge HI390.out)) | exact HB.out)); rintro e w49 ⟨rfl, hi, hb, hk⟩; refine ⟨_, rfl, ?_⟩; have n0_ := Aside0.mk (Kd.R_mono (Kd.R_keep (IsS91.apart (show IsS91 w _ g390 t386 t392 t393 t394 from by repeat (first | (with_reducible first | exact HI390.out | apply IsS91.alloc | apply IsS91.drewN | apply IsS91.drew | apply IsS91.set_1 | apply IsS91.set_2 | apply IsS91.set_3) | exact HI390.out)) (by (with_reducible repeat (first | apply Kd.R_alloc | apply Kd.R_drewN | apply Kd.R_drew)); exact HO_7.out) (by decide)) hk (fun _ h => h.2)) (fun _ h => h.1)); have n1_ := Aside0.mk (Kd.R_mono (Kd.R_keep (IsS91.apart (show IsS91 w _ g390 t386 t392 t393 t394 from by repeat (first | (with_reducible first | exact HI390.out | apply IsS91.alloc | apply IsS91.drewN | apply IsS91.drew | apply IsS91.set_1 | apply IsS91.set_2 | apply IsS91.set_3) | exact HI390.out)) (by (with_reducible repeat (first | apply Kd.R_alloc | apply Kd.R_drewN | apply Kd.R_drew)); exact HO378.out) (by decide)) hk (fun _ h => h.2)) (fun _ h => h.1)); have n2_ := Aside0.mk (Kd.R_mono (Kd.R_keep (IsS91.apart (show IsS91 w _ g390 t386 t392 t393 t394 from by repeat (first | (with_reducible first | exact HI390.out | apply IsS91.alloc | apply IsS91.drewN | apply IsS91.drew | apply IsS91.set_1 | apply IsS91.set_2 | apply IsS91.set_3) | exact HI390.out)) (by (with_reducible repeat (first | apply Kd.R_alloc | apply Kd.R_drewN | apply Kd.R_drew)); exact HO381.out) (by decide)) hk (fun _ h => h.2)) (fun _ h => h.1)); have n3_ := Aside0.mk (hb); have n4_ := Aside0.mk (hi); clear HO_7; clear HO378; clear HO381; clear HB; clear HI390; have HO_7 := n0_; have HO378 := n1_; have HO381 := n2_; have HB := n3_; have HI390 := n4_; clear n0_ n1_ n2_ n3_ n4_; (try clear hb); (try clear hb2); (try clear hk); (try clear hi)) | ((with_reducible refine gate_callee (f := 32) rfl ?_); refine goesL_ (some 49) rfl rfl Try.func32 (by kernel_rfl) rfl #[.pointer (some ⟨g390, 0, none⟩)] rfl (by (try simp only [List.map_toArray, List.map_cons, List.map_nil]); first | done | rfl | (simp only [List.length_drop, List.length_take]; rfl)) ?_; (with_reducible refine (quill_Strip_Bad.calls g390 t386 t396 t397 t398 t399 t400 t401 t402 t403 w _ ?side1 ?side2 A30.out).mono ?_); (case side1 => repeat (first | (with_reducible first | exact HI390.out | apply IsS91.alloc | apply IsS91.drewN | apply IsS91.drew | apply IsS91.set_1 | apply IsS91.set_2 | apply IsS91.set_3) | exact HI390.out)); (case side2 => repeat (first | (with_reducible first | exact HB.out | apply below_alloc | apply pw_below_drewN | apply below_drew1 | refine below_set ?_ (IsS91.ge HI390.out)) | exact HB.out)); rintro e w50 ⟨rfl, hi, hb, hk⟩; refine ⟨_, rfl, ?_⟩; have n0_ := Aside0.mk (Kd.R_mono (Kd.R_keep (IsS91.apart (show IsS91 w _ g390 t386 t396 t397 t398 from by repeat (first | (with_reducible first | exact HI390.out | apply IsS91.alloc | apply IsS91.drewN | apply IsS91.drew | apply IsS91.set_1 | apply IsS91.set_2 | apply IsS91.set_3) | exact HI390.out)) (by (with_reducible repeat (first | apply Kd.R_alloc | apply Kd.R_drewN | apply Kd.R_drew)); exact HO_7.out) (by decide)) hk (fun _ h => h.2)) (fun _ h => h.1)); have n1_ := Aside0.mk (Kd.R_mono (Kd.R_keep (IsS91.apart (show IsS91 w _ g390 t386 t396 t397 t398 from by repeat (first | (with_reducible first | exact HI390.out | apply IsS91.alloc | apply IsS91.drewN | apply IsS91.drew | apply IsS91.set_1 | apply IsS91.set_2 | apply IsS91.set_3) | exact HI390.out)) (by (with_reducible repeat (first | apply Kd.R_alloc | apply Kd.R_drewN | apply Kd.R_drew)); exact HO378.out) (by decide)) hk (fun _ h => h.2)) (fun _ h => h.1)); have n2_ := Aside0.mk (Kd.R_mono (Kd.R_keep (IsS91.apart (show IsS91 w _ g390 t386 t396 t397 t398 from by repeat (first | (with_reducible first | exact HI390.out | apply IsS91.alloc | apply IsS91.drewN | apply IsS91.drew | apply IsS91.set_1 | apply IsS91.set_2 | apply IsS91.set_3) | exact HI390.out)) (by (with_reducible repeat (first | apply Kd.R_alloc | apply Kd.R_drewN | apply Kd.R_drew)); exact HO381.out) (by decide)) hk (fun _ h => h.2)) (fun _ h => h.1)); have n3_ := Aside0.mk (hb); have n4_ := Aside0.mk (hi); clear HO_7; clear HO378; clear HO381; clear HB; clear HI390; have HO_7 := n0_; have HO378 := n1_; have HO381 := n2_; have HB := n3_; have HI390 := n4_; clear n0_ n1_ n2_ n3_ n4_; (try clear hb); (try clear hb2); (try clear hk); (try clear hi)) | (go_at_call 34; (with_reducible refine (klaxonlaw01_num.calls t399 t404 _ A34.out).mono ?_); rintro e w' ⟨rfl, ⟨nd, rfl⟩⟩) | (go_at_call 35; (with_reducible refine (quill_Strip_Where.calls g390 t386 t401 t402 t403 t405 t406 t407 t408 w _ ?side1 ?side2 A37.out).mono ?_); (case side1 => repeat (first | (with_reducible first | exact HI390.out | apply IsS91.alloc | apply IsS91.drewN | apply IsS91.drew | apply IsS91.set_1 | apply IsS91.set_2 | apply IsS91.set_3) | exact HI390.out)); (case side2 => repeat (first | (with_reducible first | exact HB.out | apply below_alloc | apply pw_below_drewN | apply below_drew1 | refine below_set ?_ (IsS91.ge HI390.out)) | exact HB.out)); rintro e w51 ⟨rfl, hi, hb, hk⟩; have n0_ := Aside0.mk (Kd.R_mono (Kd.R_keep (IsS91.apart (show IsS91 w _ g390 t386 t401 t402 t403 from by repeat (first | (with_reducible first | exact HI390.out | apply IsS91.alloc | apply IsS91.drewN | apply IsS91.drew | apply IsS91.set_1 | apply IsS91.set_2 | apply IsS91.set_3) | exact HI390.out)) (by (with_reducible repeat (first | apply Kd.R_alloc | apply Kd.R_drewN | apply Kd.R_drew)); exact HO_7.out) (by decide)) hk (fun _ h => h.2)) (fun _ h => h.1)); have n1_ := Aside0.mk (Kd.R_mono (Kd.R_keep (IsS91.apart (show IsS91 w _ g390 t386 t401 t402 t403 from by repeat (first | (with_reducible first | exact HI390.out | apply IsS91.alloc | apply IsS91.drewN | apply IsS91.drew | apply IsS91.set_1 | apply IsS91.set_2 | apply IsS91.set_3) | exact HI390.out)) (by (with_reducible repeat (first | apply Kd.R_alloc | apply Kd.R_drewN | apply Kd.R_drew)); exact HO378.out) (by decide)) hk (fun _ h => h.2)) (fun _ h => h.1)); have n2_ := Aside0.mk (Kd.R_mono (Kd.R_keep (IsS91.apart (show IsS91 w _ g390 t386 t401 t402 t403 from by repeat (first | (with_reducible first | exact HI390.out | apply IsS91.alloc | apply IsS91.drewN | apply IsS91.drew | apply IsS91.set_1 | apply IsS91.set_2 | apply IsS91.set_3) | exact HI390.out)) (by (with_reducible repeat (first | apply Kd.R_alloc | apply Kd.R_drewN | apply Kd.R_drew)); exact HO381.out) (by decide)) hk (fun _ h => h.2)) (fun _ h => h.1)); have n3_ := Aside0.mk (hb); have n4_ := Aside0.mk (hi); clear HO_7; clear HO378; clear HO381; clear HB; clear HI390; have HO_7 := n0_; have HO378 := n1_; have HO381 := n2_; have HB := n3_; have HI390 := n4_; clear n0_ n1_ n2_ n3_ n4_; (try clear hb); (try clear hb2); (try clear hk); (try clear hi)) | (go_at_call 28; (with_reducible refine (klaxonlaw01_live.calls  t409 _ A39.out).mono ?_); rintro e w52 ⟨rfl, hb⟩; have n0_ := Aside0.mk (Kd.R_below (by (with_reducible repeat (first | apply Kd.R_alloc | apply Kd.R_drewN | apply Kd.R_drew)); exact HO_7.out) hb); have n1_ := Aside0.mk (Kd.R_below (by (with_reducible repeat (first | apply Kd.R_alloc | apply Kd.R_drewN | apply Kd.R_drew)); exact HO378.out) hb); have n2_ := Aside0.mk (Kd.R_below (by (with_reducible repeat (first | apply Kd.R_alloc | apply Kd.R_drewN | apply Kd.R_drew)); exact HO381.out) hb); have n3_ := Aside0.mk (IsS91.below (by repeat (first | (with_reducible first | exact HI390.out | apply IsS91.alloc | apply IsS91.drewN | apply IsS91.drew | apply IsS91.set_1 | apply IsS91.set_2 | apply IsS91.set_3) | exact HI390.out)) hb); have n4_ := Aside0.mk (below_step (by repeat (first | (with_reducible first | exact HB.out | apply below_alloc | apply pw_below_drewN | apply below_drew1 | refine below_set ?_ (IsS91.ge HI390.out)) | exact HB.out)) hb); clear HO_7; clear HO378; clear HO381; clear HI390; clear HB; have HO_7 := n0_; have HO378 := n1_; have HO381 := n2_; have HI390 := n3_; have HB := n4_; clear n0_ n1_ n2_ n3_ n4_; (try clear hb); (try clear hb2); (try clear hk); (try clear hi)))
                          go_ret
                          exact ⟨by first | rfl | (simp [errW_none, errW_some] <;> rfl) | (simp [*, errW_none, errW_some] <;> rfl), by repeat (first | (with_reducible first | exact HB.out | apply below_alloc | apply pw_below_drewN | apply below_drew1 | refine below_set ?_ (IsS91.ge HI390.out)) | exact HB.out)⟩
                        · rw [if_neg c38] at H
                          have c38b0 : (t405 == 0) = false := beq_eq_false_iff_ne.mpr c38
                          have c38b1 : (t405 != 0) = true := bne_iff_ne.mpr c38
                          exact absurd H (by simp)
                      · rw [if_neg c36] at H
                        have c36b0 : (t400 == 0) = false := beq_eq_false_iff_ne.mpr c36
                        have c36b1 : (t400 != 0) = true := bne_iff_ne.mpr c36
                        exact absurd H (by simp)
                    · rw [if_neg c35] at H
                      have c35b0 : (t404 == 3) = false := beq_eq_false_iff_ne.mpr c35
                      have c35b1 : (t404 != 3) = true := bne_iff_ne.mpr c35
                      exact absurd H (by simp)
                  · rw [if_neg c33] at H
                    have c33b0 : (t395.toList == ([] : List UInt8)) = false := beq_eq_false_iff_ne.mpr c33
                    have c33b1 : (t395.toList != ([] : List UInt8)) = true := bne_iff_ne.mpr c33
                    exact absurd H (by simp)
                · rw [if_neg c32] at H
                  have c32b0 : (t391 == 0) = false := beq_eq_false_iff_ne.mpr c32
                  have c32b1 : (t391 != 0) = true := bne_iff_ne.mpr c32
                  exact absurd H (by simp)
              · rw [if_neg c31] at H
                have c31b0 : decide (a2 < (t379.length : Int)) = false := decide_eq_false c31
                clear c31
                by_cases c53 : t391 = a0
                · rw [if_pos c53] at H
                  have c53b0 : (t391 == a0) = true := beq_iff_eq.mpr c53
                  have c53b1 : (t391 != a0) = false := bne_eq_false_iff_eq.mpr c53
                  clear c53
                  by_cases c54 : t395.toList = ([] : List UInt8)
                  · rw [if_pos c54] at H
                    have c54b0 : (t395.toList == ([] : List UInt8)) = true := beq_iff_eq.mpr c54
                    have c54b1 : (t395.toList != ([] : List UInt8)) = false := bne_eq_false_iff_eq.mpr c54
                    clear c54
                    replace H := Option.bind_eq_some_iff.mp H
                    obtain ⟨t410, A550, H⟩ := H
                    replace H : (if t410 = 3 then (if t400 = (t379.length : Int) then ((quill_Strip_Where.f t386 t401 t402 t403).bind fun bt411 => (if bt411.1 = (t379.length : Int) then ((quill_Strip_Over.f t386 bt411.2.1 bt411.2.2.1 bt411.2.2.2).bind fun bt415 => ((klaxonlaw01_num.f bt415.1).bind fun t419 => (if t419 = 3 then ((klaxonlaw01_live.f).bind fun t420 => (some t420)) else (some false)))) else (some false))) else (some false)) else (some false)) = some true := H
                    have A55 := Aside0.mk A550
                    clear A550
                    by_cases c56 : t410 = 3
                    · rw [if_pos c56] at H
                      have c56b0 : (t410 == 3) = true := beq_iff_eq.mpr c56
                      have c56b1 : (t410 != 3) = false := bne_eq_false_iff_eq.mpr c56
                      clear c56
                      by_cases c57 : t400 = (t379.length : Int)
                      · rw [if_pos c57] at H
                        have c57b0 : (t400 == (t379.length : Int)) = true := beq_iff_eq.mpr c57
                        have c57b1 : (t400 != (t379.length : Int)) = false := bne_eq_false_iff_eq.mpr c57
                        clear c57
                        replace H := Option.bind_eq_some_iff.mp H
                        obtain ⟨⟨t411, t412, t413, t414⟩, A580, H⟩ := H
                        replace H : (if t411 = (t379.length : Int) then ((quill_Strip_Over.f t386 t412 t413 t414).bind fun bt415 => ((klaxonlaw01_num.f bt415.1).bind fun t419 => (if t419 = 3 then ((klaxonlaw01_live.f).bind fun t420 => (some t420)) else (some false)))) else (some false)) = some true := H
                        have A58 := Aside0.mk A580
                        clear A580
                        by_cases c59 : t411 = (t379.length : Int)
                        · rw [if_pos c59] at H
                          have c59b0 : (t411 == (t379.length : Int)) = true := beq_iff_eq.mpr c59
                          have c59b1 : (t411 != (t379.length : Int)) = false := bne_eq_false_iff_eq.mpr c59
                          clear c59
                          replace H := Option.bind_eq_some_iff.mp H
                          obtain ⟨⟨t415, t416, t417, t418⟩, A600, H⟩ := H
                          replace H : ((klaxonlaw01_num.f t415).bind fun t419 => (if t419 = 3 then ((klaxonlaw01_live.f).bind fun t420 => (some t420)) else (some false))) = some true := H
                          have A60 := Aside0.mk A600
                          clear A600
                          replace H := Option.bind_eq_some_iff.mp H
                          obtain ⟨t419, A610, H⟩ := H
                          replace H : (if t419 = 3 then ((klaxonlaw01_live.f).bind fun t420 => (some t420)) else (some false)) = some true := H
                          have A61 := Aside0.mk A610
                          clear A610
                          by_cases c62 : t419 = 3
                          · rw [if_pos c62] at H
                            have c62b0 : (t419 == 3) = true := beq_iff_eq.mpr c62
                            have c62b1 : (t419 != 3) = false := bne_eq_false_iff_eq.mpr c62
                            clear c62
                            replace H := Option.bind_eq_some_iff.mp H
                            obtain ⟨t420, A630, H⟩ := H
                            replace H : (some t420) = some true := H
                            have A63 := Aside0.mk A630
                            clear A630
                            have H9_ := Option.some.inj H
                            clear H
                            go_wp2_with (first | ((with_reducible refine gate_dst (N := 34) rfl ?_); (try (refine gate_guard (by rfl) ?_; dsimp only)); refine Kd.R_lit (Kd.int .u64) _ 51 ?hg (N := 34) ?hd (xs := ([a0] : List Int)) (inner := [.int .u64 a0]) (ok := fun _ => True) (okp := fun _ => True) ?hr ?hp (fun _ hk => hk) trivial (Below.refl _ _) (Nat.le_refl _) (by simp) ?_; (case hd => rfl); (case hg => rfl); (case hr => first | (go_simp; done) | (go_simp; rfl)); (case hp => exact (Reps.one (show Kd.M (Kd.int .u64) _ _ _ a0 [.int .u64 a0] from rfl) (Reps.none _ _))); intro v377 w64 ho65 hb hg_ hnew_; clear hg_ hnew_; (first | rw [← Ny376.out] at ho65 | (simp only [Int.reduceToNat] at ho65; rw [← Ny376.out] at ho65)); have n0_ := Aside0.mk (Kd.R_below (by (with_reducible repeat (first | apply Kd.R_alloc | apply Kd.R_drewN | apply Kd.R_drew)); exact HO_7.out) hb); have n1_ := Aside0.mk (Kd.R_lower ho65 (below_size (by repeat (first | (with_reducible first | exact HB.out | apply below_alloc | apply pw_below_drewN | apply below_drew1) | exact HB.out)))); have n2_ := Aside0.mk (below_step (by repeat (first | (with_reducible first | exact HB.out | apply below_alloc | apply pw_below_drewN | apply below_drew1) | exact HB.out)) hb); clear HO_7; clear HB; have HO_7 := n0_; have HO378 := n1_; have HB := n2_; clear n0_ n1_ n2_; clear hb ho65; obtain ⟨Ao66, co66, eo66⟩ := Kd.R_slice HO378.out; subst eo66) | ((with_reducible refine gate_callee (f := 29) rfl ?_); refine goesL_ (some 35) rfl rfl Try.func29 (by kernel_rfl) rfl #[.slice none 0 0, .slice Ao66 y376.length co66] rfl (by (try simp only [List.map_toArray, List.map_cons, List.map_nil]); first | done | rfl | (simp only [List.length_drop, List.length_take]; rfl)) ?_; (refine (quill_Number.calls kj8 (fun k_ => some k_ = (.slice none 0 0 : Value).ownBlock) (.slice none 0 0) ([] : List Int) _ _ y376 t379 w _ ?side1 ?side2 ?side3 ?side4 A24.out).mono ?_); (case side1 => repeat (first | (with_reducible first | exact HB.out | apply below_alloc | apply pw_below_drewN | apply below_drew1) | exact HB.out)); (case side2 => exact Kd.R_nil _ _ _ _ _); (case side3 => exact Kd.C_kept_own (HO378.out) (fun k_ hk_ hs_ => (fun e_ => by simp [Value.ownBlock] at e_) hs_)); (case side4 => exact (Kd.R_reads' HO378.out).2.1); rintro e w67 ⟨v380, rfl, ho0, hb, hkp⟩; refine ⟨_, rfl, ?_⟩; have n0_ := Aside0.mk (Kd.R_mono (ok' := fun k_ => some k_ ≠ (v380 : Value).ownBlock) (Kd.R_keptB (HO_7.out) hkp (fun k_ hk_ hs_ => (fun e_ => by simp [Value.ownBlock] at e_) hs_)) (fun k_ hk_ => fun e_ => Or.elim (ho0.1 k_ e_.symm) (fun hs_ => hk_.2.1 hs_) (fun hn_ => Nat.not_le.2 hk_.2.2 hn_))); have n1_ := Aside0.mk (Kd.R_mono (ok' := fun k_ => True) (Kd.R_keptB (HO378.out) hkp (fun k_ hk_ hs_ => (fun e_ => by simp [Value.ownBlock] at e_) hs_)) (fun k_ hk_ => trivial)); have n2_ := Aside0.mk (Kd.R_mono (ok' := fun k_ => some k_ ≠ (v373 : Value).ownBlock) ho0 (fun k_ hk_ => Or.elim hk_ (fun hs_ => absurd hs_ (by simp [Value.ownBlock])) (fun hn_ => (Kd.fresh' (Kd.R_lt (by (with_reducible repeat (first | apply Kd.R_alloc | apply Kd.R_drewN | apply Kd.R_drew)); exact HO_7.out)) k_ hn_)))); have n3_ := Aside0.mk (hb); clear HO_7; clear HO378; clear HB; have HO_7 := n0_; have HO378 := n1_; have HO381 := n2_; have HB := n3_; clear n0_ n1_ n2_ n3_; (try clear hb); (try clear hkp); (try clear ho0); obtain ⟨Ao68, co68, eo68⟩ := Kd.R_slice HO381.out; subst eo68; obtain ⟨Ao70, co70, eo70⟩ := Kd.R_slice HO_7.out; subst eo70; have q69 : (a2 : Int) ≤ ((t372.length : Int) : Int) := of_decide_eq_true (by first | (with_reducible assumption) | assumption); obtain ⟨i069, hi069, _, hsz69, _⟩ := info_parts info5; have hroom69 : t372.length ≤ co70 := (Kd.R_reads' HO_7.out).2.1; have hC69 : Kd.C (Kd.int .u8) _ Ao70 t372.length t372 := (Kd.R_reads' HO_7.out).2.2; have hcut69 := cut_to (P := Try.prog) 50 5 .i64 Try.underlying50 hi069 Ao70 t372.length co70 a2 (of_decide_eq_true (by first | (with_reducible assumption) | assumption)) q69 hroom69; have hr69 := Kd.C_take (m := (a2 : Int).toNat) hC69 (by omega); have hy69 : y382.length = (a2 : Int).toNat := (by rw [Ny382.out, List.length_take]; omega); rw [← Ny382.out] at hr69; rw [← hy69] at hcut69; have HR385 := Aside0.mk hr69; have HC385 := Aside0.mk (show y382.length ≤ co70 from by omega); clear hr69 hC69 hroom69 hi069 hsz69; have KY69 := Aside0.mk hy69; clear hy69; have KL69 := Aside0.mk (show (a2 : Int).toNat ≤ t372.length from by omega); replace q69 := eq_true q69) | ((with_reducible refine gate_callee (f := 30) rfl ?_); refine goesL_ (some 40) rfl rfl Try.func30 (by kernel_rfl) rfl #[.slice Ao70 y382.length co70] rfl (by (try simp only [List.map_toArray, List.map_cons, List.map_nil]); first | done | rfl | (simp only [List.length_drop, List.length_take]; rfl)) ?_; (with_reducible refine (quill_Unroll.calls _ _ y382 t386 t387 t388 t389 w _ ?side1 ?side2 ?side3 A27.out).mono ?_); (case side1 => repeat (first | (with_reducible first | exact HB.out | apply below_alloc | apply pw_below_drewN | apply below_drew1) | exact HB.out)); (case side2 => repeat (first | exact (by repeat (first | (with_reducible exact HR385.out) | (with_reducible refine Kd.C_alloc ?_ _) | (with_reducible refine Kd.C_drewN ?_ _) | (with_reducible refine Kd.C_drew ?_) | exact HR385.out)) | (with_reducible refine Kd.C_alloc ?_ _) | (with_reducible refine Kd.C_drewN ?_ _) | (with_reducible refine Kd.C_drew ?_))); (case side3 => exact HC385.out); rintro e w71 ⟨g390, rfl, hi, hb, hb2⟩; refine ⟨_, rfl, ?_⟩; have n0_ := Aside0.mk (Kd.R_below (by (with_reducible repeat (first | apply Kd.R_alloc | apply Kd.R_drewN | apply Kd.R_drew)); exact HO_7.out) hb2); have n1_ := Aside0.mk (Kd.R_below (by (with_reducible repeat (first | apply Kd.R_alloc | apply Kd.R_drewN | apply Kd.R_drew)); exact HO378.out) hb2); have n2_ := Aside0.mk (Kd.R_below (by (with_reducible repeat (first | apply Kd.R_alloc | apply Kd.R_drewN | apply Kd.R_drew)); exact HO381.out) hb2); have n3_ := Aside0.mk (Kd.C_below (by repeat (first | (with_reducible exact HR385.out) | (with_reducible refine Kd.C_alloc ?_ _) | (with_reducible refine Kd.C_drewN ?_ _) | (with_reducible refine Kd.C_drew ?_) | exact HR385.out)) hb2); have n4_ := Aside0.mk (hb); have n5_ := Aside0.mk (hi); clear HO_7; clear HO378; clear HO381; clear HR385; clear HB; have HO_7 := n0_; have HO378 := n1_; have HO381 := n2_; have HR385 := n3_; have HB := n4_; have HI390 := n5_; clear n0_ n1_ n2_ n3_ n4_ n5_; (try clear hb); (try clear hb2); (try clear hk); (try clear hi)) | ((with_reducible refine gate_callee (f := 31) rfl ?_); refine goesL_ (some 42) rfl rfl Try.func31 (by kernel_rfl) rfl #[.pointer (some ⟨g390, 0, none⟩)] rfl (by (try simp only [List.map_toArray, List.map_cons, List.map_nil]); first | done | rfl | (simp only [List.length_drop, List.length_take]; rfl)) ?_; (with_reducible refine (quill_Strip_Number.calls g390 t386 t387 t388 t389 t391 t392 t393 t394 w _ ?side1 ?side2 A28.out).mono ?_); (case side1 => repeat (first | (with_reducible first | exact HI390.out | apply IsS91.alloc | apply IsS91.drewN | apply IsS91.drew | apply IsS91.set_1 | apply IsS91.set_2 | apply IsS91.set_3) | exact HI390.out)); (case side2 => repeat (first | (with_reducible first | exact HB.out | apply below_alloc | apply pw_below_drewN | apply below_drew1 | refine below_set ?_ (IsS91.ge HI390.out)) | exact HB.out)); rintro e w72 ⟨rfl, hi, hb, hk⟩; refine ⟨_, rfl, ?_⟩; have n0_ := Aside0.mk (Kd.R_mono (Kd.R_keep (IsS91.apart (show IsS91 w _ g390 t386 t387 t388 t389 from by repeat (first | (with_reducible first | exact HI390.out | apply IsS91.alloc | apply IsS91.drewN | apply IsS91.drew | apply IsS91.set_1 | apply IsS91.set_2 | apply IsS91.set_3) | exact HI390.out)) (by (with_reducible repeat (first | apply Kd.R_alloc | apply Kd.R_drewN | apply Kd.R_drew)); exact HO_7.out) (by decide)) hk (fun _ h => h.2)) (fun _ h => h.1)); have n1_ := Aside0.mk (Kd.R_mono (Kd.R_keep (IsS91.apart (show IsS91 w _ g390 t386 t387 t388 t389 from by repeat (first | (with_reducible first | exact HI390.out | apply IsS91.alloc | apply IsS91.drewN | apply IsS91.drew | apply IsS91.set_1 | apply IsS91.set_2 | apply IsS91.set_3) | exact HI390.out)) (by (with_reducible repeat (first | apply Kd.R_alloc | apply Kd.R_drewN | apply Kd.R_drew)); exact HO378.out) (by decide)) hk (fun _ h => h.2)) (fun _ h => h.1)); have n2_ := Aside0.mk (Kd.R_mono (Kd.R_keep (IsS91.apart (show IsS91 w _ g390 t386 t387 t388 t389 from by repeat (first | (with_reducible first | exact HI390.out | apply IsS91.alloc | apply IsS91.drewN | apply IsS91.drew | apply IsS91.set_1 | apply IsS91.set_2 | apply IsS91.set_3) | exact HI390.out)) (by (with_reducible repeat (first | apply Kd.R_alloc | apply Kd.R_drewN | apply Kd.R_drew)); exact HO381.out) (by decide)) hk (fun _ h => h.2)) (fun _ h => h.1)); have n3_ := Aside0.mk (hb); have n4_ := Aside0.mk (hi); clear HO_7; clear HO378; clear HO381; clear HB; clear HI390; have HO_7 := n0_; have HO378 := n1_; have HO381 := n2_; have HB := n3_; have HI390 := n4_; clear n0_ n1_ n2_ n3_ n4_; (try clear hb); (try clear hb2); (try clear hk); (try clear hi)) | ((with_reducible refine gate_callee (f := 44) rfl ?_); refine goesL_ (some 46) rfl rfl Try.func44 (by kernel_rfl) rfl #[.pointer (some ⟨g390, 0, none⟩), .int .i64 (a1.size : Int)] rfl (by (try simp only [List.map_toArray, List.map_cons, List.map_nil]); first | done | rfl | (simp only [List.length_drop, List.length_take]; rfl)) ?_; (with_reducible refine (quill_Strip_Text.calls g390 t386 t392 t393 t394 (a1.size : Int) t395 t396 t397 t398 w _ ?side1 ?side2 A29.out).mono ?_); (case side1 => repeat (first | (with_reducible first | exact HI390.out | apply IsS91.alloc | apply IsS91.drewN | apply IsS91.drew | apply IsS91.set_1 | apply IsS91.set_2 | apply IsS91.set_3) | exact HI390.out)); (case side2 => repeat (first | (with_reducible first | exact HB.out | apply below_alloc | apply pw_below_drewN | apply below_drew1 | refine below_set ?_ (IsS91.ge HI390.out)) | exact HB.out)); rintro e w73 ⟨rfl, hi, hb, hk⟩; refine ⟨_, rfl, ?_⟩; have n0_ := Aside0.mk (Kd.R_mono (Kd.R_keep (IsS91.apart (show IsS91 w _ g390 t386 t392 t393 t394 from by repeat (first | (with_reducible first | exact HI390.out | apply IsS91.alloc | apply IsS91.drewN | apply IsS91.drew | apply IsS91.set_1 | apply IsS91.set_2 | apply IsS91.set_3) | exact HI390.out)) (by (with_reducible repeat (first | apply Kd.R_alloc | apply Kd.R_drewN | apply Kd.R_drew)); exact HO_7.out) (by decide)) hk (fun _ h => h.2)) (fun _ h => h.1)); have n1_ := Aside0.mk (Kd.R_mono (Kd.R_keep (IsS91.apart (show IsS91 w _ g390 t386 t392 t393 t394 from by repeat (first | (with_reducible first | exact HI390.out | apply IsS91.alloc | apply IsS91.drewN | apply IsS91.drew | apply IsS91.set_1 | apply IsS91.set_2 | apply IsS91.set_3) | exact HI390.out)) (by (with_reducible repeat (first | apply Kd.R_alloc | apply Kd.R_drewN | apply Kd.R_drew)); exact HO378.out) (by decide)) hk (fun _ h => h.2)) (fun _ h => h.1)); have n2_ := Aside0.mk (Kd.R_mono (Kd.R_keep (IsS91.apart (show IsS91 w _ g390 t386 t392 t393 t394 from by repeat (first | (with_reducible first | exact HI390.out | apply IsS91.alloc | apply IsS91.drewN | apply IsS91.drew | apply IsS91.set_1 | apply IsS91.set_2 | apply IsS91.set_3) | exact HI390.out)) (by (with_reducible repeat (first | apply Kd.R_alloc | apply Kd.R_drewN | apply Kd.R_drew)); exact HO381.out) (by decide)) hk (fun _ h => h.2)) (fun _ h => h.1)); have n3_ := Aside0.mk (hb); have n4_ := Aside0.mk (hi); clear HO_7; clear HO378; clear HO381; clear HB; clear HI390; have HO_7 := n0_; have HO378 := n1_; have HO381 := n2_; have HB := n3_; have HI390 := n4_; clear n0_ n1_ n2_ n3_ n4_; (try clear hb); (try clear hb2); (try clear hk); (try clear hi)) | ((with_reducible refine gate_callee (f := 32) rfl ?_); refine goesL_ (some 49) rfl rfl Try.func32 (by kernel_rfl) rfl #[.pointer (some ⟨g390, 0, none⟩)] rfl (by (try simp only [List.map_toArray, List.map_cons, List.map_nil]); first | done | rfl | (simp only [List.length_drop, List.length_take]; rfl)) ?_; (with_reducible refine (quill_Strip_Bad.calls g390 t386 t396 t397 t398 t399 t400 t401 t402 t403 w _ ?side1 ?side2 A30.out).mono ?_); (case side1 => repeat (first | (with_reducible first | exact HI390.out | apply IsS91.alloc | apply IsS91.drewN | apply IsS91.drew | apply IsS91.set_1 | apply IsS91.set_2 | apply IsS91.set_3) | exact HI390.out)); (case side2 => repeat (first | (with_reducible first | exact HB.out | apply below_alloc | apply pw_below_drewN | apply below_drew1 | refine below_set ?_ (IsS91.ge HI390.out)) | exact HB.out)); rintro e w74 ⟨rfl, hi, hb, hk⟩; refine ⟨_, rfl, ?_⟩; have n0_ := Aside0.mk (Kd.R_mono (Kd.R_keep (IsS91.apart (show IsS91 w _ g390 t386 t396 t397 t398 from by repeat (first | (with_reducible first | exact HI390.out | apply IsS91.alloc | apply IsS91.drewN | apply IsS91.drew | apply IsS91.set_1 | apply IsS91.set_2 | apply IsS91.set_3) | exact HI390.out)) (by (with_reducible repeat (first | apply Kd.R_alloc | apply Kd.R_drewN | apply Kd.R_drew)); exact HO_7.out) (by decide)) hk (fun _ h => h.2)) (fun _ h => h.1)); have n1_ := Aside0.mk (Kd.R_mono (Kd.R_keep (IsS91.apart (show IsS91 w _ g390 t386 t396 t397 t398 from by repeat (first | (with_reducible first | exact HI390.out | apply IsS91.alloc | apply IsS91.drewN | apply IsS91.drew | apply IsS91.set_1 | apply IsS91.set_2 | apply IsS91.set_3) | exact HI390.out)) (by (with_reducible repeat (first | apply Kd.R_alloc | apply Kd.R_drewN | apply Kd.R_drew)); exact HO378.out) (by decide)) hk (fun _ h => h.2)) (fun _ h => h.1)); have n2_ := Aside0.mk (Kd.R_mono (Kd.R_keep (IsS91.apart (show IsS91 w _ g390 t386 t396 t397 t398 from by repeat (first | (with_reducible first | exact HI390.out | apply IsS91.alloc | apply IsS91.drewN | apply IsS91.drew | apply IsS91.set_1 | apply IsS91.set_2 | apply IsS91.set_3) | exact HI390.out)) (by (with_reducible repeat (first | apply Kd.R_alloc | apply Kd.R_drewN | apply Kd.R_drew)); exact HO381.out) (by decide)) hk (fun _ h => h.2)) (fun _ h => h.1)); have n3_ := Aside0.mk (hb); have n4_ := Aside0.mk (hi); clear HO_7; clear HO378; clear HO381; clear HB; clear HI390; have HO_7 := n0_; have HO378 := n1_; have HO381 := n2_; have HB := n3_; have HI390 := n4_; clear n0_ n1_ n2_ n3_ n4_; (try clear hb); (try clear hb2); (try clear hk); (try clear hi)) | (go_at_call 34; (with_reducible refine (klaxonlaw01_num.calls t399 t410 _ A55.out).mono ?_); rintro e w' ⟨rfl, ⟨nd, rfl⟩⟩) | (go_at_call 35; (with_reducible refine (quill_Strip_Where.calls g390 t386 t401 t402 t403 t411 t412 t413 t414 w _ ?side1 ?side2 A58.out).mono ?_); (case side1 => repeat (first | (with_reducible first | exact HI390.out | apply IsS91.alloc | apply IsS91.drewN | apply IsS91.drew | apply IsS91.set_1 | apply IsS91.set_2 | apply IsS91.set_3) | exact HI390.out)); (case side2 => repeat (first | (with_reducible first | exact HB.out | apply below_alloc | apply pw_below_drewN | apply below_drew1 | refine below_set ?_ (IsS91.ge HI390.out)) | exact HB.out)); rintro e w75 ⟨rfl, hi, hb, hk⟩; have n0_ := Aside0.mk (Kd.R_mono (Kd.R_keep (IsS91.apart (show IsS91 w _ g390 t386 t401 t402 t403 from by repeat (first | (with_reducible first | exact HI390.out | apply IsS91.alloc | apply IsS91.drewN | apply IsS91.drew | apply IsS91.set_1 | apply IsS91.set_2 | apply IsS91.set_3) | exact HI390.out)) (by (with_reducible repeat (first | apply Kd.R_alloc | apply Kd.R_drewN | apply Kd.R_drew)); exact HO_7.out) (by decide)) hk (fun _ h => h.2)) (fun _ h => h.1)); have n1_ := Aside0.mk (Kd.R_mono (Kd.R_keep (IsS91.apart (show IsS91 w _ g390 t386 t401 t402 t403 from by repeat (first | (with_reducible first | exact HI390.out | apply IsS91.alloc | apply IsS91.drewN | apply IsS91.drew | apply IsS91.set_1 | apply IsS91.set_2 | apply IsS91.set_3) | exact HI390.out)) (by (with_reducible repeat (first | apply Kd.R_alloc | apply Kd.R_drewN | apply Kd.R_drew)); exact HO378.out) (by decide)) hk (fun _ h => h.2)) (fun _ h => h.1)); have n2_ := Aside0.mk (Kd.R_mono (Kd.R_keep (IsS91.apart (show IsS91 w _ g390 t386 t401 t402 t403 from by repeat (first | (with_reducible first | exact HI390.out | apply IsS91.alloc | apply IsS91.drewN | apply IsS91.drew | apply IsS91.set_1 | apply IsS91.set_2 | apply IsS91.set_3) | exact HI390.out)) (by (with_reducible repeat (first | apply Kd.R_alloc | apply Kd.R_drewN | apply Kd.R_drew)); exact HO381.out) (by decide)) hk (fun _ h => h.2)) (fun _ h => h.1)); have n3_ := Aside0.mk (hb); have n4_ := Aside0.mk (hi); clear HO_7; clear HO378; clear HO381; clear HB; clear HI390; have HO_7 := n0_; have HO378 := n1_; have HO381 := n2_; have HB := n3_; have HI390 := n4_; clear n0_ n1_ n2_ n3_ n4_; (try clear hb); (try clear hb2); (try clear hk); (try clear hi)) | (go_at_call 45; (with_reducible refine (quill_Strip_Over.calls g390 t386 t412 t413 t414 t415 t416 t417 t418 w _ ?side1 ?side2 A60.out).mono ?_); (case side1 => repeat (first | (with_reducible first | exact HI390.out | apply IsS91.alloc | apply IsS91.drewN | apply IsS91.drew | apply IsS91.set_1 | apply IsS91.set_2 | apply IsS91.set_3) | exact HI390.out)); (case side2 => repeat (first | (with_reducible first | exact HB.out | apply below_alloc | apply pw_below_drewN | apply below_drew1 | refine below_set ?_ (IsS91.ge HI390.out)) | exact HB.out)); rintro e w76 ⟨rfl, hi, hb, hk⟩; have n0_ := Aside0.mk (Kd.R_mono (Kd.R_keep (IsS91.apart (show IsS91 w _ g390 t386 t412 t413 t414 from by repeat (first | (with_reducible first | exact HI390.out | apply IsS91.alloc | apply IsS91.drewN | apply IsS91.drew | apply IsS91.set_1 | apply IsS91.set_2 | apply IsS91.set_3) | exact HI390.out)) (by (with_reducible repeat (first | apply Kd.R_alloc | apply Kd.R_drewN | apply Kd.R_drew)); exact HO_7.out) (by decide)) hk (fun _ h => h.2)) (fun _ h => h.1)); have n1_ := Aside0.mk (Kd.R_mono (Kd.R_keep (IsS91.apart (show IsS91 w _ g390 t386 t412 t413 t414 from by repeat (first | (with_reducible first | exact HI390.out | apply IsS91.alloc | apply IsS91.drewN | apply IsS91.drew | apply IsS91.set_1 | apply IsS91.set_2 | apply IsS91.set_3) | exact HI390.out)) (by (with_reducible repeat (first | apply Kd.R_alloc | apply Kd.R_drewN | apply Kd.R_drew)); exact HO378.out) (by decide)) hk (fun _ h => h.2)) (fun _ h => h.1)); have n2_ := Aside0.mk (Kd.R_mono (Kd.R_keep (IsS91.apart (show IsS91 w _ g390 t386 t412 t413 t414 from by repeat (first | (with_reducible first | exact HI390.out | apply IsS91.alloc | apply IsS91.drewN | apply IsS91.drew | apply IsS91.set_1 | apply IsS91.set_2 | apply IsS91.set_3) | exact HI390.out)) (by (with_reducible repeat (first | apply Kd.R_alloc | apply Kd.R_drewN | apply Kd.R_drew)); exact HO381.out) (by decide)) hk (fun _ h => h.2)) (fun _ h => h.1)); have n3_ := Aside0.mk (hb); have n4_ := Aside0.mk (hi); clear HO_7; clear HO378; clear HO381; clear HB; clear HI390; have HO_7 := n0_; have HO378 := n1_; have HO381 := n2_; have HB := n3_; have HI390 := n4_; clear n0_ n1_ n2_ n3_ n4_; (try clear hb); (try clear hb2); (try clear hk); (try clear hi)) | (go_at_call 34; (with_reducible refine (klaxonlaw01_num.calls t415 t419 _ A61.out).mono ?_); rintro e w' ⟨rfl, ⟨nd, rfl⟩⟩) | (go_at_call 28; (with_reducible refine (klaxonlaw01_live.calls  t420 _ A63.out).mono ?_); rintro e w77 ⟨rfl, hb⟩; have n0_ := Aside0.mk (Kd.R_below (by (with_reducible repeat (first | apply Kd.R_alloc | apply Kd.R_drewN | apply Kd.R_drew)); exact HO_7.out) hb); have n1_ := Aside0.mk (Kd.R_below (by (with_reducible repeat (first | apply Kd.R_alloc | apply Kd.R_drewN | apply Kd.R_drew)); exact HO378.out) hb); have n2_ := Aside0.mk (Kd.R_below (by (with_reducible repeat (first | apply Kd.R_alloc | apply Kd.R_drewN | apply Kd.R_drew)); exact HO381.out) hb); have n3_ := Aside0.mk (IsS91.below (by repeat (first | (with_reducible first | exact HI390.out | apply IsS91.alloc | apply IsS91.drewN | apply IsS91.drew | apply IsS91.set_1 | apply IsS91.set_2 | apply IsS91.set_3) | exact HI390.out)) hb); have n4_ := Aside0.mk (below_step (by repeat (first | (with_reducible first | exact HB.out | apply below_alloc | apply pw_below_drewN | apply below_drew1 | refine below_set ?_ (IsS91.ge HI390.out)) | exact HB.out)) hb); clear HO_7; clear HO378; clear HO381; clear HI390; clear HB; have HO_7 := n0_; have HO378 := n1_; have HO381 := n2_; have HI390 := n3_; have HB := n4_; clear n0_ n1_ n2_ n3_ n4_; (try clear hb); (try clear hb2); (try clear hk); (try clear hi)))
                            go_ret
                            exact ⟨by first | rfl | (simp [errW_none, errW_some] <;> rfl) | (simp [*, errW_none, errW_some] <;> rfl), by repeat (first | (with_reducible first | exact HB.out | apply below_alloc | apply pw_below_drewN | apply below_drew1 | refine below_set ?_ (IsS91.ge HI390.out)) | exact HB.out)⟩
                          · rw [if_neg c62] at H
                            have c62b0 : (t419 == 3) = false := beq_eq_false_iff_ne.mpr c62
                            have c62b1 : (t419 != 3) = true := bne_iff_ne.mpr c62
                            exact absurd H (by simp)
                        · rw [if_neg c59] at H
                          have c59b0 : (t411 == (t379.length : Int)) = false := beq_eq_false_iff_ne.mpr c59
                          have c59b1 : (t411 != (t379.length : Int)) = true := bne_iff_ne.mpr c59
                          exact absurd H (by simp)
                      · rw [if_neg c57] at H
                        have c57b0 : (t400 == (t379.length : Int)) = false := beq_eq_false_iff_ne.mpr c57
                        have c57b1 : (t400 != (t379.length : Int)) = true := bne_iff_ne.mpr c57
                        exact absurd H (by simp)
                    · rw [if_neg c56] at H
                      have c56b0 : (t410 == 3) = false := beq_eq_false_iff_ne.mpr c56
                      have c56b1 : (t410 != 3) = true := bne_iff_ne.mpr c56
                      exact absurd H (by simp)
                  · rw [if_neg c54] at H
                    have c54b0 : (t395.toList == ([] : List UInt8)) = false := beq_eq_false_iff_ne.mpr c54
                    have c54b1 : (t395.toList != ([] : List UInt8)) = true := bne_iff_ne.mpr c54
                    exact absurd H (by simp)
                · rw [if_neg c53] at H
                  have c53b0 : (t391 == a0) = false := beq_eq_false_iff_ne.mpr c53
                  have c53b1 : (t391 != a0) = true := bne_iff_ne.mpr c53
                  exact absurd H (by simp)
            · rw [if_neg c26] at H
              exact absurd H (by simp)
          · rw [if_neg c25] at H
            exact absurd H (by simp)

-- NOT PRINTED: function 67 (quill_one)


/-! ### quill_Strip_One: function 46 -/
open Go.Proofs.YtmcnipjfigbkeaaK
def quill_Strip_One.f (s0_0 : List Int) (s0_1 : Int) (s0_2 : Int) (s0_3 : Int) : Option (Int × Int × Int × Int) := stripOne_f s0_0 s0_1 s0_2 s0_3
theorem quill_Strip_One.calls (g : Nat) (s0_0 : List Int) (s0_1 : Int) (s0_2 : Int) (s0_3 : Int) (r1 : Int) (r2 : Int) (r3 : Int) (r4 : Int) (w0 w : World) (hI : IsS91 w0 w g s0_0 s0_1 s0_2 s0_3) (hB : Below w0.heap.size w0 w) (h : quill_Strip_One.f s0_0 s0_1 s0_2 s0_3 = some (r1, r2, r3, r4)) :
    Calls Try.prog 46 #[.pointer (some ⟨g, 0, none⟩)] w fun e w' => e = .returned (.int .u8 r1) ∧ IsS91 w0 w' g s0_0 r2 r3 r4 ∧ Below w0.heap.size w0 w' ∧ KeepBut w w' g none :=
  stripOne_calls g s0_0 s0_1 s0_2 s0_3 r1 r2 r3 r4 w0 w hI hB h


/-! ### klaxonlaw01_QuillNil: function 13 -/
open Go.Proofs.YtmcnipjfigbkeaaK
set_option maxHeartbeats 400000 in
theorem read_nil (f : Value) (w : World) : Calls Try.prog 62 #[.pointer none, f] w fun e w' => e = .returned (.int .u64 0) ∧ Drawn0 w w' := by
  go_enter Try.func62, Try.ntmps62
  go_wp2
  go_ret
  exact ⟨rfl, by repeat (first | exact Drawn0.refl _ | apply Drawn0.step)⟩
set_option maxHeartbeats 400000 in
theorem number_nil (w : World) : Calls Try.prog 31 #[.pointer none] w fun e w' => e = .returned (.int .u64 0) ∧ Drawn0 w w' := by
  go_enter Try.func31, Try.ntmps31
  go_wp2_with fail
  refine (read_nil _ _).mono ?_
  rintro e w1 ⟨rfl, ⟨n1, rfl⟩⟩
  go_wp2_with fail
  go_ret
  exact ⟨rfl, ⟨_, rfl⟩⟩
set_option maxHeartbeats 400000 in
theorem signed_nil (w : World) : Calls Try.prog 33 #[.pointer none] w fun e w' => e = .returned (.int .i64 0) ∧ Drawn0 w w' := by
  go_enter Try.func33, Try.ntmps33
  go_wp2_with fail
  refine (read_nil _ _).mono ?_
  rintro e w1 ⟨rfl, ⟨n1, rfl⟩⟩
  go_wp2_with fail
  go_ret
  exact ⟨rfl, ⟨_, rfl⟩⟩
set_option maxHeartbeats 400000 in
theorem one_nil (w : World) : Calls Try.prog 46 #[.pointer none] w fun e w' => e = .returned (.int .u8 0) ∧ Drawn0 w w' := by
  go_enter Try.func46, Try.ntmps46
  go_wp2_with fail
  refine (read_nil _ _).mono ?_
  rintro e w1 ⟨rfl, ⟨n1, rfl⟩⟩
  go_wp2_with fail
  go_ret
  exact ⟨rfl, ⟨_, rfl⟩⟩
set_option maxHeartbeats 400000 in
theorem text_nil (most : Int) (w : World) : Calls Try.prog 44 #[.pointer none, .int .i64 most] w fun e w' => e = .returned (.string ⟨#[]⟩) ∧ Below w.heap.size w w' := by
  go_enter Try.func44, Try.ntmps44
  go_wp2_with fail
  refine (read_nil _ _).mono ?_
  rintro e w1 ⟨rfl, ⟨n1, rfl⟩⟩
  go_wp2_with fail
  have hB : Below w.heap.size w ((((w.alloc (Obj.cells #[Value.int IntKind.i64 most] 3)).alloc (Obj.cells #[Value.string ⟨#[]⟩] 9)).drewN n1).setCell ⟨w.heap.size + 1, 0, none⟩ (Value.string ⟨#[]⟩)) := below_set (pw_below_drewN (below_alloc (below_alloc (Below.refl _ _) _) _) _) (Nat.le_succ _)
  have hb0 := blk_drewN (blk_new (w.alloc (Obj.cells #[Value.int IntKind.i64 most] 3)) (Obj.cells #[Value.string ⟨#[]⟩] 9)) n1
  rw [show (w.alloc (Obj.cells #[Value.int IntKind.i64 most] 3)).heap.size = w.heap.size + 1 by simp] at hb0
  have hc := blk_cell (blk_set hb0 0 (.string ⟨#[]⟩)) 0
  have hc2 : ((((w.alloc (Obj.cells #[Value.int IntKind.i64 most] 3)).alloc (Obj.cells #[Value.string ⟨#[]⟩] 9)).drewN n1).setCell ⟨w.heap.size + 1, 0, none⟩ (Value.string ⟨#[]⟩)).cell? ⟨w.heap.size + 1, 0, none⟩ = some (.string ⟨#[]⟩) := by simpa using hc
  exact bodyPost_ret (v := .string ⟨#[]⟩) (by simp [results, Try.results44, go_sem, hc2]) rfl ⟨rfl, hB⟩
set_option maxHeartbeats 400000 in
theorem over_nil (w : World) : Calls Try.prog 45 #[.pointer none] w fun e w' => e = .returned (.int .i64 0) ∧ Drawn0 w w' := by
  go_enter Try.func45, Try.ntmps45
  go_wp2_with fail
  refine (nil_calls _).1.mono ?_
  rintro e w1 ⟨rfl, ⟨n1, rfl⟩⟩
  go_wp2_with fail
  refine (nil_calls _).2.2.mono ?_
  rintro e w2 ⟨rfl, ⟨n2, rfl⟩⟩
  go_wp2_with fail
  go_ret
  exact ⟨rfl, ⟨_, rfl⟩⟩
set_option maxHeartbeats 4000000 in
set_option maxRecDepth 100000 in
theorem nil_law (most : Int) (w : World) : Calls Try.prog 13 #[.int .i64 most] w fun e w' => e = .returned (.bool true) ∧ Below w.heap.size w w' := by
  go_enter Try.func13, Try.ntmps13
  go_wp2_with fail
  refine (nil_calls _).1.mono ?_
  rintro e w1 ⟨rfl, ⟨n1, rfl⟩⟩
  go_wp2_with fail
  refine (number_nil _).mono ?_
  rintro e w2 ⟨rfl, ⟨n2, rfl⟩⟩
  go_wp2_with fail
  refine (signed_nil _).mono ?_
  rintro e w3 ⟨rfl, ⟨n3, rfl⟩⟩
  go_wp2_with fail
  refine (text_nil most _).mono ?_
  rintro e w4 ⟨rfl, hb4⟩
  have HB := Aside0.mk (below_step (pw_below_drewN (Below.refl w.heap.size w) (n1 + n2 + n3)) hb4)
  clear hb4
  go_wp2_with fail
  refine (one_nil _).mono ?_
  rintro e w5 ⟨rfl, ⟨n5, rfl⟩⟩
  go_wp2_with fail
  refine ((nil_calls _).2.1).mono ?_
  rintro e w6 ⟨rfl, ⟨n6, rfl⟩⟩
  go_wp2_with fail
  refine ((nil_calls _).2.2).mono ?_
  rintro e w7 ⟨rfl, ⟨n7, rfl⟩⟩
  go_wp2_with fail
  refine (klaxonlaw01_num.calls 0 0 _ rfl).mono ?_
  rintro e w8 ⟨rfl, ⟨n8, rfl⟩⟩
  go_wp2_with fail
  refine (over_nil _).mono ?_
  rintro e w9 ⟨rfl, ⟨n9, rfl⟩⟩
  go_wp2_with fail
  refine (klaxonlaw01_num.calls 0 0 _ rfl).mono ?_
  rintro e w10 ⟨rfl, ⟨n10, rfl⟩⟩
  go_wp2_with fail
  refine (klaxonlaw01_live.calls true _ rfl).mono ?_
  rintro e w11 ⟨rfl, hb⟩
  have HB2 := Aside0.mk (below_step (pw_below_drewN HB.out _) hb)
  clear hb
  go_wp2_with fail
  go_ret
  exact ⟨rfl, HB2.out⟩
def klaxonlaw01_QuillNil.f (a0 : Int) : Option Bool := some true
theorem klaxonlaw01_QuillNil.calls (a0 : Int) (r : Bool) (w : World) (h : klaxonlaw01_QuillNil.f a0 = some r) :
    Calls Try.prog 13 #[.int .i64 a0] w fun e w' => e = .returned (.bool r) ∧ Below w.heap.size w w' := by
  obtain rfl : true = r := Option.some.inj h
  exact nil_law a0 w

end Go.Proofs.Ytmcnipjfigbkeaa.PQuill
