-- Written by a program of this session (wip/myprint.py), which drives the kit's print; read and checked by Lean alone.
import Derived.Test.YtmcnipjfigbkeaaPQuillx0
import Derived.Test.YtmcnipjfigbkeaaPQuillx1
import Derived.Test.YtmcnipjfigbkeaaPQuillx2
import Derived.Test.YtmcnipjfigbkeaaPQuillx3
namespace Go.Proofs.Ytmcnipjfigbkeaa.PQuill
open Go.RowKit Go.Proofs.YtmcnipjfigbkeaaW.PrintWords Go.Proofs.YtmcnipjfigbkeaaW.PrintLast Go.Proofs.YtmcnipjfigbkeaaW.PrintMore
attribute [local go_sem] max2_int min2_int max_two min_two max_three min_three max_four min_four   -- for this text's walks alone
set_option linter.unusedVariables false
set_option linter.unusedSimpArgs false

/-! ### klaxonlaw01_QuillBack: function 11 -/
mutual
def klaxonlaw01_QuillBack.j0 : Nat → List Int → List Int → List ByteArray → Bool → Option (Bool)
  | 0, _, _, _, _ => none
  | k + 1, x0, x1, x2, x23 => if x23 = true then ((klaxonlaw01_live.f).bind fun t329 => (some t329)) else ((quill_Number.f k ([] : List Int) x0).bind fun t330 => ((quill_Signed.f k t330 x1).bind fun t333 => ((quill_Text.f k t333 x2).bind fun t336 => ((quill_Unroll.f t336).bind fun bt339 => (klaxonlaw01_QuillBack.l0 k x0 x1 x2 0 bt339.1 bt339.2.1 bt339.2.2.1 bt339.2.2.2)))))
def klaxonlaw01_QuillBack.l0 : Nat → List Int → List Int → List ByteArray → Int → List Int → Int → Int → Int → Option (Bool)
  | 0, _, _, _, _, _, _, _, _ => none
  | k + 1, x0, x1, x2, x8, x344000, x344001, x344002, x344003 => if x8 < (x0.length : Int) then ((quill_Strip_Number.f x344000 x344001 x344002 x344003).bind fun bt344 => (if 0 ≤ x8 then (if bt344.1 = (rd x0 x8) then (klaxonlaw01_QuillBack.l0 k x0 x1 x2 (wrap64 (x8 + 1)) x344000 bt344.2.1 bt344.2.2.1 bt344.2.2.2) else (some false)) else (none))) else (klaxonlaw01_QuillBack.l1 k x1 x2 0 x344000 x344001 x344002 x344003)
def klaxonlaw01_QuillBack.l1 : Nat → List Int → List ByteArray → Int → List Int → Int → Int → Int → Option (Bool)
  | 0, _, _, _, _, _, _, _ => none
  | k + 1, x1, x2, x9, x344000, x344001, x344002, x344003 => if x9 < (x1.length : Int) then ((quill_Strip_Signed.f x344000 x344001 x344002 x344003).bind fun bt349 => (if 0 ≤ x9 then (if bt349.1 = (rd x1 x9) then (klaxonlaw01_QuillBack.l1 k x1 x2 (wrap64 (x9 + 1)) x344000 bt349.2.1 bt349.2.2.1 bt349.2.2.2) else (some false)) else (none))) else (klaxonlaw01_QuillBack.l2 k x2 0 x344000 x344001 x344002 x344003)
def klaxonlaw01_QuillBack.l2 : Nat → List ByteArray → Int → List Int → Int → Int → Int → Option (Bool)
  | 0, _, _, _, _, _, _ => none
  | k + 1, x2, x10, x344000, x344001, x344002, x344003 => if x10 < (x2.length : Int) then ((quill_Strip_Text.f x344000 x344001 x344002 x344003 20000).bind fun bt354 => (if 0 ≤ x10 then (if bt354.1.toList = (rdOf ByteArray.empty x2 x10).toList then (klaxonlaw01_QuillBack.l2 k x2 (wrap64 (x10 + 1)) x344000 bt354.2.1 bt354.2.2.1 bt354.2.2.2) else (some false)) else (none))) else ((quill_Strip_Over.f x344000 x344001 x344002 x344003).bind fun bt359 => ((klaxonlaw01_num.f bt359.1).bind fun t363 => (if t363 = 0 then ((klaxonlaw01_live.f).bind fun t364 => (some t364)) else (some false))))
end
def klaxonlaw01_QuillBack.f (k : Nat) (l0 : List Int) (l1 : List Int) (l2 : List ByteArray) : Option (Bool) := if (l0.length : Int) > 60 then (klaxonlaw01_QuillBack.j0 k l0 l1 l2 true) else (if (l1.length : Int) > 60 then (klaxonlaw01_QuillBack.j0 k l0 l1 l2 true) else ((klaxonlaw01_texts.f k l2).bind fun t328 => (klaxonlaw01_QuillBack.j0 k l0 l1 l2 (!t328))))
theorem klaxonlaw01_QuillBack.mono_l : ∀ k, (∀ y0 y1 y2 y3, LeO (klaxonlaw01_QuillBack.j0 k y0 y1 y2 y3) (klaxonlaw01_QuillBack.j0 (k + 1) y0 y1 y2 y3)) ∧ (∀ y0 y1 y2 y3 y4 y5 y6 y7, LeO (klaxonlaw01_QuillBack.l0 k y0 y1 y2 y3 y4 y5 y6 y7) (klaxonlaw01_QuillBack.l0 (k + 1) y0 y1 y2 y3 y4 y5 y6 y7)) ∧ (∀ y0 y1 y2 y3 y4 y5 y6, LeO (klaxonlaw01_QuillBack.l1 k y0 y1 y2 y3 y4 y5 y6) (klaxonlaw01_QuillBack.l1 (k + 1) y0 y1 y2 y3 y4 y5 y6)) ∧ (∀ y0 y1 y2 y3 y4 y5, LeO (klaxonlaw01_QuillBack.l2 k y0 y1 y2 y3 y4 y5) (klaxonlaw01_QuillBack.l2 (k + 1) y0 y1 y2 y3 y4 y5))
  | 0 => ⟨fun _ _ _ _ r h => by simp [klaxonlaw01_QuillBack.j0] at h, fun _ _ _ _ _ _ _ _ r h => by simp [klaxonlaw01_QuillBack.l0] at h, fun _ _ _ _ _ _ _ r h => by simp [klaxonlaw01_QuillBack.l1] at h, fun _ _ _ _ _ _ r h => by simp [klaxonlaw01_QuillBack.l2] at h⟩
  | k + 1 => by
    obtain ⟨ih0, ih1, ih2, ih3⟩ := klaxonlaw01_QuillBack.mono_l k
    refine ⟨?_, ?_, ?_, ?_⟩
    · intro y0 y1 y2 y3
      unfold klaxonlaw01_QuillBack.j0
      repeat' first
      | (with_reducible exact ih0 _ _ _ _)
      | (with_reducible exact ih1 _ _ _ _ _ _ _ _)
      | (with_reducible exact ih2 _ _ _ _ _ _ _)
      | (with_reducible exact ih3 _ _ _ _ _ _)
      | (with_reducible exact klaxonlaw01_texts.mono _ _)
      | (with_reducible exact quill_Number.mono _ _ _)
      | (with_reducible exact quill_Signed.mono _ _ _)
      | (with_reducible exact quill_Text.mono _ _ _)
      | (with_reducible exact LeO.refl _)
      | (with_reducible exact LeO.none _)
      | (with_reducible refine LeO.ite ?_ ?_)
      | (with_reducible refine LeO.bind ?_ (fun _ => ?_))
      | exact ih0 _ _ _ _
      | exact ih1 _ _ _ _ _ _ _ _
      | exact ih2 _ _ _ _ _ _ _
      | exact ih3 _ _ _ _ _ _
      | exact klaxonlaw01_texts.mono _ _
      | exact quill_Number.mono _ _ _
      | exact quill_Signed.mono _ _ _
      | exact quill_Text.mono _ _ _
      | exact LeO.none _
      | refine LeO.ite ?_ ?_
      | refine LeO.bind ?_ (fun _ => ?_)
    · intro y0 y1 y2 y3 y4 y5 y6 y7
      unfold klaxonlaw01_QuillBack.l0
      repeat' first
      | (with_reducible exact ih0 _ _ _ _)
      | (with_reducible exact ih1 _ _ _ _ _ _ _ _)
      | (with_reducible exact ih2 _ _ _ _ _ _ _)
      | (with_reducible exact ih3 _ _ _ _ _ _)
      | (with_reducible exact klaxonlaw01_texts.mono _ _)
      | (with_reducible exact quill_Number.mono _ _ _)
      | (with_reducible exact quill_Signed.mono _ _ _)
      | (with_reducible exact quill_Text.mono _ _ _)
      | (with_reducible exact LeO.refl _)
      | (with_reducible exact LeO.none _)
      | (with_reducible refine LeO.ite ?_ ?_)
      | (with_reducible refine LeO.bind ?_ (fun _ => ?_))
      | exact ih0 _ _ _ _
      | exact ih1 _ _ _ _ _ _ _ _
      | exact ih2 _ _ _ _ _ _ _
      | exact ih3 _ _ _ _ _ _
      | exact klaxonlaw01_texts.mono _ _
      | exact quill_Number.mono _ _ _
      | exact quill_Signed.mono _ _ _
      | exact quill_Text.mono _ _ _
      | exact LeO.none _
      | refine LeO.ite ?_ ?_
      | refine LeO.bind ?_ (fun _ => ?_)
    · intro y0 y1 y2 y3 y4 y5 y6
      unfold klaxonlaw01_QuillBack.l1
      repeat' first
      | (with_reducible exact ih0 _ _ _ _)
      | (with_reducible exact ih1 _ _ _ _ _ _ _ _)
      | (with_reducible exact ih2 _ _ _ _ _ _ _)
      | (with_reducible exact ih3 _ _ _ _ _ _)
      | (with_reducible exact klaxonlaw01_texts.mono _ _)
      | (with_reducible exact quill_Number.mono _ _ _)
      | (with_reducible exact quill_Signed.mono _ _ _)
      | (with_reducible exact quill_Text.mono _ _ _)
      | (with_reducible exact LeO.refl _)
      | (with_reducible exact LeO.none _)
      | (with_reducible refine LeO.ite ?_ ?_)
      | (with_reducible refine LeO.bind ?_ (fun _ => ?_))
      | exact ih0 _ _ _ _
      | exact ih1 _ _ _ _ _ _ _ _
      | exact ih2 _ _ _ _ _ _ _
      | exact ih3 _ _ _ _ _ _
      | exact klaxonlaw01_texts.mono _ _
      | exact quill_Number.mono _ _ _
      | exact quill_Signed.mono _ _ _
      | exact quill_Text.mono _ _ _
      | exact LeO.none _
      | refine LeO.ite ?_ ?_
      | refine LeO.bind ?_ (fun _ => ?_)
    · intro y0 y1 y2 y3 y4 y5
      unfold klaxonlaw01_QuillBack.l2
      repeat' first
      | (with_reducible exact ih0 _ _ _ _)
      | (with_reducible exact ih1 _ _ _ _ _ _ _ _)
      | (with_reducible exact ih2 _ _ _ _ _ _ _)
      | (with_reducible exact ih3 _ _ _ _ _ _)
      | (with_reducible exact klaxonlaw01_texts.mono _ _)
      | (with_reducible exact quill_Number.mono _ _ _)
      | (with_reducible exact quill_Signed.mono _ _ _)
      | (with_reducible exact quill_Text.mono _ _ _)
      | (with_reducible exact LeO.refl _)
      | (with_reducible exact LeO.none _)
      | (with_reducible refine LeO.ite ?_ ?_)
      | (with_reducible refine LeO.bind ?_ (fun _ => ?_))
      | exact ih0 _ _ _ _
      | exact ih1 _ _ _ _ _ _ _ _
      | exact ih2 _ _ _ _ _ _ _
      | exact ih3 _ _ _ _ _ _
      | exact klaxonlaw01_texts.mono _ _
      | exact quill_Number.mono _ _ _
      | exact quill_Signed.mono _ _ _
      | exact quill_Text.mono _ _ _
      | exact LeO.none _
      | refine LeO.ite ?_ ?_
      | refine LeO.bind ?_ (fun _ => ?_)
theorem klaxonlaw01_QuillBack.mono : ∀ a0 a1 a2 k, LeO (klaxonlaw01_QuillBack.f k a0 a1 a2) (klaxonlaw01_QuillBack.f (k + 1) a0 a1 a2) := by
  intro a0 a1 a2 k
  obtain ⟨ih0, ih1, ih2, ih3⟩ := klaxonlaw01_QuillBack.mono_l k
  unfold klaxonlaw01_QuillBack.f
  repeat' first
      | (with_reducible exact ih0 _ _ _ _)
      | (with_reducible exact ih1 _ _ _ _ _ _ _ _)
      | (with_reducible exact ih2 _ _ _ _ _ _ _)
      | (with_reducible exact ih3 _ _ _ _ _ _)
      | (with_reducible exact klaxonlaw01_texts.mono _ _)
      | (with_reducible exact quill_Number.mono _ _ _)
      | (with_reducible exact quill_Signed.mono _ _ _)
      | (with_reducible exact quill_Text.mono _ _ _)
      | (with_reducible exact LeO.refl _)
      | (with_reducible exact LeO.none _)
      | (with_reducible refine LeO.ite ?_ ?_)
      | (with_reducible refine LeO.bind ?_ (fun _ => ?_))
      | exact ih0 _ _ _ _
      | exact ih1 _ _ _ _ _ _ _ _
      | exact ih2 _ _ _ _ _ _ _
      | exact ih3 _ _ _ _ _ _
      | exact klaxonlaw01_texts.mono _ _
      | exact quill_Number.mono _ _ _
      | exact quill_Signed.mono _ _ _
      | exact quill_Text.mono _ _ _
      | exact LeO.none _
      | refine LeO.ite ?_ ?_
      | refine LeO.bind ?_ (fun _ => ?_)
set_option maxHeartbeats 8000000 in
set_option maxRecDepth 100000 in
theorem klaxonlaw01_QuillBack.calls (k : Nat) (A0 : Option Addr) (c0 : Nat) (l0 : List Int) (A1 : Option Addr) (c1 : Nat) (l1 : List Int) (A2 : Option Addr) (c2 : Nat) (l2 : List ByteArray) (w : World) (hr0 : Kd.C (Kd.int .u64) w A0 l0.length l0) (hc0 : l0.length ≤ c0) (hr1 : Kd.C (Kd.int .i64) w A1 l1.length l1) (hc1 : l1.length ≤ c1) (hr2 : Kd.C Kd.string w A2 l2.length l2) (hc2 : l2.length ≤ c2) (h : klaxonlaw01_QuillBack.f k l0 l1 l2 = some true) :
    Calls Try.prog 11 #[.slice A0 l0.length c0, .slice A1 l1.length c1, .slice A2 l2.length c2] w fun e w' => e = .returned (.bool true) ∧ Below w.heap.size w w' := by
  have HR0 := Aside0.mk hr0
  have HC0 := Aside0.mk hc0
  clear hr0 hc0
  have HR1 := Aside0.mk hr1
  have HC1 := Aside0.mk hc1
  clear hr1 hc1
  have HR2 := Aside0.mk hr2
  have HC2 := Aside0.mk hc2
  clear hr2 hc2
  have HB := Aside0.mk (Below.refl w.heap.size w)
  have H : (if (l0.length : Int) > 60 then (klaxonlaw01_QuillBack.j0 k l0 l1 l2 true) else (if (l1.length : Int) > 60 then (klaxonlaw01_QuillBack.j0 k l0 l1 l2 true) else ((klaxonlaw01_texts.f k l2).bind fun t328 => (klaxonlaw01_QuillBack.j0 k l0 l1 l2 (!t328))))) = some true := h
  clear h
  have HC4 := Aside0.mk H
  clear H
  go_enter Try.func11, Try.ntmps11
  go_upto_region 1 with (fail)
  go_cut [23] (fun v23 wc => ∃ (kq : Nat) (x23_3 : Bool), v23 = .bool x23_3 ∧ Aside0 (klaxonlaw01_QuillBack.j0 kq l0 l1 l2 x23_3 = some true) ∧ Aside0 (kq ≤ k) ∧ Aside0 (Below w.heap.size w wc))
  case first =>
    have H := HC4.out
    clear HC4
    by_cases c5 : (l0.length : Int) > 60
    · rw [if_pos c5] at H
      have c5b0 : decide (60 < (l0.length : Int)) = true := decide_eq_true c5
      have c5b1 : decide (60 < l0.length) = true := decide_eq_true (by omega)
      clear c5
      (first | rw [c5b0] | (simp only [i64_w, i32_w]; rw [c5b0]) | skip)
      have H' := Aside0.mk H
      clear H
      go_wp2
      go_meet
      case rel => exact ⟨_, (true), (by first | rfl | (simp; done) | (simp [*]; done)), H', ⟨by first | omega | exact Nat.le_refl _⟩, ⟨by repeat (first | (with_reducible first | exact HB.out | apply below_alloc | apply pw_below_drewN | apply below_drew1) | exact HB.out)⟩⟩
    · rw [if_neg c5] at H
      have c5b0 : decide (60 < (l0.length : Int)) = false := decide_eq_false c5
      have c5b1 : decide (60 < l0.length) = false := decide_eq_false (by omega)
      clear c5
      (first | rw [c5b0] | (simp only [i64_w, i32_w]; rw [c5b0]) | skip)
      by_cases c6 : (l1.length : Int) > 60
      · rw [if_pos c6] at H
        have c6b0 : decide (60 < (l1.length : Int)) = true := decide_eq_true c6
        have c6b1 : decide (60 < l1.length) = true := decide_eq_true (by omega)
        clear c6
        have H' := Aside0.mk H
        clear H
        go_wp2
        go_meet
        case rel => exact ⟨_, (true), (by first | rfl | (simp; done) | (simp [*]; done)), H', ⟨by first | omega | exact Nat.le_refl _⟩, ⟨by repeat (first | (with_reducible first | exact HB.out | apply below_alloc | apply pw_below_drewN | apply below_drew1) | exact HB.out)⟩⟩
      · rw [if_neg c6] at H
        have c6b0 : decide (60 < (l1.length : Int)) = false := decide_eq_false c6
        have c6b1 : decide (60 < l1.length) = false := decide_eq_false (by omega)
        clear c6
        replace H := Option.bind_eq_some_iff.mp H
        obtain ⟨t328, A70, H⟩ := H
        replace H : (klaxonlaw01_QuillBack.j0 k l0 l1 l2 (!t328)) = some true := H
        have A7 := Aside0.mk A70
        clear A70
        have H' := Aside0.mk H
        clear H
        go_wp2_with (first | (go_at_call 38; (with_reducible refine (klaxonlaw01_texts.calls k _ _ l2 t328 _ ?side1 ?side2 A7.out).mono ?_); (case side1 => repeat (first | exact (Kd.C_below HR2.out HB.out) | (with_reducible refine Kd.C_alloc ?_ _) | (with_reducible refine Kd.C_drewN ?_ _) | (with_reducible refine Kd.C_drew ?_))); (case side2 => exact HC2.out); rintro e w' ⟨rfl, ⟨nd, rfl⟩⟩))
        go_meet
        case rel => exact ⟨_, (!t328), (by first | rfl | (simp; done) | (simp [*]; done)), H', ⟨by first | omega | exact Nat.le_refl _⟩, ⟨by repeat (first | (with_reducible first | exact HB.out | apply below_alloc | apply pw_below_drewN | apply below_drew1) | exact HB.out)⟩⟩
  case rest =>
    clear HC4
    try clear c1
    try clear c2
    try clear p2
    try clear c5
    try clear c5b0
    try clear c5b1
    try clear c6
    try clear c6b0
    try clear c6b1
    obtain ⟨kq, x23_3, rfl, HA, HJ3, HB⟩ := hcut
    cases kq with
    | zero => exact absurd HA.out (by simp [klaxonlaw01_QuillBack.j0])
    | succ kj3 =>
      have H := HA.out
      clear HA
      simp only [klaxonlaw01_QuillBack.j0] at H
      by_cases c8 : x23_3 = true
      · subst c8
        have H1 : ((klaxonlaw01_live.f).bind fun t329 => (some t329)) = some true := by rw [if_pos rfl] at H; exact H
        clear H
        have H := H1
        clear H1
        replace H := Option.bind_eq_some_iff.mp H
        obtain ⟨t329, A90, H⟩ := H
        replace H : (some t329) = some true := H
        have A9 := Aside0.mk A90
        clear A90
        have H9_ := Option.some.inj H
        clear H
        go_wp2_with (first | ((with_reducible refine gate_callee (f := 28) rfl ?_); refine goesL_ (some 24) rfl rfl Try.func28 (by kernel_rfl) rfl #[] rfl (by (try simp only [List.map_toArray, List.map_cons, List.map_nil]); first | done | rfl | (simp only [List.length_drop, List.length_take]; rfl)) ?_; (with_reducible refine (klaxonlaw01_live.calls  t329 _ A9.out).mono ?_); rintro e w10 ⟨rfl, hb⟩; refine ⟨_, rfl, ?_⟩; have n0_ := Aside0.mk (below_step (by repeat (first | (with_reducible first | exact HB.out | apply below_alloc | apply pw_below_drewN | apply below_drew1) | exact HB.out)) hb); clear HB; have HB := n0_; clear n0_; (try clear hb); (try clear hb2); (try clear hk); (try clear hi)))
        go_ret
        exact ⟨by first | rfl | (simp [errW_none, errW_some] <;> rfl) | (simp [*, errW_none, errW_some] <;> rfl), by repeat (first | (with_reducible first | exact HB.out | apply below_alloc | apply pw_below_drewN | apply below_drew1) | exact HB.out)⟩
      · replace c8 := Bool.eq_false_iff.mpr c8
        subst c8
        have H1 : ((quill_Number.f kj3 ([] : List Int) l0).bind fun t330 => ((quill_Signed.f kj3 t330 l1).bind fun t333 => ((quill_Text.f kj3 t333 l2).bind fun t336 => ((quill_Unroll.f t336).bind fun bt339 => (klaxonlaw01_QuillBack.l0 kj3 l0 l1 l2 0 bt339.1 bt339.2.1 bt339.2.2.1 bt339.2.2.2))))) = some true := by rw [if_neg (show ¬ (false = true) by decide)] at H; exact H
        clear H
        have H := H1
        clear H1
        replace H := Option.bind_eq_some_iff.mp H
        obtain ⟨t330, A110, H⟩ := H
        replace H : ((quill_Signed.f kj3 t330 l1).bind fun t333 => ((quill_Text.f kj3 t333 l2).bind fun t336 => ((quill_Unroll.f t336).bind fun bt339 => (klaxonlaw01_QuillBack.l0 kj3 l0 l1 l2 0 bt339.1 bt339.2.1 bt339.2.2.1 bt339.2.2.2)))) = some true := H
        have A11 := Aside0.mk A110
        clear A110
        replace H := Option.bind_eq_some_iff.mp H
        obtain ⟨t333, A120, H⟩ := H
        replace H : ((quill_Text.f kj3 t333 l2).bind fun t336 => ((quill_Unroll.f t336).bind fun bt339 => (klaxonlaw01_QuillBack.l0 kj3 l0 l1 l2 0 bt339.1 bt339.2.1 bt339.2.2.1 bt339.2.2.2))) = some true := H
        have A12 := Aside0.mk A120
        clear A120
        replace H := Option.bind_eq_some_iff.mp H
        obtain ⟨t336, A130, H⟩ := H
        replace H : ((quill_Unroll.f t336).bind fun bt339 => (klaxonlaw01_QuillBack.l0 kj3 l0 l1 l2 0 bt339.1 bt339.2.1 bt339.2.2.1 bt339.2.2.2)) = some true := H
        have A13 := Aside0.mk A130
        clear A130
        replace H := Option.bind_eq_some_iff.mp H
        obtain ⟨⟨t339, t340, t341, t342⟩, A140, H⟩ := H
        replace H : (klaxonlaw01_QuillBack.l0 kj3 l0 l1 l2 0 t339 t340 t341 t342) = some true := H
        have A14 := Aside0.mk A140
        clear A140
        have H' := Aside0.mk H
        clear H
        go_wp2_with (first | ((with_reducible refine gate_callee (f := 29) rfl ?_); refine goesL_ (some 26) rfl rfl Try.func29 (by kernel_rfl) rfl #[.slice none 0 0, .slice A0 l0.length c0] rfl (by (try simp only [List.map_toArray, List.map_cons, List.map_nil]); first | done | rfl | (simp only [List.length_drop, List.length_take]; rfl)) ?_; (refine (quill_Number.calls kj3 (fun k_ => some k_ = (.slice none 0 0 : Value).ownBlock) (.slice none 0 0) ([] : List Int) _ _ l0 t330 w _ ?side1 ?side2 ?side3 ?side4 A11.out).mono ?_); (case side1 => repeat (first | (with_reducible first | exact HB.out | apply below_alloc | apply pw_below_drewN | apply below_drew1) | exact HB.out)); (case side2 => exact Kd.R_nil _ _ _ _ _); (case side3 => exact Kd.C_kept_came (Kd.heap_int .u64) HR0.out (by repeat (first | (with_reducible first | exact HB.out | apply below_alloc | apply pw_below_drewN | apply below_drew1) | exact HB.out)) (fun k_ hs_ => (fun e_ => by simp [Value.ownBlock] at e_) hs_)); (case side4 => exact HC0.out); rintro e w15 ⟨v331, rfl, ho0, hb, hkp⟩; refine ⟨_, rfl, ?_⟩; have n0_ := Aside0.mk (Kd.R_mono (ok' := fun k_ => True) ho0 (fun k_ hk_ => trivial)); have n1_ := Aside0.mk (hb); clear HB; have HO332 := n0_; have HB := n1_; clear n0_ n1_; (try clear hb); (try clear hkp); (try clear ho0); obtain ⟨Ao16, co16, eo16⟩ := Kd.R_slice HO332.out; subst eo16) | ((with_reducible refine gate_callee (f := 36) rfl ?_); refine goesL_ (some 28) rfl rfl Try.func36 (by kernel_rfl) rfl #[.slice Ao16 t330.length co16, .slice A1 l1.length c1] rfl (by (try simp only [List.map_toArray, List.map_cons, List.map_nil]); first | done | rfl | (simp only [List.length_drop, List.length_take]; rfl)) ?_; (with_reducible refine (quill_Signed.calls kj3 (fun k_ => some k_ = (.slice Ao16 t330.length co16 : Value).ownBlock) (.slice Ao16 t330.length co16) t330 _ _ l1 t333 w _ ?side1 ?side2 ?side3 ?side4 A12.out).mono ?_); (case side1 => repeat (first | (with_reducible first | exact HB.out | apply below_alloc | apply pw_below_drewN | apply below_drew1) | exact HB.out)); (case side2 => exact Kd.R_tight rfl HO332.out); (case side3 => exact Kd.C_kept_came (Kd.heap_int .i64) HR1.out (by repeat (first | (with_reducible first | exact HB.out | apply below_alloc | apply pw_below_drewN | apply below_drew1) | exact HB.out)) (fun k_ hs_ => (fun e_ => Kd.R_base HO332.out k_ e_.symm) hs_)); (case side4 => exact HC1.out); rintro e w17 ⟨v334, rfl, ho0, hb, hkp⟩; refine ⟨_, rfl, ?_⟩; have n0_ := Aside0.mk (Kd.R_mono (ok' := fun k_ => True) ho0 (fun k_ hk_ => trivial)); have n1_ := Aside0.mk (hb); clear HB; clear HO332; have HO335 := n0_; have HB := n1_; clear n0_ n1_; (try clear hb); (try clear hkp); (try clear ho0); obtain ⟨Ao18, co18, eo18⟩ := Kd.R_slice HO335.out; subst eo18) | ((with_reducible refine gate_callee (f := 42) rfl ?_); refine goesL_ (some 30) rfl rfl Try.func42 (by kernel_rfl) rfl #[.slice Ao18 t333.length co18, .slice A2 l2.length c2] rfl (by (try simp only [List.map_toArray, List.map_cons, List.map_nil]); first | done | rfl | (simp only [List.length_drop, List.length_take]; rfl)) ?_; (with_reducible refine (quill_Text.calls kj3 (fun k_ => some k_ = (.slice Ao18 t333.length co18 : Value).ownBlock) (.slice Ao18 t333.length co18) t333 _ _ l2 t336 w _ ?side1 ?side2 ?side3 ?side4 A13.out).mono ?_); (case side1 => repeat (first | (with_reducible first | exact HB.out | apply below_alloc | apply pw_below_drewN | apply below_drew1) | exact HB.out)); (case side2 => exact Kd.R_tight rfl HO335.out); (case side3 => exact Kd.C_kept_came Kd.heap_string HR2.out (by repeat (first | (with_reducible first | exact HB.out | apply below_alloc | apply pw_below_drewN | apply below_drew1) | exact HB.out)) (fun k_ hs_ => (fun e_ => Kd.R_base HO335.out k_ e_.symm) hs_)); (case side4 => exact HC2.out); rintro e w19 ⟨v337, rfl, ho0, hb, hkp⟩; refine ⟨_, rfl, ?_⟩; have n0_ := Aside0.mk (Kd.R_mono (ok' := fun k_ => True) ho0 (fun k_ hk_ => trivial)); have n1_ := Aside0.mk (hb); clear HB; clear HO335; have HO338 := n0_; have HB := n1_; clear n0_ n1_; (try clear hb); (try clear hkp); (try clear ho0); obtain ⟨Ao20, co20, eo20⟩ := Kd.R_slice HO338.out; subst eo20) | ((with_reducible refine gate_callee (f := 30) rfl ?_); refine goesL_ (some 31) rfl rfl Try.func30 (by kernel_rfl) rfl #[.slice Ao20 t336.length co20] rfl (by (try simp only [List.map_toArray, List.map_cons, List.map_nil]); first | done | rfl | (simp only [List.length_drop, List.length_take]; rfl)) ?_; (with_reducible refine (quill_Unroll.calls _ _ t336 t339 t340 t341 t342 w _ ?side1 ?side2 ?side3 A14.out).mono ?_); (case side1 => repeat (first | (with_reducible first | exact HB.out | apply below_alloc | apply pw_below_drewN | apply below_drew1) | exact HB.out)); (case side2 => repeat (first | exact (Kd.R_reads' HO338.out).2.2 | (with_reducible refine Kd.C_alloc ?_ _) | (with_reducible refine Kd.C_drewN ?_ _) | (with_reducible refine Kd.C_drew ?_))); (case side3 => exact (Kd.R_reads' HO338.out).2.1); rintro e w21 ⟨g343, rfl, hi, hb, hb2⟩; refine ⟨_, rfl, ?_⟩; have n0_ := Aside0.mk (Kd.R_below (by (with_reducible repeat (first | apply Kd.R_alloc | apply Kd.R_drewN | apply Kd.R_drew)); exact HO338.out) hb2); have n1_ := Aside0.mk (hb); have n2_ := Aside0.mk (hi); clear HO338; clear HB; have HO338 := n0_; have HB := n1_; have HI343 := n2_; clear n0_ n1_ n2_; (try clear hb); (try clear hb2); (try clear hk); (try clear hi)))
        go_loopg [8] kj3 (fun kq v8 w' => ∃ (x8_2 : Int) (x344001_2 : Int) (x344002_2 : Int) (x344003_2 : Int), v8 = .int .i64 x8_2 ∧ Aside0 (klaxonlaw01_QuillBack.l0 kq l0 l1 l2 x8_2 t339 x344001_2 x344002_2 x344003_2 = some true) ∧ Aside0 (kq ≤ kj3) ∧ Aside0 (IsS91 w w' g343 t339 x344001_2 x344002_2 x344003_2) ∧ Aside0 (Below w.heap.size w w'))
        case atStart => exact ⟨(0), (t340), (t341), (t342), (by first | rfl | (simp; done) | (simp [*]; done)), H', ⟨Nat.le_refl _⟩, ⟨by repeat (first | (with_reducible first | exact HI343.out | apply IsS91.alloc | apply IsS91.drewN | apply IsS91.drew | apply IsS91.set_1 | apply IsS91.set_2 | apply IsS91.set_3) | exact HI343.out)⟩, ⟨by repeat (first | (with_reducible first | exact HB.out | apply below_alloc | apply pw_below_drewN | apply below_drew1 | refine below_set ?_ (IsS91.ge HI343.out)) | exact HB.out)⟩⟩
        case round =>
          clear H'
          try clear c1
          try clear c2
          try clear p2
          try clear c3
          try clear c4
          try clear c5
          try clear c5b0
          try clear c5b1
          try clear c6
          try clear c6b0
          try clear c6b1
          try clear c8
          try clear c11
          try clear p2
          obtain ⟨x8_2, x344001_2, x344002_2, x344003_2, rfl, HA, HK2, HI343, HB⟩ := hrel
          cases gk with
          | zero => exact absurd HA.out (by simp [klaxonlaw01_QuillBack.l0])
          | succ k2 =>
            have H := HA.out
            clear HA
            simp only [klaxonlaw01_QuillBack.l0] at H
            by_cases c22 : x8_2 < (l0.length : Int)
            · rw [if_pos c22] at H
              have c22b0 : decide (x8_2 < (l0.length : Int)) = true := decide_eq_true c22
              clear c22
              replace H := Option.bind_eq_some_iff.mp H
              obtain ⟨⟨t344, t345, t346, t347⟩, A230, H⟩ := H
              replace H : (if 0 ≤ x8_2 then (if t344 = (rd l0 x8_2) then (klaxonlaw01_QuillBack.l0 k2 l0 l1 l2 (wrap64 (x8_2 + 1)) t339 t345 t346 t347) else (some false)) else (none)) = some true := H
              have A23 := Aside0.mk A230
              clear A230
              by_cases c24 : 0 ≤ x8_2
              · rw [if_pos c24] at H
                have c24b0 : decide (0 ≤ x8_2) = true := decide_eq_true c24
                clear c24
                by_cases c25 : t344 = (rd l0 x8_2)
                · rw [if_pos c25] at H
                  have c25b0 : (t344 == (rd l0 x8_2)) = true := beq_iff_eq.mpr c25
                  have c25b1 : (t344 != (rd l0 x8_2)) = false := bne_eq_false_iff_eq.mpr c25
                  clear c25
                  have H' := Aside0.mk H
                  clear H
                  try go_wp2
                  have n0_ := Aside0.mk (IsS91.drew HI343.out)
                  have n1_ := Aside0.mk (below_drew1 HB.out)
                  clear HI343
                  clear HB
                  have HI343 := n0_
                  have HB := n1_
                  clear n0_ n1_
                  have p348 : 0 ≤ (x8_2 : Int) := of_decide_eq_true (by first | (with_reducible assumption) | assumption)
                  have q348 : x8_2 < (l0.length : Int) := of_decide_eq_true (by first | (with_reducible assumption) | assumption)
                  obtain ⟨ad348, e348, hx348_0⟩ := Kd.at_int HR0.out x8_2 p348 q348
                  have hw348_0 := hx348_0
                  cases e348
                  replace hx348_0 := (HB.out.cell (World.block_lt_of_cell? w _ hx348_0)).trans hx348_0
                  replace p348 := eq_true p348
                  replace q348 := eq_true q348
                  refine start_ (n := 7) (S := fun w' => w'.cell? (ad348.add (x8_2).toNat) = some (.int .u64 (rd l0 x8_2))) (ds := []) #[false, false, false, false, false, false, false] (by kernel_rfl) rfl rfl (((HB.out.cell (World.block_lt_of_cell? w _ hw348_0)).trans hw348_0)) (fun hHeld => ?_)
                  generalize wr.drew = w26 at HI343 HB hx348_0 hHeld ⊢
                  refine pure_ (i := 0) (N := some 40) (v := ?_) (a' := ?_) #[true, false, false, false, false, false, false] rfl rfl (by kernel_rfl) (fun _ _ _ h => h) (Or.inl ⟨by rfl, ?_⟩) ?_ ?_
                  rotate_left
                  · intro w'
                    go_simp
                    with_reducible rfl
                  rotate_left
                  · simp only [Act.put, List.setIfInBounds_toArray, List.set_cons_zero, List.set_cons_succ, i64_w, i32_w]
                    rfl
                  refine pure_ (i := 2) (N := some 42) (v := ?_) (a' := ?_) #[true, false, true, false, false, false, false] rfl rfl (by kernel_rfl) (fun _ _ _ h => h) (Or.inl ⟨by rfl, ?_⟩) ?_ ?_
                  rotate_left
                  · intro w'
                    go_simp
                    with_reducible rfl
                  rotate_left
                  · simp only [Act.put, List.setIfInBounds_toArray, List.set_cons_zero, List.set_cons_succ, i64_w, i32_w]
                    rfl
                  refine pure_ (i := 3) (N := some 43) (v := ?_) (a' := ?_) #[true, false, true, true, false, false, false] rfl rfl (by kernel_rfl) (fun _ _ _ h => h) (Or.inl ⟨by rfl, ?_⟩) ?_ ?_
                  rotate_left
                  · intro w'
                    go_simp
                    with_reducible rfl
                  rotate_left
                  · simp only [Act.put, List.setIfInBounds_toArray, List.set_cons_zero, List.set_cons_succ, i64_w, i32_w]
                    rfl
                  refine pure_ (i := 4) (N := some 44) (v := ?_) (a' := ?_) #[true, false, true, true, true, false, false] rfl rfl (by kernel_rfl) (fun _ _ _ h => h) (Or.inl ⟨by rfl, ?_⟩) ?_ ?_
                  rotate_left
                  · intro w'
                    go_simp
                    with_reducible rfl
                  rotate_left
                  · simp only [Act.put, List.setIfInBounds_toArray, List.set_cons_zero, List.set_cons_succ, i64_w, i32_w]
                    rfl
                  refine take_ (i := 5) (N := some 45) (v := ?_) (a' := ?_) #[true, false, true, true, true, true, false] rfl rfl (by kernel_rfl) (fun _ _ _ h => h) (Or.inl ⟨by rfl, ?_⟩) hHeld ?_ ?_
                  rotate_left
                  · intro w' s0
                    go_simp
                    with_reducible rfl
                  rotate_left
                  · simp only [Act.put, List.setIfInBounds_toArray, List.set_cons_zero, List.set_cons_succ, i64_w, i32_w]
                    rfl
                  refine one_ (i := 1) (N := some 41) #[true, true, true, true, true, true, false] rfl rfl (by kernel_rfl) (by decide) (fun K hK => ?_)
                  refine goes_ Try.func31 (by kernel_rfl) rfl #[.pointer (some ⟨g343, 0, none⟩)] (by rfl) rfl rfl (by (try simp only [List.map_toArray, List.map_cons, List.map_nil]); first | done | rfl | (simp only [List.length_drop, List.length_take]; rfl)) ?_
                  with_reducible refine (quill_Strip_Number.calls g343 t339 x344001_2 x344002_2 x344003_2 t344 t345 t346 t347 w _ ?side1 ?side2 A23.out).mono ?_
                  (case side1 => repeat (first | (with_reducible first | exact HI343.out | apply IsS91.alloc | apply IsS91.drewN | apply IsS91.drew | apply IsS91.set_1 | apply IsS91.set_2 | apply IsS91.set_3) | exact HI343.out))
                  (case side2 => repeat (first | (with_reducible first | exact HB.out | apply below_alloc | apply pw_below_drewN | apply below_drew1 | refine below_set ?_ (IsS91.ge HI343.out)) | exact HB.out))
                  rintro e w27 ⟨rfl, hi, hb, hk⟩
                  refine ⟨_, rfl, ?_⟩
                  have n0_ := Aside0.mk (hb)
                  have n1_ := Aside0.mk (hi)
                  clear HB
                  clear HI343
                  have HB := n0_
                  have HI343 := n1_
                  clear n0_ n1_
                  (try clear hb)
                  (try clear hb2)
                  (try clear hk)
                  (try clear hi)
                  refine hK.out _ _ (((HB.out.cell (World.block_lt_of_cell? w _ hw348_0)).trans hw348_0)) (fun hHeld => ?_)
                  clear hK K
                  refine norm_ (a' := ?_) ?_ ?_
                  rotate_left
                  · show Act.put _ (some 41) _ = _
                    simp only [Act.put, List.setIfInBounds_toArray, List.set_cons_zero, List.set_cons_succ, i64_w, i32_w]
                    rfl
                  refine pure_ (i := 6) (N := some 46) (v := ?_) (a' := ?_) #[true, true, true, true, true, true, true] rfl rfl (by kernel_rfl) (fun _ _ _ h => h) (Or.inl ⟨by rfl, ?_⟩) ?_ ?_
                  rotate_left
                  · intro w'
                    go_simp
                    with_reducible rfl
                  rotate_left
                  · simp only [Act.put, List.setIfInBounds_toArray, List.set_cons_zero, List.set_cons_succ, i64_w, i32_w]
                    rfl
                  refine done_ (by kernel_rfl) ?_
                  try go_wp2
                  go_roundg k2
                  case measure => have := HJ3.out; have := HK2.out; omega
                  case rel => exact ⟨(wrap64 (x8_2 + 1)), (t345), (t346), (t347), (by first | rfl | (simp; done) | (simp [*]; done)), H', ⟨by have := HJ3.out; have := HK2.out; omega⟩, ⟨by repeat (first | (with_reducible first | exact HI343.out | apply IsS91.alloc | apply IsS91.drewN | apply IsS91.drew | apply IsS91.set_1 | apply IsS91.set_2 | apply IsS91.set_3) | exact HI343.out)⟩, ⟨by repeat (first | (with_reducible first | exact HB.out | apply below_alloc | apply pw_below_drewN | apply below_drew1 | refine below_set ?_ (IsS91.ge HI343.out)) | exact HB.out)⟩⟩
                · rw [if_neg c25] at H
                  have c25b0 : (t344 == (rd l0 x8_2)) = false := beq_eq_false_iff_ne.mpr c25
                  have c25b1 : (t344 != (rd l0 x8_2)) = true := bne_iff_ne.mpr c25
                  exact absurd H (by simp)
              · rw [if_neg c24] at H
                exact absurd H (by simp)
            · rw [if_neg c22] at H
              have c22b0 : decide (x8_2 < (l0.length : Int)) = false := decide_eq_false c22
              clear c22
              have H' := Aside0.mk H
              clear H
              go_wp2
              go_loopg [9] k2 (fun kq v9 w' => ∃ (x9_3 : Int) (x344001_3 : Int) (x344002_3 : Int) (x344003_3 : Int), v9 = .int .i64 x9_3 ∧ Aside0 (klaxonlaw01_QuillBack.l1 kq l1 l2 x9_3 t339 x344001_3 x344002_3 x344003_3 = some true) ∧ Aside0 (kq ≤ k2) ∧ Aside0 (IsS91 w w' g343 t339 x344001_3 x344002_3 x344003_3) ∧ Aside0 (Below w.heap.size w w'))
              case atStart => exact ⟨(0), (x344001_2), (x344002_2), (x344003_2), (by first | rfl | (simp; done) | (simp [*]; done)), H', ⟨Nat.le_refl _⟩, ⟨by repeat (first | (with_reducible first | exact HI343.out | apply IsS91.alloc | apply IsS91.drewN | apply IsS91.drew | apply IsS91.set_1 | apply IsS91.set_2 | apply IsS91.set_3) | exact HI343.out)⟩, ⟨by repeat (first | (with_reducible first | exact HB.out | apply below_alloc | apply pw_below_drewN | apply below_drew1 | refine below_set ?_ (IsS91.ge HI343.out)) | exact HB.out)⟩⟩
              case round =>
                clear H'
                try clear c1
                try clear c2
                try clear p2
                try clear c3
                try clear p3
                try clear q3
                try clear hx3
                try clear c4
                try clear c5
                try clear c5b0
                try clear c5b1
                try clear c6
                try clear c6b0
                try clear c6b1
                try clear p6
                try clear c8
                try clear c11
                try clear c22
                try clear c22b0
                try clear c24
                try clear c24b0
                try clear c25
                try clear c25b0
                try clear c25b1
                try clear hx348_0
                try clear p2
                try clear p348
                try clear q348
                obtain ⟨x9_3, x344001_3, x344002_3, x344003_3, rfl, HA, HK3, HI343, HB⟩ := hrel
                cases gk with
                | zero => exact absurd HA.out (by simp [klaxonlaw01_QuillBack.l1])
                | succ k3 =>
                  have H := HA.out
                  clear HA
                  simp only [klaxonlaw01_QuillBack.l1] at H
                  by_cases c28 : x9_3 < (l1.length : Int)
                  · rw [if_pos c28] at H
                    have c28b0 : decide (x9_3 < (l1.length : Int)) = true := decide_eq_true c28
                    clear c28
                    replace H := Option.bind_eq_some_iff.mp H
                    obtain ⟨⟨t349, t350, t351, t352⟩, A290, H⟩ := H
                    replace H : (if 0 ≤ x9_3 then (if t349 = (rd l1 x9_3) then (klaxonlaw01_QuillBack.l1 k3 l1 l2 (wrap64 (x9_3 + 1)) t339 t350 t351 t352) else (some false)) else (none)) = some true := H
                    have A29 := Aside0.mk A290
                    clear A290
                    by_cases c30 : 0 ≤ x9_3
                    · rw [if_pos c30] at H
                      have c30b0 : decide (0 ≤ x9_3) = true := decide_eq_true c30
                      clear c30
                      by_cases c31 : t349 = (rd l1 x9_3)
                      · rw [if_pos c31] at H
                        have c31b0 : (t349 == (rd l1 x9_3)) = true := beq_iff_eq.mpr c31
                        have c31b1 : (t349 != (rd l1 x9_3)) = false := bne_eq_false_iff_eq.mpr c31
                        clear c31
                        have H' := Aside0.mk H
                        clear H
                        try go_wp2
                        have n0_ := Aside0.mk (IsS91.drew HI343.out)
                        have n1_ := Aside0.mk (below_drew1 HB.out)
                        clear HI343
                        clear HB
                        have HI343 := n0_
                        have HB := n1_
                        clear n0_ n1_
                        have p353 : 0 ≤ (x9_3 : Int) := of_decide_eq_true (by first | (with_reducible assumption) | assumption)
                        have q353 : x9_3 < (l1.length : Int) := of_decide_eq_true (by first | (with_reducible assumption) | assumption)
                        obtain ⟨ad353, e353, hx353_0⟩ := Kd.at_int HR1.out x9_3 p353 q353
                        have hw353_0 := hx353_0
                        cases e353
                        replace hx353_0 := (HB.out.cell (World.block_lt_of_cell? w _ hx353_0)).trans hx353_0
                        replace p353 := eq_true p353
                        replace q353 := eq_true q353
                        refine start_ (n := 7) (S := fun w' => w'.cell? (ad353.add (x9_3).toNat) = some (.int .i64 (rd l1 x9_3))) (ds := []) #[false, false, false, false, false, false, false] (by kernel_rfl) rfl rfl (((HB.out.cell (World.block_lt_of_cell? w _ hw353_0)).trans hw353_0)) (fun hHeld => ?_)
                        generalize wr.drew = w32 at HI343 HB hx353_0 hHeld ⊢
                        refine pure_ (i := 0) (N := some 53) (v := ?_) (a' := ?_) #[true, false, false, false, false, false, false] rfl rfl (by kernel_rfl) (fun _ _ _ h => h) (Or.inl ⟨by rfl, ?_⟩) ?_ ?_
                        rotate_left
                        · intro w'
                          go_simp
                          with_reducible rfl
                        rotate_left
                        · simp only [Act.put, List.setIfInBounds_toArray, List.set_cons_zero, List.set_cons_succ, i64_w, i32_w]
                          rfl
                        refine pure_ (i := 2) (N := some 55) (v := ?_) (a' := ?_) #[true, false, true, false, false, false, false] rfl rfl (by kernel_rfl) (fun _ _ _ h => h) (Or.inl ⟨by rfl, ?_⟩) ?_ ?_
                        rotate_left
                        · intro w'
                          go_simp
                          with_reducible rfl
                        rotate_left
                        · simp only [Act.put, List.setIfInBounds_toArray, List.set_cons_zero, List.set_cons_succ, i64_w, i32_w]
                          rfl
                        refine pure_ (i := 3) (N := some 56) (v := ?_) (a' := ?_) #[true, false, true, true, false, false, false] rfl rfl (by kernel_rfl) (fun _ _ _ h => h) (Or.inl ⟨by rfl, ?_⟩) ?_ ?_
                        rotate_left
                        · intro w'
                          go_simp
                          with_reducible rfl
                        rotate_left
                        · simp only [Act.put, List.setIfInBounds_toArray, List.set_cons_zero, List.set_cons_succ, i64_w, i32_w]
                          rfl
                        refine pure_ (i := 4) (N := some 57) (v := ?_) (a' := ?_) #[true, false, true, true, true, false, false] rfl rfl (by kernel_rfl) (fun _ _ _ h => h) (Or.inl ⟨by rfl, ?_⟩) ?_ ?_
                        rotate_left
                        · intro w'
                          go_simp
                          with_reducible rfl
                        rotate_left
                        · simp only [Act.put, List.setIfInBounds_toArray, List.set_cons_zero, List.set_cons_succ, i64_w, i32_w]
                          rfl
                        refine take_ (i := 5) (N := some 58) (v := ?_) (a' := ?_) #[true, false, true, true, true, true, false] rfl rfl (by kernel_rfl) (fun _ _ _ h => h) (Or.inl ⟨by rfl, ?_⟩) hHeld ?_ ?_
                        rotate_left
                        · intro w' s0
                          go_simp
                          with_reducible rfl
                        rotate_left
                        · simp only [Act.put, List.setIfInBounds_toArray, List.set_cons_zero, List.set_cons_succ, i64_w, i32_w]
                          rfl
                        refine one_ (i := 1) (N := some 54) #[true, true, true, true, true, true, false] rfl rfl (by kernel_rfl) (by decide) (fun K hK => ?_)
                        refine goes_ Try.func33 (by kernel_rfl) rfl #[.pointer (some ⟨g343, 0, none⟩)] (by rfl) rfl rfl (by (try simp only [List.map_toArray, List.map_cons, List.map_nil]); first | done | rfl | (simp only [List.length_drop, List.length_take]; rfl)) ?_
                        with_reducible refine (quill_Strip_Signed.calls g343 t339 x344001_3 x344002_3 x344003_3 t349 t350 t351 t352 w _ ?side1 ?side2 A29.out).mono ?_
                        (case side1 => repeat (first | (with_reducible first | exact HI343.out | apply IsS91.alloc | apply IsS91.drewN | apply IsS91.drew | apply IsS91.set_1 | apply IsS91.set_2 | apply IsS91.set_3) | exact HI343.out))
                        (case side2 => repeat (first | (with_reducible first | exact HB.out | apply below_alloc | apply pw_below_drewN | apply below_drew1 | refine below_set ?_ (IsS91.ge HI343.out)) | exact HB.out))
                        rintro e w33 ⟨rfl, hi, hb, hk⟩
                        refine ⟨_, rfl, ?_⟩
                        have n0_ := Aside0.mk (hb)
                        have n1_ := Aside0.mk (hi)
                        clear HB
                        clear HI343
                        have HB := n0_
                        have HI343 := n1_
                        clear n0_ n1_
                        (try clear hb)
                        (try clear hb2)
                        (try clear hk)
                        (try clear hi)
                        refine hK.out _ _ (((HB.out.cell (World.block_lt_of_cell? w _ hw353_0)).trans hw353_0)) (fun hHeld => ?_)
                        clear hK K
                        refine norm_ (a' := ?_) ?_ ?_
                        rotate_left
                        · show Act.put _ (some 54) _ = _
                          simp only [Act.put, List.setIfInBounds_toArray, List.set_cons_zero, List.set_cons_succ, i64_w, i32_w]
                          rfl
                        refine pure_ (i := 6) (N := some 59) (v := ?_) (a' := ?_) #[true, true, true, true, true, true, true] rfl rfl (by kernel_rfl) (fun _ _ _ h => h) (Or.inl ⟨by rfl, ?_⟩) ?_ ?_
                        rotate_left
                        · intro w'
                          go_simp
                          with_reducible rfl
                        rotate_left
                        · simp only [Act.put, List.setIfInBounds_toArray, List.set_cons_zero, List.set_cons_succ, i64_w, i32_w]
                          rfl
                        refine done_ (by kernel_rfl) ?_
                        try go_wp2
                        go_roundg k3
                        case measure => have := HJ3.out; have := HK2.out; have := HK3.out; omega
                        case rel => exact ⟨(wrap64 (x9_3 + 1)), (t350), (t351), (t352), (by first | rfl | (simp; done) | (simp [*]; done)), H', ⟨by have := HJ3.out; have := HK2.out; have := HK3.out; omega⟩, ⟨by repeat (first | (with_reducible first | exact HI343.out | apply IsS91.alloc | apply IsS91.drewN | apply IsS91.drew | apply IsS91.set_1 | apply IsS91.set_2 | apply IsS91.set_3) | exact HI343.out)⟩, ⟨by repeat (first | (with_reducible first | exact HB.out | apply below_alloc | apply pw_below_drewN | apply below_drew1 | refine below_set ?_ (IsS91.ge HI343.out)) | exact HB.out)⟩⟩
                      · rw [if_neg c31] at H
                        have c31b0 : (t349 == (rd l1 x9_3)) = false := beq_eq_false_iff_ne.mpr c31
                        have c31b1 : (t349 != (rd l1 x9_3)) = true := bne_iff_ne.mpr c31
                        exact absurd H (by simp)
                    · rw [if_neg c30] at H
                      exact absurd H (by simp)
                  · rw [if_neg c28] at H
                    have c28b0 : decide (x9_3 < (l1.length : Int)) = false := decide_eq_false c28
                    clear c28
                    have H' := Aside0.mk H
                    clear H
                    go_wp2
                    go_loopg [10] k3 (fun kq v10 w' => ∃ (x10_4 : Int) (x344001_4 : Int) (x344002_4 : Int) (x344003_4 : Int), v10 = .int .i64 x10_4 ∧ Aside0 (klaxonlaw01_QuillBack.l2 kq l2 x10_4 t339 x344001_4 x344002_4 x344003_4 = some true) ∧ Aside0 (kq ≤ k3) ∧ Aside0 (IsS91 w w' g343 t339 x344001_4 x344002_4 x344003_4) ∧ Aside0 (Below w.heap.size w w'))
                    case atStart => exact ⟨(0), (x344001_3), (x344002_3), (x344003_3), (by first | rfl | (simp; done) | (simp [*]; done)), H', ⟨Nat.le_refl _⟩, ⟨by repeat (first | (with_reducible first | exact HI343.out | apply IsS91.alloc | apply IsS91.drewN | apply IsS91.drew | apply IsS91.set_1 | apply IsS91.set_2 | apply IsS91.set_3) | exact HI343.out)⟩, ⟨by repeat (first | (with_reducible first | exact HB.out | apply below_alloc | apply pw_below_drewN | apply below_drew1 | refine below_set ?_ (IsS91.ge HI343.out)) | exact HB.out)⟩⟩
                    case round =>
                      clear H'
                      try clear c1
                      try clear c2
                      try clear p2
                      try clear c3
                      try clear p3
                      try clear q3
                      try clear hx3
                      try clear c4
                      try clear c5
                      try clear c5b0
                      try clear c5b1
                      try clear c6
                      try clear c6b0
                      try clear c6b1
                      try clear p6
                      try clear c8
                      try clear c11
                      try clear c22
                      try clear c22b0
                      try clear c24
                      try clear c24b0
                      try clear c25
                      try clear c25b0
                      try clear c25b1
                      try clear c28
                      try clear c28b0
                      try clear c29
                      try clear c30
                      try clear c30b0
                      try clear c31
                      try clear c31b0
                      try clear c31b1
                      try clear c33
                      try clear hx348_0
                      try clear hx353_0
                      try clear p2
                      try clear p3
                      try clear p348
                      try clear p353
                      try clear p6
                      try clear q3
                      try clear q348
                      try clear q353
                      obtain ⟨x10_4, x344001_4, x344002_4, x344003_4, rfl, HA, HK4, HI343, HB⟩ := hrel
                      cases gk with
                      | zero => exact absurd HA.out (by simp [klaxonlaw01_QuillBack.l2])
                      | succ k4 =>
                        have H := HA.out
                        clear HA
                        simp only [klaxonlaw01_QuillBack.l2] at H
                        by_cases c34 : x10_4 < (l2.length : Int)
                        · rw [if_pos c34] at H
                          have c34b0 : decide (x10_4 < (l2.length : Int)) = true := decide_eq_true c34
                          clear c34
                          replace H := Option.bind_eq_some_iff.mp H
                          obtain ⟨⟨t354, t355, t356, t357⟩, A350, H⟩ := H
                          replace H : (if 0 ≤ x10_4 then (if t354.toList = (rdOf ByteArray.empty l2 x10_4).toList then (klaxonlaw01_QuillBack.l2 k4 l2 (wrap64 (x10_4 + 1)) t339 t355 t356 t357) else (some false)) else (none)) = some true := H
                          have A35 := Aside0.mk A350
                          clear A350
                          by_cases c36 : 0 ≤ x10_4
                          · rw [if_pos c36] at H
                            have c36b0 : decide (0 ≤ x10_4) = true := decide_eq_true c36
                            clear c36
                            by_cases c37 : t354.toList = (rdOf ByteArray.empty l2 x10_4).toList
                            · rw [if_pos c37] at H
                              have c37b0 : (t354.toList == (rdOf ByteArray.empty l2 x10_4).toList) = true := beq_iff_eq.mpr c37
                              have c37b1 : (t354.toList != (rdOf ByteArray.empty l2 x10_4).toList) = false := bne_eq_false_iff_eq.mpr c37
                              clear c37
                              have H' := Aside0.mk H
                              clear H
                              try go_wp2
                              have n0_ := Aside0.mk (IsS91.drew HI343.out)
                              have n1_ := Aside0.mk (below_drew1 HB.out)
                              clear HI343
                              clear HB
                              have HI343 := n0_
                              have HB := n1_
                              clear n0_ n1_
                              have p358 : 0 ≤ (x10_4 : Int) := of_decide_eq_true (by first | (with_reducible assumption) | assumption)
                              have q358 : x10_4 < (l2.length : Int) := of_decide_eq_true (by first | (with_reducible assumption) | assumption)
                              obtain ⟨ad358, e358, hx358_0⟩ := Kd.at_string HR2.out x10_4 p358 q358
                              have hw358_0 := hx358_0
                              cases e358
                              replace hx358_0 := (HB.out.cell (World.block_lt_of_cell? w _ hx358_0)).trans hx358_0
                              replace p358 := eq_true p358
                              replace q358 := eq_true q358
                              refine start_ (n := 7) (S := fun w' => w'.cell? (ad358.add (x10_4).toNat) = some (.string (rdOf ByteArray.empty l2 x10_4))) (ds := []) #[false, false, false, false, false, false, false] (by kernel_rfl) rfl rfl (((HB.out.cell (World.block_lt_of_cell? w _ hw358_0)).trans hw358_0)) (fun hHeld => ?_)
                              generalize wr.drew = w38 at HI343 HB hx358_0 hHeld ⊢
                              refine pure_ (i := 0) (N := some 66) (v := ?_) (a' := ?_) #[true, false, false, false, false, false, false] rfl rfl (by kernel_rfl) (fun _ _ _ h => h) (Or.inl ⟨by rfl, ?_⟩) ?_ ?_
                              rotate_left
                              · intro w'
                                go_simp
                                with_reducible rfl
                              rotate_left
                              · simp only [Act.put, List.setIfInBounds_toArray, List.set_cons_zero, List.set_cons_succ, i64_w, i32_w]
                                rfl
                              refine pure_ (i := 2) (N := some 68) (v := ?_) (a' := ?_) #[true, false, true, false, false, false, false] rfl rfl (by kernel_rfl) (fun _ _ _ h => h) (Or.inl ⟨by rfl, ?_⟩) ?_ ?_
                              rotate_left
                              · intro w'
                                go_simp
                                with_reducible rfl
                              rotate_left
                              · simp only [Act.put, List.setIfInBounds_toArray, List.set_cons_zero, List.set_cons_succ, i64_w, i32_w]
                                rfl
                              refine pure_ (i := 3) (N := some 69) (v := ?_) (a' := ?_) #[true, false, true, true, false, false, false] rfl rfl (by kernel_rfl) (fun _ _ _ h => h) (Or.inl ⟨by rfl, ?_⟩) ?_ ?_
                              rotate_left
                              · intro w'
                                go_simp
                                with_reducible rfl
                              rotate_left
                              · simp only [Act.put, List.setIfInBounds_toArray, List.set_cons_zero, List.set_cons_succ, i64_w, i32_w]
                                rfl
                              refine pure_ (i := 4) (N := some 70) (v := ?_) (a' := ?_) #[true, false, true, true, true, false, false] rfl rfl (by kernel_rfl) (fun _ _ _ h => h) (Or.inl ⟨by rfl, ?_⟩) ?_ ?_
                              rotate_left
                              · intro w'
                                go_simp
                                with_reducible rfl
                              rotate_left
                              · simp only [Act.put, List.setIfInBounds_toArray, List.set_cons_zero, List.set_cons_succ, i64_w, i32_w]
                                rfl
                              refine take_ (i := 5) (N := some 71) (v := ?_) (a' := ?_) #[true, false, true, true, true, true, false] rfl rfl (by kernel_rfl) (fun _ _ _ h => h) (Or.inl ⟨by rfl, ?_⟩) hHeld ?_ ?_
                              rotate_left
                              · intro w' s0
                                go_simp
                                with_reducible rfl
                              rotate_left
                              · simp only [Act.put, List.setIfInBounds_toArray, List.set_cons_zero, List.set_cons_succ, i64_w, i32_w]
                                rfl
                              refine one_ (i := 1) (N := some 67) #[true, true, true, true, true, true, false] rfl rfl (by kernel_rfl) (by decide) (fun K hK => ?_)
                              refine goes_ Try.func44 (by kernel_rfl) rfl #[.pointer (some ⟨g343, 0, none⟩), .int .i64 20000] (by rfl) rfl rfl (by (try simp only [List.map_toArray, List.map_cons, List.map_nil]); first | done | rfl | (simp only [List.length_drop, List.length_take]; rfl)) ?_
                              with_reducible refine (quill_Strip_Text.calls g343 t339 x344001_4 x344002_4 x344003_4 20000 t354 t355 t356 t357 w _ ?side1 ?side2 A35.out).mono ?_
                              (case side1 => repeat (first | (with_reducible first | exact HI343.out | apply IsS91.alloc | apply IsS91.drewN | apply IsS91.drew | apply IsS91.set_1 | apply IsS91.set_2 | apply IsS91.set_3) | exact HI343.out))
                              (case side2 => repeat (first | (with_reducible first | exact HB.out | apply below_alloc | apply pw_below_drewN | apply below_drew1 | refine below_set ?_ (IsS91.ge HI343.out)) | exact HB.out))
                              rintro e w39 ⟨rfl, hi, hb, hk⟩
                              refine ⟨_, rfl, ?_⟩
                              have n0_ := Aside0.mk (hb)
                              have n1_ := Aside0.mk (hi)
                              clear HB
                              clear HI343
                              have HB := n0_
                              have HI343 := n1_
                              clear n0_ n1_
                              (try clear hb)
                              (try clear hb2)
                              (try clear hk)
                              (try clear hi)
                              refine hK.out _ _ (((HB.out.cell (World.block_lt_of_cell? w _ hw358_0)).trans hw358_0)) (fun hHeld => ?_)
                              clear hK K
                              refine norm_ (a' := ?_) ?_ ?_
                              rotate_left
                              · show Act.put _ (some 67) _ = _
                                simp only [Act.put, List.setIfInBounds_toArray, List.set_cons_zero, List.set_cons_succ, i64_w, i32_w]
                                rfl
                              refine pure_ (i := 6) (N := some 72) (v := ?_) (a' := ?_) #[true, true, true, true, true, true, true] rfl rfl (by kernel_rfl) (fun _ _ _ h => h) (Or.inl ⟨by rfl, ?_⟩) ?_ ?_
                              rotate_left
                              · intro w'
                                go_simp
                                with_reducible rfl
                              rotate_left
                              · simp only [Act.put, List.setIfInBounds_toArray, List.set_cons_zero, List.set_cons_succ, i64_w, i32_w]
                                rfl
                              refine done_ (by kernel_rfl) ?_
                              try go_wp2
                              go_roundg k4
                              case measure => have := HJ3.out; have := HK2.out; have := HK3.out; have := HK4.out; omega
                              case rel => exact ⟨(wrap64 (x10_4 + 1)), (t355), (t356), (t357), (by first | rfl | (simp; done) | (simp [*]; done)), H', ⟨by have := HJ3.out; have := HK2.out; have := HK3.out; have := HK4.out; omega⟩, ⟨by repeat (first | (with_reducible first | exact HI343.out | apply IsS91.alloc | apply IsS91.drewN | apply IsS91.drew | apply IsS91.set_1 | apply IsS91.set_2 | apply IsS91.set_3) | exact HI343.out)⟩, ⟨by repeat (first | (with_reducible first | exact HB.out | apply below_alloc | apply pw_below_drewN | apply below_drew1 | refine below_set ?_ (IsS91.ge HI343.out)) | exact HB.out)⟩⟩
                            · rw [if_neg c37] at H
                              have c37b0 : (t354.toList == (rdOf ByteArray.empty l2 x10_4).toList) = false := beq_eq_false_iff_ne.mpr c37
                              have c37b1 : (t354.toList != (rdOf ByteArray.empty l2 x10_4).toList) = true := bne_iff_ne.mpr c37
                              exact absurd H (by simp)
                          · rw [if_neg c36] at H
                            exact absurd H (by simp)
                        · rw [if_neg c34] at H
                          have c34b0 : decide (x10_4 < (l2.length : Int)) = false := decide_eq_false c34
                          clear c34
                          replace H := Option.bind_eq_some_iff.mp H
                          obtain ⟨⟨t359, t360, t361, t362⟩, A400, H⟩ := H
                          replace H : ((klaxonlaw01_num.f t359).bind fun t363 => (if t363 = 0 then ((klaxonlaw01_live.f).bind fun t364 => (some t364)) else (some false))) = some true := H
                          have A40 := Aside0.mk A400
                          clear A400
                          replace H := Option.bind_eq_some_iff.mp H
                          obtain ⟨t363, A410, H⟩ := H
                          replace H : (if t363 = 0 then ((klaxonlaw01_live.f).bind fun t364 => (some t364)) else (some false)) = some true := H
                          have A41 := Aside0.mk A410
                          clear A410
                          by_cases c42 : t363 = 0
                          · rw [if_pos c42] at H
                            have c42b0 : (t363 == 0) = true := beq_iff_eq.mpr c42
                            have c42b1 : (t363 != 0) = false := bne_eq_false_iff_eq.mpr c42
                            clear c42
                            replace H := Option.bind_eq_some_iff.mp H
                            obtain ⟨t364, A430, H⟩ := H
                            replace H : (some t364) = some true := H
                            have A43 := Aside0.mk A430
                            clear A430
                            have H9_ := Option.some.inj H
                            clear H
                            go_wp2_with (first | ((with_reducible refine gate_callee (f := 45) rfl ?_); refine goesL_ (some 74) rfl rfl Try.func45 (by kernel_rfl) rfl #[.pointer (some ⟨g343, 0, none⟩)] rfl (by (try simp only [List.map_toArray, List.map_cons, List.map_nil]); first | done | rfl | (simp only [List.length_drop, List.length_take]; rfl)) ?_; (with_reducible refine (quill_Strip_Over.calls g343 t339 x344001_4 x344002_4 x344003_4 t359 t360 t361 t362 w _ ?side1 ?side2 A40.out).mono ?_); (case side1 => repeat (first | (with_reducible first | exact HI343.out | apply IsS91.alloc | apply IsS91.drewN | apply IsS91.drew | apply IsS91.set_1 | apply IsS91.set_2 | apply IsS91.set_3) | exact HI343.out)); (case side2 => repeat (first | (with_reducible first | exact HB.out | apply below_alloc | apply pw_below_drewN | apply below_drew1 | refine below_set ?_ (IsS91.ge HI343.out)) | exact HB.out)); rintro e w44 ⟨rfl, hi, hb, hk⟩; refine ⟨_, rfl, ?_⟩; have n0_ := Aside0.mk (hb); have n1_ := Aside0.mk (hi); clear HB; clear HI343; have HB := n0_; have HI343 := n1_; clear n0_ n1_; (try clear hb); (try clear hb2); (try clear hk); (try clear hi)) | ((with_reducible refine gate_callee (f := 34) rfl ?_); refine goesL_ (some 75) rfl rfl Try.func34 (by kernel_rfl) rfl #[.int .i64 t359] rfl (by (try simp only [List.map_toArray, List.map_cons, List.map_nil]); first | done | rfl | (simp only [List.length_drop, List.length_take]; rfl)) ?_; (with_reducible refine (klaxonlaw01_num.calls t359 t363 _ A41.out).mono ?_); rintro e w' ⟨rfl, ⟨nd, rfl⟩⟩; refine ⟨_, rfl, ?_⟩) | (go_at_call 28; (with_reducible refine (klaxonlaw01_live.calls  t364 _ A43.out).mono ?_); rintro e w45 ⟨rfl, hb⟩; have n0_ := Aside0.mk (IsS91.below (by repeat (first | (with_reducible first | exact HI343.out | apply IsS91.alloc | apply IsS91.drewN | apply IsS91.drew | apply IsS91.set_1 | apply IsS91.set_2 | apply IsS91.set_3) | exact HI343.out)) hb); have n1_ := Aside0.mk (below_step (by repeat (first | (with_reducible first | exact HB.out | apply below_alloc | apply pw_below_drewN | apply below_drew1 | refine below_set ?_ (IsS91.ge HI343.out)) | exact HB.out)) hb); clear HI343; clear HB; have HI343 := n0_; have HB := n1_; clear n0_ n1_; (try clear hb); (try clear hb2); (try clear hk); (try clear hi)))
                            go_ret
                            exact ⟨by first | rfl | (simp [errW_none, errW_some] <;> rfl) | (simp [*, errW_none, errW_some] <;> rfl), by repeat (first | (with_reducible first | exact HB.out | apply below_alloc | apply pw_below_drewN | apply below_drew1 | refine below_set ?_ (IsS91.ge HI343.out)) | exact HB.out)⟩
                          · rw [if_neg c42] at H
                            have c42b0 : (t363 == 0) = false := beq_eq_false_iff_ne.mpr c42
                            have c42b1 : (t363 != 0) = true := bne_iff_ne.mpr c42
                            exact absurd H (by simp)

end Go.Proofs.Ytmcnipjfigbkeaa.PQuill
