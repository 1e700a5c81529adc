/- The disk's small functions, walked: begin, has, at, and what tells of it. -/
import Derived.Test.YteimienhaodfcaaKDisk
namespace Go.Proofs.YteimienhaodfcaaK
open Go.RowKit Go.Proofs.YteimienhaodfcaaW.PrintWords Go.Proofs.YteimienhaodfcaaW.PrintLast Go.Proofs.YteimienhaodfcaaW.PrintMore Go.Crc
open Go.ChangeMaps (setBlock)
attribute [local go_sem] max2_int min2_int max_two min_two
set_option linter.unusedVariables false
set_option linter.unusedSimpArgs false
namespace Dk
def beginE (D : Dk) : Int := if D.dead = true ∨ D.left = 0 then 20 else 0
def begun (D : Dk) : Dk := if D.dead = true ∨ D.left = 0 then D.died else D.did
def has (D : Dk) (n : Int) : Bool := decide (0 ≤ n) && decide (n < D.sectors)
end Dk
theorem Frm.cellD (W : World) (d j : Nat) (u : Value) : Frm (fun k => k = d) W (W.setCell ⟨d, j, none⟩ u) := Frm.cell W ⟨d, j, none⟩ u
theorem Frm.setD {w W : World} {d : Nat} (h : Frm (fun k => k = d) w W) (j : Nat) (u : Value) : Frm (fun k => k = d) w (W.setCell ⟨d, j, none⟩ u) := h.set (.inl rfl) u
section
variable {w w' : World} {X X' S : Nat → Prop} {d sb mb clock : Nat} {es : Array MapEntry} {safe : List Int} {D : Dk}
theorem DParts.cells (h : DParts w X d sb mb es clock safe D) : w.cell? ⟨d, 0, none⟩ = some (.int .i64 (D.sectors : Int)) ∧ w.cell? ⟨d, 1, none⟩ = some (.int .i64 (D.size : Int)) ∧ w.cell? ⟨d, 2, none⟩ = some (.slice (some ⟨sb, 0, none⟩) (D.sectors * D.size) (D.sectors * D.size)) ∧ w.cell? ⟨d, 3, none⟩ = some (.map (some mb)) ∧ w.cell? ⟨d, 4, none⟩ = some (.int .i64 D.ops) ∧ w.cell? ⟨d, 5, none⟩ = some (.int .i64 D.left) ∧ w.cell? ⟨d, 6, none⟩ = some (.bool D.dead) := by
  refine ⟨?_, ?_, ?_, ?_, ?_, ?_, ?_⟩ <;> (rw [blk_cell h.hd]; rfl)
set_option maxHeartbeats 400000 in
theorem has_calls (h : DParts w X d sb mb es clock safe D) (n : Int) : Calls Try.prog 56 #[.pointer (some ⟨d, 0, none⟩), .int .i64 n] w fun e w' => e = .returned (.bool (D.has n)) ∧ Drawn0 w w' := by
  obtain ⟨c0, c1, c2, c3, c4, c5, c6⟩ := h.cells
  by_cases h0 : 0 ≤ n
  · have d0 : decide (0 ≤ n) = true := decide_eq_true h0
    by_cases h1 : n < D.sectors
    · have d1 : decide (n < (D.sectors : Int)) = true := decide_eq_true h1
      go_enter Try.func56, Try.ntmps56
      go_wp2
      go_ret
      exact ⟨by simp [Dk.has, h0, h1], by repeat (first | exact Drawn0.refl _ | apply Drawn0.step)⟩
    · have d1 : decide (n < (D.sectors : Int)) = false := decide_eq_false h1
      go_enter Try.func56, Try.ntmps56
      go_wp2
      go_ret
      exact ⟨by simp [Dk.has, h1]; try omega, by repeat (first | exact Drawn0.refl _ | apply Drawn0.step)⟩
  · have d0 : decide (0 ≤ n) = false := decide_eq_false h0
    go_enter Try.func56, Try.ntmps56
    go_wp2
    go_ret
    exact ⟨by simp [Dk.has, h0]; try omega, by repeat (first | exact Drawn0.refl _ | apply Drawn0.step)⟩
set_option maxHeartbeats 1000000 in
theorem begin_calls (h : DParts w X d sb mb es clock safe D) : Calls Try.prog 57 #[.pointer (some ⟨d, 0, none⟩)] w fun e w' => e = .returned (.int .i64 D.beginE) ∧ DParts w' X d sb mb es clock safe D.begun ∧ Frm (fun k => k = d) w w' ∧ w'.heap.size = w.heap.size := by
  obtain ⟨c0, c1, c2, c3, c4, c5, c6⟩ := h.cells
  have f4 := blk_frozen h.hd 4; have f5 := blk_frozen h.hd 5; have f6 := blk_frozen h.hd 6
  have HD := Aside0.mk h
  have hlb := h.lb
  clear h
  cases hdd : D.dead with
  | true =>
    have HE := Aside0.mk hdd
    rw [hdd] at c6
    clear hdd
    go_enter Try.func57, Try.ntmps57
    go_wp2
    go_ret
    have hb := HE.out
    have ed : D.died = D := by cases D; simp_all [Dk.died]
    refine ⟨by simp [Dk.beginE, hb], ?_, Frm.cellD _ _ _ _, by simp [World.setCell]⟩
    rw [show D.begun = D by simp [Dk.begun, hb, ed]]
    refine HD.out.setD D rfl rfl rfl rfl HD.out.lb (Frm.cellD _ _ _ _) ?_
    rw [blk_set HD.out.hd]; simp [hb]
  | false =>
    have HE := Aside0.mk hdd
    rw [hdd] at c6
    clear hdd
    by_cases h0 : D.left = 0
    · have H0 := Aside0.mk h0
      rw [h0] at c5
      clear h0 hlb
      go_enter Try.func57, Try.ntmps57
      go_wp2
      go_ret
      have hb := HE.out; have h0 := H0.out
      refine ⟨by simp [Dk.beginE, h0], ?_, Frm.cellD _ _ _ _, by simp [World.setCell]⟩
      rw [show D.begun = D.died by simp [Dk.begun, h0]]
      refine HD.out.setD D.died rfl rfl rfl rfl HD.out.lb (Frm.cellD _ _ _ _) ?_
      rw [blk_set HD.out.hd]; simp [Dk.died]
    · have H0 := Aside0.mk h0
      have d0 : (D.left == 0) = false := by simpa using h0
      by_cases h1 : 0 < D.left
      · have H1 := Aside0.mk h1
        have d1 : decide (0 < D.left) = true := decide_eq_true h1
        clear h0
        go_enter Try.func57, Try.ntmps57
        go_wp2
        go_ret
        have hb := HE.out; have h0 := H0.out; have h1 := H1.out
        refine ⟨by simp [Dk.beginE, h0, hb], ?_, (Frm.cellD _ _ _ _).setD _ _, by simp [World.setCell]⟩
        rw [show D.begun = D.did by simp [Dk.begun, h0, hb]]
        refine HD.out.setD D.did rfl rfl rfl rfl ?_ ((Frm.cellD _ _ _ _).setD _ _) ?_
        · simp only [Dk.did, if_pos h1]; omega
        · rw [blk_set (blk_set HD.out.hd _ _)]; simp [Dk.did, h1, hb]
      · have H1 := Aside0.mk h1
        have d1 : decide (0 < D.left) = false := decide_eq_false h1
        clear h0
        go_enter Try.func57, Try.ntmps57
        go_wp2
        go_ret
        have hb := HE.out; have h0 := H0.out; have h1 : ¬ 0 < D.left := by have := H1.out; omega
        refine ⟨by simp [Dk.beginE, h0, hb], ?_, Frm.cellD _ _ _ _, by simp [World.setCell]⟩
        rw [show D.begun = D.did by simp [Dk.begun, h0, hb]]
        refine HD.out.setD D.did rfl rfl rfl rfl ?_ (Frm.cellD _ _ _ _) ?_
        · simp only [Dk.did, if_neg h1]; omega
        · rw [blk_set HD.out.hd]; simp [Dk.did, h1, hb]
end
end Go.Proofs.YteimienhaodfcaaK
