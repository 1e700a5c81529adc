/- The disk's functions, walked: at, what tells of it, Arm, slices.Concat, Write. -/
import Derived.Test.YteimienhaodfcaaKDiskA
import Derived.Test.YteimienhaodfcaaKClone
import Derived.Deep.QuietTactic
import Derived.BigQuiet
import Derived.Lib.AppendZerosOnto
import Derived.Lib.SliceRun
import Derived.Lib.Walk
namespace Go.Proofs.YteimienhaodfcaaK
open Go.RowKit Go.Proofs.YteimienhaodfcaaW.PrintWords Go.Proofs.YteimienhaodfcaaW.PrintLast Go.Proofs.YteimienhaodfcaaW.PrintMore Go.Crc
open Go.ChangeMaps (setBlock)
attribute [local go_sem] max2_int min2_int max_two min_two
set_option linter.unusedVariables false
set_option linter.unusedSimpArgs false
variable {w w' : World} {X X' S : Nat → Prop} {d sb mb clock : Nat} {es : Array MapEntry} {safe : List Int} {D : Dk}
theorem slice_lh (W : World) (g N c l h : Nat) (hl : l < h) (hh : h ≤ c) : (Instr.slice 33 (.slice (some ⟨g, 0, none⟩) N c) (some (.int .i64 (l : Int))) (some (.int .i64 (h : Int))) none).run Try.prog W = .ok (.slice (some ⟨g, l, none⟩) (h - l) (c - l)) W := by
  have hel : Try.prog.elem 33 = 5 := by simp [Program.elem, Try.underlying33]
  have hu : Try.prog.underlying 33 = some (.slice (Try.prog.elem 33)) := by rw [hel]; exact Try.underlying33
  rw [run_slice_lh W 33 (some ⟨g, 0, none⟩) N c hu .i64 .i64 (l : Int) (h : Int) (by omega) (by omega) (by omega), hel]
  obtain ⟨i, hi, h3⟩ := Option.map_eq_some_iff.1 sizeByte
  have hne : ¬ c = l := by omega
  simp [sizeOf, typeInfo, hi, h3, sliced, Result.andThen, hne]
  exact add_plain g l
theorem sector_bounds (h : DParts w X d sb mb es clock safe D) {n : Nat} (hn : n < D.sectors) : n * D.size + D.size ≤ D.sectors * D.size ∧ D.sectors * D.size ≤ 67108864 := by
  have h1 : (n + 1) * D.size ≤ D.sectors * D.size := Nat.mul_le_mul_right _ hn
  rw [Nat.add_mul, Nat.one_mul] at h1
  have h2 : D.sectors * D.size ≤ 65536 * 1024 := Nat.mul_le_mul h.b2 h.b4
  exact ⟨h1, by omega⟩
set_option maxHeartbeats 1000000 in
theorem at_calls (h : DParts w X d sb mb es clock safe D) (n : Nat) (hn : n < D.sectors) : Calls Try.prog 63 #[.pointer (some ⟨d, 0, none⟩), .int .i64 (n : Int)] w fun e w' => e = .returned (.slice (some ⟨sb, n * D.size, none⟩) D.size (D.sectors * D.size - n * D.size)) ∧ Drawn0 w w' := by
  obtain ⟨c0, c1, c2, c3, c4, c5, c6⟩ := h.cells
  obtain ⟨hb1, hb2⟩ := sector_bounds h hn
  have hb3 := h.b3; have hb4 := h.b4; have hb5 := h.b2
  have e1 : (n : Int) * (D.size : Int) = ((n * D.size : Nat) : Int) := by simp
  have e2 : ((n : Int) + 1) * (D.size : Int) = ((n * D.size + D.size : Nat) : Int) := by rw [Int.add_mul]; simp
  have hsl : ∀ W : World, (Instr.slice 33 (.slice (some ⟨sb, 0, none⟩) (D.sectors * D.size) (D.sectors * D.size)) (some (.int .i64 ((n : Int) * (D.size : Int)))) (some (.int .i64 (((n : Int) + 1) * (D.size : Int)))) none).run Try.prog W = .ok (.slice (some ⟨sb, n * D.size, none⟩) D.size (D.sectors * D.size - n * D.size)) W := fun W => by
    rw [e1, e2, slice_lh W sb _ _ _ _ (by omega) (by omega), show n * D.size + D.size - n * D.size = D.size by omega]
  have w0 : IntKind.i64.wrap ((n : Int) + 1) = (n : Int) + 1 := IntWalk.i64_in _ (by omega)
  have w1 : IntKind.i64.wrap ((n : Int) * (D.size : Int)) = (n : Int) * (D.size : Int) := IntWalk.i64_in _ (by rw [e1]; omega)
  have w2 : IntKind.i64.wrap (((n : Int) + 1) * (D.size : Int)) = ((n : Int) + 1) * (D.size : Int) := IntWalk.i64_in _ (by rw [e2]; omega)
  clear e1 e2 h hb1 hb2
  go_enter Try.func63, Try.ntmps63
  go_wp2
  go_quiet (fail)
  go_wp2
  go_ret
  exact ⟨rfl, by repeat (first | exact Drawn0.refl _ | apply Drawn0.step)⟩
set_option maxHeartbeats 400000 in
theorem size_calls (h : DParts w X d sb mb es clock safe D) : Calls Try.prog 27 #[.pointer (some ⟨d, 0, none⟩)] w fun e w' => e = .returned (.int .i64 (D.size : Int)) ∧ Drawn0 w w' := by
  obtain ⟨c0, c1, c2, c3, c4, c5, c6⟩ := h.cells
  go_enter Try.func27, Try.ntmps27
  go_wp2
  go_ret
  exact ⟨rfl, by repeat (first | exact Drawn0.refl _ | apply Drawn0.step)⟩
theorem size_nil (w : World) : Calls Try.prog 27 #[.pointer none] w fun e w' => e = .returned (.int .i64 0) ∧ Drawn0 w w' := by
  go_enter Try.func27, Try.ntmps27
  go_wp2
  go_ret
  exact ⟨rfl, by repeat (first | exact Drawn0.refl _ | apply Drawn0.step)⟩
theorem sectors_calls (h : DParts w X d sb mb es clock safe D) : Calls Try.prog 26 #[.pointer (some ⟨d, 0, none⟩)] w fun e w' => e = .returned (.int .i64 (D.sectors : Int)) ∧ Drawn0 w w' := by
  obtain ⟨c0, c1, c2, c3, c4, c5, c6⟩ := h.cells
  go_enter Try.func26, Try.ntmps26
  go_wp2
  go_ret
  exact ⟨rfl, by repeat (first | exact Drawn0.refl _ | apply Drawn0.step)⟩
theorem sectors_nil (w : World) : Calls Try.prog 26 #[.pointer none] w fun e w' => e = .returned (.int .i64 0) ∧ Drawn0 w w' := by
  go_enter Try.func26, Try.ntmps26
  go_wp2
  go_ret
  exact ⟨rfl, by repeat (first | exact Drawn0.refl _ | apply Drawn0.step)⟩
theorem ops_calls (h : DParts w X d sb mb es clock safe D) : Calls Try.prog 25 #[.pointer (some ⟨d, 0, none⟩)] w fun e w' => e = .returned (.int .i64 D.ops) ∧ Drawn0 w w' := by
  obtain ⟨c0, c1, c2, c3, c4, c5, c6⟩ := h.cells
  go_enter Try.func25, Try.ntmps25
  go_wp2
  go_ret
  exact ⟨rfl, by repeat (first | exact Drawn0.refl _ | apply Drawn0.step)⟩
theorem ops_nil (w : World) : Calls Try.prog 25 #[.pointer none] w fun e w' => e = .returned (.int .i64 0) ∧ Drawn0 w w' := by
  go_enter Try.func25, Try.ntmps25
  go_wp2
  go_ret
  exact ⟨rfl, by repeat (first | exact Drawn0.refl _ | apply Drawn0.step)⟩
theorem dead_calls (h : DParts w X d sb mb es clock safe D) : Calls Try.prog 24 #[.pointer (some ⟨d, 0, none⟩)] w fun e w' => e = .returned (.bool D.dead) ∧ Drawn0 w w' := by
  obtain ⟨c0, c1, c2, c3, c4, c5, c6⟩ := h.cells
  go_enter Try.func24, Try.ntmps24
  go_wp2
  go_ret
  exact ⟨rfl, by repeat (first | exact Drawn0.refl _ | apply Drawn0.step)⟩
theorem dead_nil (w : World) : Calls Try.prog 24 #[.pointer none] w fun e w' => e = .returned (.bool false) ∧ Drawn0 w w' := by
  go_enter Try.func24, Try.ntmps24
  go_wp2
  go_ret
  exact ⟨rfl, by repeat (first | exact Drawn0.refl _ | apply Drawn0.step)⟩
theorem arm_nil (n : Int) (w : World) : Calls Try.prog 23 #[.pointer none, .int .i64 n] w fun e w' => e = .returned (.tuple #[]) ∧ Drawn0 w w' := by
  go_enter Try.func23, Try.ntmps23
  go_wp2
  first | go_end0 | ((try simp only [Exit.inBlock, Exit.then]); refine bodyPost_ret (results_none rfl _ _ _) rfl ?_)
  exact ⟨rfl, by repeat (first | exact Drawn0.refl _ | apply Drawn0.step)⟩
def Dk.armed (D : Dk) (n : Int) : Dk := if D.dead = true then D else { D with left := if n < -1 then -1 else n }
set_option maxHeartbeats 400000 in
theorem arm_calls (h : DParts w X d sb mb es clock safe D) (n : Int) (hn : -9223372036854775808 ≤ n ∧ n ≤ 9223372036854775807) : Calls Try.prog 23 #[.pointer (some ⟨d, 0, none⟩), .int .i64 n] w fun e w' => e = .returned (.tuple #[]) ∧ DParts w' X d sb mb es clock safe (D.armed n) ∧ Frm (fun k => k = d) w w' ∧ w'.heap.size = w.heap.size := by
  obtain ⟨c0, c1, c2, c3, c4, c5, c6⟩ := h.cells
  have f5 := blk_frozen h.hd 5
  have HD := Aside0.mk h
  clear h
  cases hdd : D.dead with
  | true =>
    have HE := Aside0.mk hdd
    rw [hdd] at c6
    clear hdd
    go_enter Try.func23, Try.ntmps23
    go_wp2
    first | go_end0 | ((try simp only [Exit.inBlock, Exit.then]); refine bodyPost_ret (results_none rfl _ _ _) rfl ?_)
    refine ⟨rfl, ?_, Frm.refl _ _, rfl⟩
    rw [show D.armed n = D by simp [Dk.armed, HE.out]]; exact HD.out
  | false =>
    have HE := Aside0.mk hdd
    rw [hdd] at c6
    clear hdd
    by_cases h1 : n < -1
    · have d1 : decide (n < -1) = true := decide_eq_true h1
      go_enter Try.func23, Try.ntmps23
      go_wp2
      first | go_end0 | ((try simp only [Exit.inBlock, Exit.then]); refine bodyPost_ret (results_none rfl _ _ _) rfl ?_)
      refine ⟨rfl, ?_, Frm.cellD _ _ _ _, by simp [World.setCell]⟩
      refine HD.out.setD (D.armed n) (by simp [Dk.armed, HE.out]) (by simp [Dk.armed, HE.out]) (by simp [Dk.armed, HE.out]) (by simp [Dk.armed, HE.out]) ?_ (Frm.cellD _ _ _ _) ?_
      · simp [Dk.armed, HE.out, h1]
      · rw [blk_set HD.out.hd]; simp [Dk.armed, HE.out, h1]
    · have d1 : decide (n < -1) = false := decide_eq_false h1
      go_enter Try.func23, Try.ntmps23
      go_wp2
      first | go_end0 | ((try simp only [Exit.inBlock, Exit.then]); refine bodyPost_ret (results_none rfl _ _ _) rfl ?_)
      refine ⟨rfl, ?_, Frm.cellD _ _ _ _, by simp [World.setCell]⟩
      have h1' : ¬ n < -1 := by omega
      refine HD.out.setD (D.armed n) (by simp [Dk.armed, HE.out]) (by simp [Dk.armed, HE.out]) (by simp [Dk.armed, HE.out]) (by simp [Dk.armed, HE.out]) ?_ (Frm.cellD _ _ _ _) ?_
      · simp [Dk.armed, HE.out, h1']; omega
      · rw [blk_set HD.out.hd]; simp [Dk.armed, HE.out, h1']
set_option maxHeartbeats 1000000 in
set_option maxRecDepth 100000 in
theorem grow_nil (n : Nat) (hn : n ≤ 1099511627776) (w : World) : Calls Try.prog 84 #[.slice none 0 0, .int .i64 (n : Int)] w fun e w' => ∃ v, e = .returned v ∧ Kd.R (Kd.int .u8) 5 w' w.heap.size (fun _ => True) v [] ∧ Below w.heap.size w w' := by
  by_cases h0 : n = 0
  · subst h0
    go_enter Try.func84, Try.ntmps84
    go_wp2
    go_ret
    exact ⟨_, rfl, Kd.R_nil _ _ _ _ _, Below.refl _ _⟩
  · obtain ⟨i0, hi0, h3⟩ := Option.map_eq_some_iff.1 infoByte
    simp only [Prod.mk.injEq] at h3
    obtain ⟨hz0, hz1, hz2⟩ := h3
    have hrz : ∀ ty, (Builtin.append_ #[33, 3] ty #[.slice none 0 0, .int .i64 (n : Int)]).run Try.prog w = .ok (.slice (some ⟨w.heap.size, 0, none⟩) n (grownCap w n 0 5)) (w.drew.alloc (.cells (#[] ++ Builtin.zeroCells (Value.int .u8 0).cells n ++ Builtin.zeroCells (Value.int .u8 0).cells (grownCap w n 0 5 - n)) 5)) := fun ty => by
      have h := Lib.run_append_grow_zeros w 33 3 ty 5 i0 (.int .u8 0) .i64 .i64 Try.underlying33 Try.underlying3 hi0 hz0 none 0 0 [] (run_firstCells_none w.drew i0.size 0 0 0) n (by omega) (by omega) (by omega) (by omega)
        (by rw [hz2]; omega) (growslice_fits (by omega) (by rw [hz2]; omega))
      simpa using h
    have hGn : n ≤ grownCap w n 0 5 := grownCap_ge w _ _ _
    have hG63 := grownCap_le_maxLen w n 0 5 (by unfold maxLen; omega)
    obtain ⟨G, hG⟩ : ∃ G, G = grownCap w n 0 5 := ⟨_, rfl⟩
    rw [← hG] at hrz hGn hG63
    have hHM := Aside0.mk hG63
    unfold maxLen at hG63
    have hn1 : 0 < n := by omega
    clear hG h0
    go_enter Try.func84, Try.ntmps84
    go_wp2_with (at_builtin; refine Lib.wpList_append_run _ rfl _ _ _ _ rfl _ _ rfl rfl _ _ (hrz _) ?_)
    go_ret
    refine ⟨_, rfl, ⟨fun _ _ => trivial, [], ⟨rfl, .inr ⟨w.heap.size, G, _, rfl, Nat.le_refl _, (show (w.alloc _).heap[w.heap.size]? = some _ from blk_new w _), Nat.zero_le _, hHM.out, ?_, rfl⟩⟩, Reps.none _ _⟩, below_drew (below_alloc (Below.refl _ _) _)⟩
    simp [Builtin.zeroCells, Value.cells]
    have : (Kd.int .u8).sz = 1 := rfl
    rw [this]; omega
theorem flat_take {xs : List (List Int)} {i : Nat} (h : i < xs.length) : (xs.take (i + 1)).flatten = (xs.take i).flatten ++ xs[i] := by
  rw [List.take_succ_eq_append_getElem h, List.flatten_append]; simp
theorem flat_take_le (xs : List (List Int)) (i : Nat) : (xs.take i).flatten.length ≤ xs.flatten.length := by
  have := congrArg List.length (congrArg List.flatten (List.take_append_drop i xs))
  rw [List.flatten_append, List.length_append] at this
  omega
theorem rows_get {w : World} {A : Option Addr} {xs : List (List Int)} (hr : Kd.C (Kd.slice 5 (Kd.int .u8)) w A xs.length xs) {i : Nat} (hi : i < xs.length) : ∃ ad A' c', A = some ad ∧ w.cell? (ad.add i) = some (.slice A' xs[i].length c') ∧ xs[i].length ≤ c' ∧ Kd.C (Kd.int .u8) w A' xs[i].length xs[i] := by
  obtain ⟨ad, cs, hA, _, hK, hcell⟩ := Kd.C_get hr [] (i : Int) (by omega) (by omega)
  rw [show ((i : Int).toNat) = i by omega] at hK hcell
  rw [show xs.getD i [] = xs[i] by simp [List.getD_eq_getElem?_getD, List.getElem?_eq_getElem hi]] at hK
  obtain ⟨A', c', hcs, hl, hC⟩ := hK
  refine ⟨ad, A', c', hA, ?_, hl, hC⟩
  have := hcell 0 _ (by rw [hcs]; rfl)
  have hsz : (Kd.slice 5 (Kd.int .u8)).sz = 1 := rfl
  rw [hsz, Nat.mul_one, Nat.add_zero] at this
  exact this
set_option maxHeartbeats 4000000 in
set_option maxRecDepth 100000 in
theorem concat_calls (A : Option Addr) (c : Nat) (xs : List (List Int)) (w : World) (hr : Kd.C (Kd.slice 5 (Kd.int .u8)) w A xs.length xs) (hl : xs.flatten.length ≤ 1099511627776) :
    Calls Try.prog 55 #[.slice A xs.length c] w fun e w' => ∃ v, e = .returned v ∧ Kd.R (Kd.int .u8) 5 w' w.heap.size (fun _ => True) v xs.flatten ∧ Below w.heap.size w w' := by
  have hlm : xs.length ≤ 9223372036854775807 := hr.2.1
  have HR := Aside0.mk hr
  have HT : Aside0 (∀ i, (xs.take i).flatten.length ≤ xs.flatten.length) := ⟨flat_take_le xs⟩
  clear hr
  go_enter Try.func55, Try.ntmps55
  go_wp2
  go_loop [3, 11] (fun s i => ∃ k : Nat, k ≤ xs.length ∧ i = .int .i64 k ∧ s = .int .i64 ((xs.take k).flatten.length : Nat)) (fun _ i => xs.length - (intOf i).toNat)
  case atStart => exact ⟨0, Nat.zero_le _, rfl, by simp⟩
  case round =>
    obtain ⟨k, hk, rfl, rfl⟩ := hrel
    by_cases hlt : k < xs.length
    · obtain ⟨ad, A', c', rfl, hcell, hc', hC'⟩ := rows_get HR.out hlt
      have h1 := HT.out (k + 1); have h0 := HT.out k
      rw [flat_take hlt, List.length_append] at h1
      have HF : Aside0 ((xs.take (k + 1)).flatten.length = (xs.take k).flatten.length + xs[k].length) := ⟨by rw [flat_take hlt, List.length_append]⟩
      obtain ⟨m, hm⟩ : ∃ m, m = xs[k].length := ⟨_, rfl⟩
      obtain ⟨s0, hs0⟩ : ∃ m, m = (xs.take k).flatten.length := ⟨_, rfl⟩
      rw [← hm] at hcell h1 HF; rw [← hs0] at HF h1 h0 ⊢
      clear hC' hc' hm hs0
      go_wp2
      all_goals
        go_round
        case rel => exact ⟨k + 1, by omega, by go_num, by rw [HF.out]; go_num⟩
        case measure => simp [intOf]; omega
    · obtain rfl : k = xs.length := by omega
      have hS : Aside0 (xs.take xs.length = xs) := ⟨List.take_length⟩
      rw [hS.out]
      obtain ⟨T, hT⟩ : ∃ T, T = xs.flatten.length := ⟨_, rfl⟩
      rw [← hT] at hl ⊢
      have HTT := Aside0.mk hT
      clear hT
      go_wp2_with fail
      refine (grow_nil T (by omega) w).mono ?_
      rintro e w1 ⟨v1, rfl, hR1, hb1⟩
      have HR1 := Aside0.mk hR1; have HB1 := Aside0.mk hb1
      clear hR1 hb1
      go_wp2
      go_loopw [6, 27] (fun v i wr => ∃ k : Nat, k ≤ xs.length ∧ i = .int .i64 k ∧ Aside0 (Kd.R (Kd.int .u8) 5 wr w.heap.size (fun _ => True) v (xs.take k).flatten) ∧ Aside0 (Below w.heap.size w wr)) (fun _ i _ => xs.length - (intOf i).toNat)
      case atStart => exact ⟨0, Nat.zero_le _, rfl, ⟨by simpa using HR1.out⟩, HB1⟩
      case round =>
        obtain ⟨k, hk, rfl, HRk, HBk⟩ := hrel
        obtain ⟨B, d, hv⟩ := Kd.R_slice HRk.out
        by_cases hlt : k < xs.length
        · obtain ⟨fl, hfl⟩ : ∃ f, f = (xs.take k).flatten := ⟨_, rfl⟩
          rw [← hfl] at HRk hv
          have HFL := Aside0.mk hfl
          clear hfl
          subst hv
          obtain ⟨ad, A', c', rfl, hcell, hc', hC'⟩ := rows_get (Kd.C_below HR.out HBk.out) hlt
          have h1 := HT.out (k + 1)
          rw [flat_take hlt, List.length_append, ← HTT.out] at h1
          have HC' := Aside0.mk hC'
          have HFT := Aside0.mk (flat_take hlt)
          rw [← HFL.out] at h1 HFT
          obtain ⟨y, hy⟩ : ∃ y, y = xs[k] := ⟨_, rfl⟩
          rw [← hy] at hcell h1 HC' HFT
          clear hC' hc' hy
          go_wp2_with ((with_reducible refine gate_builtin (b := .append) (xs := #[.tmp 31, .tmp 32]) rfl ?_); at_builtin; refine Kd.R_append_rows (Kd.int .u8) (Rr := fun (x : Int) (c : List Value) => c = [.int .u8 x]) (w0 := w) w.heap.size rfl (.tmp 31) (.tmp 32) 33 5 (.int .u8 0) 1 rfl Try.underlying33 infoByte rfl (by decide) (by omega) (.slice B fl.length d) fl y A' y.length c' (fun _ => True) (fun _ => False) rfl rfl HRk.out HC'.out (fun _ _ h => h) (fun _ hk => hk.elim) (fun _ _ => trivial) HBk.out HBk.out.size (by omega) ?_; intro v1 w2 hr2 hb2 hg hat; have HR2 := Aside0.mk hr2; have HB2 := Aside0.mk hb2; clear hr2 hb2 hg hat)
          go_roundw
          case rel => exact ⟨k + 1, by omega, by go_num, ⟨by rw [HFT.out]; exact HR2.out⟩, HB2⟩
          case measure => simp [intOf]; omega
        · obtain rfl : k = xs.length := by omega
          go_wp2
          go_ret
          exact ⟨_, rfl, by have := HRk.out; rwa [hS.out] at this, HBk.out⟩
namespace Dk
def writeE (D : Dk) (n : Int) (p : List Int) : Int := if D.has n = false then 2 else if D.size < p.length then 1 else D.beginE
def written (D : Dk) (n : Int) (p : List Int) : Dk := if D.has n = false then D else if D.size < p.length then D else if D.beginE = 0 then D.begun.put n.toNat (p ++ zeros (D.size - p.length)) else D.begun
end Dk
theorem Dk.begun_size (D : Dk) : D.begun.size = D.size := by unfold Dk.begun; split <;> rfl
theorem Dk.begun_sectors (D : Dk) : D.begun.sectors = D.sectors := by unfold Dk.begun; split <;> rfl
/-- A sector is put. -/
theorem DParts.put (h : DParts w X d sb mb es clock safe D) (n : Nat) (hn : n < D.sectors) (l : List Int) (hl : l.length = D.size) (hby : Bytes l) (g : Nat) (hg : Blk w g l) (hgs : g ≠ sb) (es' : Array MapEntry) (clock' : Nat) (hw : w'.heap[mb]? = some (.map es' clock')) (hf : Frm (fun k => k = mb) w w')
    (hst : MapKept.Stamped es' clock') (hent : ∀ x ∈ es'.toList, (x ∈ es.toList ∧ x.key ≠ .int .i64 (n : Int)) ∨ (x.key = .int .i64 (n : Int) ∧ x.val = .slice (some ⟨g, 0, none⟩) D.size D.size)) (hall : ∀ x ∈ es.toList, ∃ y ∈ es'.toList, y.key = x.key) (hnew : ∃ y ∈ es'.toList, y.key = .int .i64 (n : Int)) :
    DParts w' (fun k => X k ∨ k = g) d sb mb es' clock' safe (D.put n l) := by
  obtain ⟨n1, n2, n3⟩ := h.ne_m
  have hgm : g ≠ mb := fun e => by have := hg; rw [Blk, e, h.hm] at this; cases this
  refine ⟨hf.blk h.hd n1, hf.blk h.hs n2, hw, h.len, h.sec, h.byt, hst, fun e he => ?_, fun m lm hm => ?_, .inl h.xd, .inl h.xs, .inl h.xm, h.b1, h.b2, h.b3, h.b4, h.lb, h.nd⟩
  · rcases hent e he with ⟨hx, hk⟩ | ⟨hk, hv⟩
    · obtain ⟨m, lm, b, x⟩ := h.ent e hx
      have hmn : m ≠ n := fun e1 => hk (by rw [x.key, e1])
      exact ⟨m, lm, b, { x with fr := by simp only [Dk.put, if_neg hmn]; exact x.fr, blk := hf.blk x.blk (n3 e hx m lm b x).1, own := .inl x.own }⟩
    · exact ⟨n, l, g, ⟨hk, hv, hn, by simp [Dk.put], hf.blk hg hgm, hl, hby, .inr rfl, hgs⟩⟩
  · by_cases hmn : m = n
    · subst hmn; exact hnew
    · simp only [Dk.put, if_neg hmn] at hm
      obtain ⟨x, hx, hk⟩ := h.all m lm hm
      obtain ⟨y, hy, hk2⟩ := hall x hx
      exact ⟨y, hy, hk2.trans hk⟩
theorem zeros_bytes (n : Nat) : Bytes (zeros n) := fun x hx => by rw [(List.mem_replicate.mp hx).2]; omega
set_option maxHeartbeats 4000000 in
set_option maxRecDepth 100000 in
theorem write_calls (h : DParts w X d sb mb es clock safe D) (n : Int) (A : Option Addr) (c : Nat) (xs : List (List Int)) (hr : Kd.C (Kd.slice 5 (Kd.int .u8)) w A xs.length xs) (hl : xs.flatten.length ≤ 1099511627776) (hby : Bytes xs.flatten) :
    Calls Try.prog 18 #[.pointer (some ⟨d, 0, none⟩), .int .i64 n, .slice A xs.length c] w fun e w' => e = .returned (.int .i64 (D.writeE n xs.flatten)) ∧ DAt w' (fun k => X k ∨ w.heap.size ≤ k) d (D.written n xs.flatten) ∧ Frm X w w' := by
  have HD := Aside0.mk h; have HR := Aside0.mk hr; have HBY := Aside0.mk hby
  clear h hr hby
  obtain ⟨p, hp⟩ : ∃ p, p = xs.flatten := ⟨_, rfl⟩
  have HP := Aside0.mk hp
  rw [← hp] at hl HBY ⊢
  clear hp
  go_enter Try.func18, Try.ntmps18
  go_wp2_with fail
  refine (concat_calls A c xs w HR.out (by rw [← HP.out]; exact hl)).mono ?_
  rintro e w1 ⟨v1, rfl, hr1, hb1⟩
  rw [← HP.out] at hr1
  obtain ⟨A1, c1, rfl⟩ := Kd.R_slice hr1
  obtain ⟨_, hc1, hC1⟩ := Kd.R_reads' hr1
  have HD1 := Aside0.mk (HD.out.frm (S := fun _ => False) (Frm.of_below hb1) (fun _ _ h => h))
  have HC1 := Aside0.mk hC1; have HB1 := Aside0.mk hb1
  have HCK : Aside0 (∀ W', Kept w1 W' (fun k => k < w.heap.size) → Kd.C (Kd.int .u8) W' A1 p.length p) := ⟨Kd.C_kept_own (Kd.R_bound hr1) (fun k hk hlt => by have := hk.2.1; omega)⟩
  clear hr1 hC1 hb1
  go_wp2_with fail
  refine (has_calls HD1.out n).mono ?_
  rintro e w2 ⟨rfl, hd2⟩
  have HD2 := Aside0.mk (HD1.out.frm (S := fun _ => False) (Frm.of_below hd2.below) (fun _ _ h => h))
  have HK2 : Aside0 (Kept w1 w2 (fun k => k < w.heap.size)) := ⟨Kept.of_below hd2.below _⟩
  have HB2 := Aside0.mk (below_step HB1.out hd2.below)
  clear hd2
  cases hh : D.has n with
  | false =>
    go_wp2_with fail
    go_ret
    refine ⟨by simp [Dk.writeE, hh], ?_, Frm.of_below HB2.out⟩
    rw [show D.written n p = D by simp [Dk.written, hh]]
    exact ⟨_, _, _, _, _, HD2.out.mono fun _ h => .inl h⟩
  | true =>
    have HH := Aside0.mk hh
    clear hh
    obtain ⟨c0, k1, k2, k3, k4, k5, k6⟩ := HD2.out.cells
    by_cases hsz : D.size < p.length
    · have ds : decide (D.size < p.length) = true := decide_eq_true hsz
      go_wp2_with fail
      go_ret
      refine ⟨by simp [Dk.writeE, HH.out, hsz], ?_, Frm.of_below HB2.out⟩
      rw [show D.written n p = D by simp [Dk.written, HH.out, hsz]]
      exact ⟨_, _, _, _, _, HD2.out.mono fun _ h => .inl h⟩
    · have ds : decide (D.size < p.length) = false := decide_eq_false hsz
      have HS := Aside0.mk hsz
      clear hsz
      go_wp2_with fail
      refine (begin_calls HD2.out).mono ?_
      rintro e w3 ⟨rfl, hD3, hf3, hs3⟩
      have HD3 := Aside0.mk hD3; have HF3 := Aside0.mk (((Frm.of_below (S := X) HB2.out)).then_ hf3 fun k hk => by subst hk; exact .inl HD.out.xd)
      have hdlt : d < w.heap.size := blk_lt HD.out.hd
      have HK3 : Aside0 (Kept w1 w3 (fun k => k < w.heap.size)) := ⟨HK2.out.then_ hf3.kept fun k hk => .inl (by omega)⟩
      have hC3 := HCK.out _ HK3.out
      have hgt : w.heap.size ≤ w3.heap.size := Nat.le_trans HB2.out.size hf3.size
      clear hD3 hf3 hs3 hdlt
      by_cases he : D.beginE = 0
      · have HE := Aside0.mk he
        rw [he]
        clear he
        have hb4 := HD.out.b4
        obtain ⟨c0, k1, k2, k3, k4, k5, k6⟩ := HD3.out.cells
        rw [D.begun_size] at k1
        have hmk := fun W => make_bytes W D.size (by omega)
        obtain ⟨W4, hW4⟩ : ∃ W, W = w3.alloc (.cells ((zeros D.size).map (.int .u8)).toArray 5) := ⟨_, rfl⟩
        have hB4 : Below w3.heap.size w3 W4 := by rw [hW4]; exact below_alloc (Below.refl _ _) _
        have hblk : Blk W4 w3.heap.size (zeros D.size) := by rw [hW4]; exact blk_new w3 _
        have hlp : p.length ≤ D.size := by have := HS.out; omega
        have hzl : (zeros D.size).length = D.size := by simp [zeros]
        obtain ⟨W5, hcp, hblk5, hB5⟩ := copy_bytes W4 w3.heap.size 0 D.size D.size A1 p (zeros D.size) c1 hblk (Kd.C_below hC3 hB4) hlp (by rw [hzl]; omega)
        have hB35 : Below w3.heap.size w3 W5 := by
          have h4 : w3.heap.size ≤ W4.heap.size := hB4.size
          exact hB4.trans hB5
        have hD5 := HD3.out.frm (S := fun _ => False) (Frm.of_below hB35) (fun _ _ h => h)
        have q3 := hD5.cells.2.2.2.1
        obtain ⟨m, hm⟩ : ∃ m : Nat, n = m := ⟨n.toNat, by have := HH.out; simp [Dk.has] at this; omega⟩
        subst hm
        have hmlt : m < D.sectors := by have := HH.out; simp [Dk.has] at this; exact this
        obtain ⟨es6, clock6, hup, hst6, hks6, hent6, hall6, hnew6⟩ := map_store (P := Try.prog) (t := 98) (v := .slice (some ⟨w3.heap.size, 0, none⟩) D.size D.size) (k := (m : Int)) Try.underlying98 Try.underlying3 hD5.hm hD5.st hD5.keys
        have HD5 := Aside0.mk hD5; have HB35 := Aside0.mk hB35; have HN := Aside0.mk (And.intro hst6 (And.intro hent6 (And.intro hall6 hnew6))); have HBL := Aside0.mk hblk5
        clear hD5 hB35 hst6 hent6 hall6 hnew6 hblk5 hC3 hks6 hB5 hblk hB4 hzl
        rw [hW4] at hcp
        clear hW4
        go_wp2_with fail
        go_ret
        obtain ⟨hst6, hent6, hall6, hnew6⟩ := HN.out
        have hz : (zeros D.size).take 0 ++ (p ++ (zeros D.size).drop (0 + p.length)) = p ++ zeros (D.size - p.length) := by simp [zeros, List.drop_replicate]
        have hbl := HBL.out
        rw [hz] at hbl
        have hlen : (p ++ zeros (D.size - p.length)).length = D.begun.size := by rw [D.begun_size, List.length_append, zeros, List.length_replicate]; omega
        have hput := HD5.out.put m (by rw [D.begun_sectors]; exact hmlt) _ hlen (Bytes.append HBY.out (zeros_bytes _)) w3.heap.size hbl (fun e => by have := blk_lt HD3.out.hs; omega) es6 clock6 (heap_setB_same HD5.out.hm) (Frm.one _ _) hst6 (by rw [D.begun_size]; exact hent6) hall6 hnew6
        refine ⟨by simp [Dk.writeE, HH.out, HS.out, HE.out], ?_, ?_⟩
        · rw [show D.written (m : Int) p = D.begun.put m (p ++ zeros (D.size - p.length)) by simp [Dk.written, HH.out, HS.out, HE.out]]
          exact ⟨_, _, _, _, _, hput.mono fun k hk => hk.imp id fun e => by omega⟩
        · exact (HF3.out.step HB35.out).setB (.inl HD5.out.xm) _
      · have HE := Aside0.mk he
        have de : (D.beginE == 0) = false := by simpa using he
        clear he
        go_wp2_with fail
        go_ret
        refine ⟨by simp [Dk.writeE, HH.out, HS.out], ?_, HF3.out⟩
        rw [show D.written n p = D.begun by simp [Dk.written, HH.out, HS.out, HE.out]]
        exact ⟨_, _, _, _, _, HD3.out.mono fun _ h => .inl h⟩
end Go.Proofs.YteimienhaodfcaaK
