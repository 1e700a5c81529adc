/- Pages: page.Put, walked. -/
import Derived.Test.YteimienhaodfcaaKBlk
namespace Go.Proofs.YteimienhaodfcaaK
open Go.RowKit Go.Proofs.YteimienhaodfcaaW.PrintWords Go.Proofs.YteimienhaodfcaaW.PrintLast Go.Proofs.YteimienhaodfcaaW.PrintMore
attribute [local go_sem] max2_int min2_int max_two min_two max_three min_three max_four min_four
set_option linter.unusedVariables false
set_option linter.unusedSimpArgs false
open Go.Crc
set_option maxHeartbeats 4000000 in
set_option maxRecDepth 100000 in
theorem put_calls (A : Option Addr) (c : Nat) (size kind id : Int) (L : List Int) (w : World) (hr : Kd.C (Kd.int .u8) w A L.length L) (hc : L.length ≤ c) (hk : 0 ≤ kind ∧ kind < 256) (hi : 0 ≤ id ∧ id < 4294967296) (hL : Bytes L) :
    Calls Try.prog 77 #[.int .i64 size, .agg #[.int .u8 kind, .int .u32 id, .slice A L.length c]] w fun e w' => ∃ v1, e = .returned (.tuple #[v1, .int .i64 (putE size kind L)]) ∧ (putE size kind L ≠ 0 → v1 = .slice none 0 0) ∧ (putE size kind L = 0 → ∃ g, w.heap.size ≤ g ∧ v1 = .slice (some ⟨g, 0, none⟩) size.toNat size.toNat ∧ Blk w' g (putB size.toNat kind id L)) ∧ Below w.heap.size w w' := by
  have HR := Aside0.mk hr
  have HL := Aside0.mk hL
  have hlm : L.length ≤ 9223372036854775807 := hr.2.1
  clear hr hL
  go_enter Try.func77, Try.ntmps77
  go_wp2_with fail
  refine (room_calls size _).mono ?_
  rintro e w1 ⟨rfl, ⟨m1, rfl⟩⟩
  obtain ⟨W1, hW1⟩ : ∃ W1, W1 = ((w.alloc (Obj.cells #[Value.int IntKind.u8 kind, Value.int IntKind.u32 id, Value.slice A L.length c] 83)).drewN m1) := ⟨_, rfl⟩
  rw [← hW1]
  have hX1 : W1.heap[w.heap.size]? = some (.cells #[Value.int IntKind.u8 kind, Value.int IntKind.u32 id, Value.slice A L.length c] 83 (0, 0)) := by rw [hW1]; exact blk_drewN (blk_new w _) _
  have hsz1 : W1.heap.size = w.heap.size + 1 := by rw [hW1]; simp
  have hB1 : Below w.heap.size w W1 := by rw [hW1]; repeat (first | (with_reducible first | exact Below.refl _ _ | apply below_alloc | apply pw_below_drewN | apply below_drew1) | exact Below.refl _ _)
  have hx0 : W1.cell? ⟨w.heap.size, 0, none⟩ = some (.int .u8 kind) := by rw [blk_cell hX1]; rfl
  have hx2 : W1.cell? ⟨w.heap.size, 2, none⟩ = some (.slice A L.length c) := by rw [blk_cell hX1]; rfl
  have HX1 := Aside0.mk hX1; have HB1 := Aside0.mk hB1
  clear hW1 hX1 hB1
  by_cases h0 : room size = 0
  · have d0 : (room size == 0) = true := by simpa using h0
    have he : putE size kind L = 2 := by rw [putE, if_pos (.inl h0)]
    clear h0
    go_wp2_with fail
    go_ret2
    exact ⟨_, by rw [he]; rfl, fun _ => rfl, fun h => by omega, by repeat (first | (with_reducible first | exact HB1.out | apply below_alloc | apply pw_below_drewN | apply below_drew1) | exact HB1.out)⟩
  · have d0 : (room size == 0) = false := beq_f h0
    have hrm2 : Aside0 (room size = size - 11 ∧ 64 ≤ size ∧ size ≤ 8192) := ⟨by unfold room at h0 ⊢; split at h0 <;> (first | omega | (rw [if_neg (by assumption)]; omega))⟩
    have H0 := Aside0.mk h0
    clear h0
    by_cases hk0 : kind = 0
    · subst hk0
      have he : putE size 0 L = 2 := by rw [putE, if_pos (.inr rfl)]
      go_wp2_with fail
      go_ret2
      exact ⟨_, by rw [he]; rfl, fun _ => rfl, fun h => by omega, by repeat (first | (with_reducible first | exact HB1.out | apply below_alloc | apply pw_below_drewN | apply below_drew1) | exact HB1.out)⟩
    · have d1 : (kind == 0) = false := beq_f hk0
      go_wp2_with fail
      go_quiet (first | (go_at_call 79; (with_reducible refine (room_calls size _).mono ?_); rintro e w' ⟨rfl, ⟨nd, rfl⟩⟩; (try first | exact ⟨rfl, _, World.drewN_drewN _ _ _⟩ | exact ⟨rfl, _, Eq.trans (World.drewN_drewN _ _ _) (congrArg (World.drewN _) (Nat.add_assoc _ _ _))⟩)))
      focus
        by_cases h2 : room size < (L.length : Int)
        · have d2 : decide (room size < (L.length : Int)) = true := decide_eq_true h2
          have he : putE size kind L = 1 := by rw [putE, if_neg (by have := H0.out; omega), if_pos h2]
          go_wp2_with fail
          go_ret2
          exact ⟨_, by rw [he]; rfl, fun _ => rfl, fun h => by omega, by repeat (first | (with_reducible first | exact HB1.out | apply below_alloc | apply pw_below_drewN | apply below_drew1) | exact HB1.out)⟩
        · have d2 : decide (room size < (L.length : Int)) = false := decide_eq_false h2
          have he : putE size kind L = 0 := by rw [putE, if_neg (by have := H0.out; omega), if_neg h2]
          obtain ⟨e1, e2, e3⟩ := hrm2.out
          clear hrm2
          have E1 := Aside0.mk e1

          clear e1
          obtain ⟨s, rfl⟩ : ∃ s : Nat, size = s := ⟨size.toNat, by omega⟩
          have hmk := fun W => make_bytes W s (by omega)
          have hz0 : (zeros s)[0]? = some 0 := by rw [zeros, List.getElem?_replicate, if_pos (by omega)]
          have hz1 : (zeros s).length = s := by simp [zeros]
          have hs0 : 0 < s := by omega
          have hs1 : ¬ s = 0 := by omega
          go_wp2_with fail
          obtain ⟨W, hW⟩ : ∃ W, W = ((W1.drewN nq).alloc (Obj.cells ((List.map (Value.int IntKind.u8) (zeros s)).set 0 (Value.int IntKind.u8 kind)).toArray 5)) := ⟨_, rfl⟩
          rw [← hW]
          have hX : W.heap[w.heap.size]? = some (.cells #[Value.int IntKind.u8 kind, Value.int IntKind.u32 id, Value.slice A L.length c] 83 (0, 0)) := by rw [hW]; exact blk_alloc (blk_drewN HX1.out _) _
          have hG : Blk W (w.heap.size + 1) ((zeros s).set 0 kind) := by
            have := blk_new (W1.drewN nq) (Obj.cells ((List.map (Value.int IntKind.u8) (zeros s)).set 0 (Value.int IntKind.u8 kind)).toArray 5)
            rw [hW]; unfold Blk
            rw [show (W1.drewN nq).heap.size = w.heap.size + 1 by simpa using hsz1] at this
            simpa [List.map_set] using this
          have hBW : Below w.heap.size w W := by rw [hW]; repeat (first | (with_reducible first | exact HB1.out | apply below_alloc | apply pw_below_drewN | apply below_drew1) | exact HB1.out)
          have hGe : w.heap.size + 1 < W.heap.size := by rw [hW]; simp [hsz1]
          have hx1 : W.cell? ⟨w.heap.size, 1, none⟩ = some (.int .u32 id) := by rw [blk_cell hX]; rfl
          have hwi : IntKind.u64.wrap id = id := by rw [IntKind.wrap_u64]; omega
          have hzl : ((zeros s).set 0 kind).length = s := by simp [zeros]
          have HG := Aside0.mk hG; have HX := Aside0.mk hX; have HBW := Aside0.mk hBW
          clear hW hx0 hx2 d0 d2 d1 hmk hz0 hs1 hsz1 hG hX hBW h2
          go_upto_region 7 with (fail)
          go_cut [6] from 29 (fun s6 wx => s6 = .slice (some ⟨w.heap.size + 1, 0, none⟩) s s ∧ Blk wx (w.heap.size + 1) (layL ((zeros s).set 0 kind) 1 4 id) ∧ Below (w.heap.size + 1) W wx)
          case first =>
            go_region_with (go_at_call 89; refine (lay_calls' (w.heap.size + 1) 1 4 (s - 1) id _ W.drew HG.out (by rw [hzl]; omega) (by omega) (by rw [hzl]; omega) hi.1 (by omega)).mono ?_; rintro e w2 ⟨rfl, hg2, hb2⟩)
            all_goals (go_wp2_with fail; go_meet; exact ⟨rfl, hg2, of_drew hb2⟩)
          case rest =>
            obtain ⟨rfl, hg2, hb2⟩ := hcut
            have hX2 := (hb2.block w.heap.size (Nat.lt_succ_self _)).trans HX.out
            have hx2 : wc.cell? ⟨w.heap.size, 2, none⟩ = some (.slice A L.length c) := by rw [blk_cell hX2]; rfl
            have hwl : IntKind.u64.wrap (L.length : Int) = L.length := by rw [IntKind.wrap_u64]; omega
            have hbw2 : Below w.heap.size w wc := below_weaken HBW.out (Nat.le_succ _) hb2
            have hl2 : (layL ((zeros s).set 0 kind) 1 4 id).length = s := by rw [layL_length _ _ _ _ (by omega), hzl]
            have HX := Aside0.mk hX2; have HG2 := Aside0.mk hg2; have HBW := Aside0.mk hbw2
            clear hX2 hg2 hb2 hbw2 hx1 hwi HG
            go_upto_region 8 with (fail)
            go_cut [6] from 35 (fun s6 wx => s6 = .slice (some ⟨w.heap.size + 1, 0, none⟩) s s ∧ Blk wx (w.heap.size + 1) (putHead s kind id L) ∧ Below (w.heap.size + 1) wc wx)
            case first =>
              go_region_with (go_at_call 89; refine (lay_calls' (w.heap.size + 1) 5 2 (s - 5) L.length _ wc.drew HG2.out (by rw [hl2]; omega) (by omega) (by rw [hl2]; omega) (by omega) (by omega)).mono ?_; rintro e w2 ⟨rfl, hg2, hb2⟩)
              all_goals (go_wp2_with fail; go_meet; exact ⟨rfl, hg2, of_drew hb2⟩)
            case rest =>
              obtain ⟨rfl, hg2, hb2⟩ := hcut
              have hX2 := (hb2.block w.heap.size (Nat.lt_succ_self _)).trans HX.out
              have hx2 : wc.cell? ⟨w.heap.size, 2, none⟩ = some (.slice A L.length c) := by rw [blk_cell hX2]; rfl
              have hbw2 : Below w.heap.size w wc := below_weaken HBW.out (Nat.le_succ _) hb2
              have HX := Aside0.mk hX2; have HG2 := Aside0.mk hg2; have HBW := Aside0.mk hbw2
              clear hX2 hg2 hb2 hbw2 hwl
              have hl3 := putHead_length s kind id L (by omega)
              have hfit : 7 + L.length ≤ s := by have := E1.out; omega
              obtain ⟨W', hcp, hg3, hb3⟩ := copy_bytes wc.drew (w.heap.size + 1) 7 (s - 7) (s - 7) A L (putHead s kind id L) c HG2.out (Kd.C_below HR.out (below_drew HBW.out)) (by omega) (by rw [hl3]; omega)
              have HG3 := Aside0.mk hg3; have HB3 := Aside0.mk hb3
              clear hg3 hb3
              have hs7 : ¬ s = 7 := by omega
              go_upto_region 9 with (fail)
              go_cut [6] from 42 (fun s6 wx => s6 = .slice (some ⟨w.heap.size + 1, 0, none⟩) s s ∧ Blk wx (w.heap.size + 1) (putBody s kind id L) ∧ Below (w.heap.size + 1) wc wx)
              case first =>
                go_region_with (fail)
                all_goals (go_wp2_with fail; go_meet; exact ⟨rfl, HG3.out, of_drew HB3.out⟩)
              case rest =>
                obtain ⟨rfl, hg2, hb2⟩ := hcut
                have hbw2 : Below w.heap.size w wc := below_weaken HBW.out (Nat.le_succ _) hb2
                have HG4 := Aside0.mk hg2; have HBW := Aside0.mk hbw2
                clear hg2 hb2 hbw2 hcp HG3 HB3
                have hl4 := putBody_length s kind id L hfit
                have hw4 : IntKind.i64.wrap ((s : Int) - 4) = (s : Int) - 4 := by rw [IntKind.wrap_i64]; omega
                have ht4 : ((s : Int) - 4).toNat = s - 4 := by omega
                have hn4 : (0 : Int) ≤ (s : Int) - 4 := by omega
                have hm4 : (s : Int) - 4 ≤ (s : Int) := by omega
                have h44 : s - (s - 4) = 4 := by omega
                have hrd := blk_reads HG4.out .u8 (putBody s kind id L) (by simp) (by omega) 0 (s - 4) (by omega)
                rw [List.drop_zero] at hrd
                have hmk : Kd.C (Kd.slice 5 (Kd.int .u8)) (wc.alloc (Obj.cells #[Value.slice (some ⟨w.heap.size + 1, 0, none⟩) (s - 4) s] 33)).drew (some ⟨wc.heap.size, 0, none⟩) 1 [(putBody s kind id L).take (s - 4)] := lit_row1 wc 33 _ (s - 4) s _ hrd (by omega)
                have hby : ∀ l ∈ [(putBody s kind id L).take (s - 4)], Bytes l := by
                  intro l hl
                  obtain rfl : l = _ := by simpa using hl
                  exact fun x hx => putBody_bytes s kind id L hk HL.out x (List.mem_of_mem_take hx)
                have hcr : ∀ l : List Int, 0 ≤ crc l ∧ crc l < 4294967296 := fun l => by have := from_lt 4294967295 l (by decide); unfold crc; omega
                have hcw : IntKind.u64.wrap (crc ((putBody s kind id L).take (s - 4))) = crc ((putBody s kind id L).take (s - 4)) := by have := hcr ((putBody s kind id L).take (s - 4)); rw [IntKind.wrap_u64]; omega
                have HMK := Aside0.mk hmk; have HBY := Aside0.mk hby; have HCR := Aside0.mk hcr
                have hge : w.heap.size ≤ wc.heap.size := HBW.out.size
                clear hmk hby hrd hcr
                go_upto_region 10 with (fail)
                go_cut [6] from 47 (fun s6 wx => s6 = .slice (some ⟨w.heap.size + 1, 0, none⟩) s s ∧ Blk wx (w.heap.size + 1) (putB s kind id L) ∧ Below w.heap.size w wx)
                case first =>
                  go_region_with (first | (go_at_call 72; refine (mark_calls _ 1 1 _ _ HMK.out (by decide) rfl HBY.out).mono ?_; rintro e w2 ⟨rfl, ⟨nd, rfl⟩⟩; simp only [List.flatten_cons, List.flatten_nil, List.append_nil]) | (go_at_call 89; refine (lay_calls' (w.heap.size + 1) (s - 4) 4 4 (crc ((putBody s kind id L).take (s - 4))) (putBody s kind id L) _ (blk_drewN (blk_alloc HG4.out _) _) (by rw [hl4]; omega) (by omega) (by rw [hl4]; omega) (HCR.out _).1 (by have := (HCR.out ((putBody s kind id L).take (s - 4))).2; omega)).mono ?_; rintro e w2 ⟨rfl, hg2, hb2⟩))
                  all_goals (go_wp2_with fail; go_meet; exact ⟨rfl, hg2, below_weaken (pw_below_drewN (below_alloc HBW.out _) _) (Nat.le_succ _) hb2⟩)
                case rest =>
                  obtain ⟨rfl, hg2, hb2⟩ := hcut
                  go_wp2_with fail
                  go_ret2
                  exact ⟨_, by rw [he]; rfl, fun h => absurd he h, fun _ => ⟨_, Nat.le_succ _, rfl, hg2⟩, hb2⟩
theorem putB_length (s : Nat) (kind id : Int) (L : List Int) (h : 11 + L.length ≤ s) : (putB s kind id L).length = s := by
  have := putBody_length s kind id L (by omega)
  unfold putB; rw [layL_length _ _ _ _ (by omega), this]
theorem putE_zero {size kind : Int} {L : List Int} (h : putE size kind L = 0) : 64 ≤ size ∧ size ≤ 8192 ∧ kind ≠ 0 ∧ (L.length : Int) + 11 ≤ size := by
  unfold putE at h
  split at h
  · omega
  · split at h
    · omega
    · unfold room at *
      split at * <;> simp_all <;> omega
def putF (size kind id : Int) (L : List Int) : List Int × Int := (if putE size kind L = 0 then putB size.toNat kind id L else [], putE size kind L)
theorem put_calls' (A : Option Addr) (c : Nat) (size kind id : Int) (L : List Int) (w : World) (hr : Kd.C (Kd.int .u8) w A L.length L) (hc : L.length ≤ c) (hk : 0 ≤ kind ∧ kind < 256) (hi : 0 ≤ id ∧ id < 4294967296) (hL : Bytes L) :
    Calls Try.prog 77 #[.int .i64 size, .agg #[.int .u8 kind, .int .u32 id, .slice A L.length c]] w fun e w' => ∃ v0_ : Value, e = .returned (.tuple #[v0_, .int .i64 (putF size kind id L).2]) ∧ Kd.R (Kd.int .u8) 5 w' w.heap.size (fun _ => True) v0_ (putF size kind id L).1 ∧ Below w.heap.size w w' := by
  refine (put_calls A c size kind id L w hr hc hk hi hL).mono ?_
  rintro e w' ⟨v1, rfl, h1, h2, hb⟩
  refine ⟨v1, rfl, ?_, hb⟩
  unfold putF
  by_cases h0 : putE size kind L = 0
  · obtain ⟨g, hg, rfl, hbk⟩ := h2 h0
    obtain ⟨q1, q2, _, q3⟩ := putE_zero h0
    have hl := putB_length size.toNat kind id L (by omega)
    rw [if_pos h0]
    have := R_of_blk (base := w.heap.size) (ok := fun _ => True) hbk hg trivial (by rw [hl]; unfold maxLen; omega)
    rwa [hl] at this
  · rw [if_neg h0, h1 h0]; exact Kd.R_nil _ _ _ _ _
end Go.Proofs.YteimienhaodfcaaK
