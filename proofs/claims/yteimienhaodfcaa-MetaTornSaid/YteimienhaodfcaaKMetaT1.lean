/- MetaTorn, walked: a sector that was written. -/
import Derived.Test.YteimienhaodfcaaKMetaT
import Derived.Test.YteimienhaodfcaaKLive4
import Derived.Test.YteimienhaodfcaaKMetaP
import Derived.Test.YteimienhaodfcaaKFlow
import Derived.Test.YteimienhaodfcaaKClone
import Derived.Deep.QuietTactic
import Derived.BigQuiet
import Derived.Outline
import Derived.Deep.RegionHeld3
import Derived.Lib.AppendZerosOnto
import Derived.Lib.SliceRun
import Derived.Lib.Walk
namespace Go.Proofs.YteimienhaodfcaaK
open Go.RowKit Go.Proofs.YteimienhaodfcaaW.PrintWords Go.Proofs.YteimienhaodfcaaW.PrintLast Go.Proofs.YteimienhaodfcaaW.PrintMore Go.Crc
open Go.ChangeMaps (setBlock)
attribute [local go_sem] max2_int min2_int max_two min_two
set_option linter.unusedVariables false
set_option linter.unusedSimpArgs false
variable {w w' : World} {X X' S : Nat → Prop} {d sb mb clock : Nat} {es : Array MapEntry} {safe : List Int} {D : Dk}
set_option maxHeartbeats 8000000 in
set_option maxRecDepth 100000 in
theorem torn_full (seq s1 r1 k1 d1 s2 r2 k2 d2 : Int) (cut : Nat) (w : World) (hs : 1 ≤ seq ∧ seq ≤ 4611686018427387904) (hc : cut ≤ 64) :
    Calls Try.prog 8 #[.int .u64 seq, .agg #[.int .u64 s1, .int .i64 r1, .int .i64 k1, .int .i64 d1], .agg #[.int .u64 s2, .int .i64 r2, .int .i64 k2, .int .i64 d2], .int .i64 (cut : Int), .bool false] w fun e w' => e = .returned (.bool true) ∧ Below w.heap.size w w' := by
  have d1' : decide (seq < 1) = false := decide_eq_false (by omega)
  have d2' : decide (4611686018427387904 < seq) = false := decide_eq_false (by omega)
  have d3' : decide ((cut : Int) < 0) = false := decide_eq_false (by omega)
  have d4' : decide (64 < (cut : Int)) = false := decide_eq_false (by omega)
  have hw2 : IntKind.u64.wrap (seq + 2) = seq + 2 := u64_small (by omega) (by omega)
  have HSQ := Aside0.mk hs
  obtain ⟨W0, hW0⟩ : ∃ W, W = (w.alloc (.cells #[.int .u64 seq, .int .i64 r1, .int .i64 k1, .int .i64 d1] 52)).alloc (.cells #[.int .u64 (seq + 2), .int .i64 r2, .int .i64 k2, .int .i64 d2] 52) := ⟨_, rfl⟩
  have hB0 : Below w.heap.size w W0 := by rw [hW0]; exact below_alloc (below_alloc (Below.refl _ _) _) _
  have hx2 : W0.heap[w.heap.size + 1]? = some (.cells #[.int .u64 (seq + 2), .int .i64 r2, .int .i64 k2, .int .i64 d2] 52) := by
    have := blk_new (w.alloc (.cells #[.int .u64 seq, .int .i64 r1, .int .i64 k1, .int .i64 d1] 52)) (.cells #[.int .u64 (seq + 2), .int .i64 r2, .int .i64 k2, .int .i64 d2] 52)
    rw [World.size_alloc] at this
    rw [hW0]; exact this
  have H0 := Aside0.mk (And.intro hB0 hx2)
  clear hB0 hx2
  go_enter Try.func8, Try.ntmps8
  go_wp2_with fail
  rw [← hW0]
  clear hW0 d1' d2' d3' d4' hw2 hs
  refine (mput_calls seq r1 k1 d1 W0 ⟨by have := HSQ.out; omega, by have := HSQ.out; omega⟩).mono ?_
  rintro e w1 ⟨g1, rfl, hg1, hk1, hb1⟩
  obtain ⟨G1, W2, hG1, hrun1, hC1, hB1⟩ := app28 w1 g1 _ hk1 (metaB_length _ _ _ _)
  obtain ⟨p1, hp1⟩ : ∃ p, p = w1.heap.size := ⟨_, rfl⟩
  rw [← hp1] at hrun1 hC1
  have hx2 := blk_below (blk_below H0.out.2 hb1) hB1
  have H2 := Aside0.mk (And.intro (below_step (below_step H0.out.1 hb1) hB1) hC1)
  have z0 := blk_cell hx2 0; have z1 := blk_cell hx2 1; have z2 := blk_cell hx2 2; have z3 := blk_cell hx2 3
  simp only [List.getElem?_toArray, List.getElem?_cons_zero, List.getElem?_cons_succ] at z0 z1 z2 z3
  have HG1 := Aside0.mk hG1
  clear hp1 hC1 hB1 hb1 hk1 hg1 hx2 hG1
  go_wp2_with (at_builtin; refine Lib.wpList_append_run _ rfl _ _ _ _ rfl _ _ rfl rfl _ _ (hrun1 _) ?_)
  clear hrun1 z0 z1 z2 z3
  refine (mput_calls (seq + 2) r2 k2 d2 W2 ⟨by have := HSQ.out; omega, by have := HSQ.out; omega⟩).mono ?_
  rintro e w3 ⟨g2, rfl, hg2, hk2, hb3⟩
  obtain ⟨G2, W4, hG2, hrun2, hC2, hB4⟩ := app28 w3 g2 _ hk2 (metaB_length _ _ _ _)
  obtain ⟨p2, hp2⟩ : ∃ p, p = w3.heap.size := ⟨_, rfl⟩
  rw [← hp2] at hrun2 hC2
  have H4 := Aside0.mk (And.intro (below_step (below_step H2.out.1 hb3) hB4) (And.intro (Kd.C_below (Kd.C_below H2.out.2 hb3) hB4) hC2))
  have HG2 := Aside0.mk hG2
  have hG1 := HG1.out
  clear hp2 hC2 hB4 hb3 hk2 hg2
  obtain ⟨B1, hB1⟩ : ∃ B, B = metaB seq (IntKind.u64.wrap r1) (IntKind.u64.wrap k1) (IntKind.u64.wrap d1) ++ zeros 28 := ⟨_, rfl⟩
  obtain ⟨B2, hB2⟩ : ∃ B, B = metaB (seq + 2) (IntKind.u64.wrap r2) (IntKind.u64.wrap k2) (IntKind.u64.wrap d2) ++ zeros 28 := ⟨_, rfl⟩
  rw [← hB1, ← hB2] at H4
  have HP : Aside0 (Sec B1 seq) := ⟨by rw [hB1]; exact sec_meta _ _ _ _⟩
  have HQ : Aside0 (Sec B2 (seq + 2)) := ⟨by rw [hB2]; exact sec_meta _ _ _ _⟩
  have HE : Aside0 (getM (B2.take cut ++ B1.drop cut) = (0, 0, 0, 0, 40) ∨ getM (B2.take cut ++ B1.drop cut) = getM B1 ∨ getM (B2.take cut ++ B1.drop cut) = getM B2) := ⟨by
    have := HSQ.out
    exact torn_meta B1 B2 seq (seq + 2) cut HP.out.len HQ.out.len HP.out.bytes HQ.out.bytes HP.out.rest HQ.out.rest HQ.out.first HQ.out.last ⟨by omega, by omega⟩ HP.out.first HP.out.last ⟨by omega, by omega⟩ (by omega) hc⟩
  clear hB1 hB2
  go_wp2_with (at_builtin; refine Lib.wpList_append_run _ rfl _ _ _ _ rfl _ _ rfl rfl _ _ (hrun2 _) ?_)
  clear hrun2
  refine (mget64 _ G1 B1 W4 H4.out.2.1 HP.out.len HG1.out HP.out.bytes).mono ?_
  rintro e w5 ⟨rfl, hb5⟩
  obtain ⟨u0, u1, u2, u3, u4, hu⟩ : ∃ x0 x1 x2 x3 x4, getM B1 = (x0, x1, x2, x3, x4) := ⟨_, _, _, _, _, rfl⟩
  obtain ⟨v0, v1, v2, v3, v4, hv⟩ : ∃ x0 x1 x2 x3 x4, getM B2 = (x0, x1, x2, x3, x4) := ⟨_, _, _, _, _, rfl⟩
  rw [hu, hv] at HE
  rw [hu]
  simp only
  obtain ⟨q1, hq1⟩ : ∃ q, q = w5.heap.size := ⟨_, rfl⟩
  obtain ⟨W6, hW6⟩ : ∃ W, W = w5.alloc (.cells #[.int .u64 u0, .int .i64 u1, .int .i64 u2, .int .i64 u3] 52) := ⟨_, rfl⟩
  have hb6 : Below W4.heap.size W4 W6 := by rw [hW6]; exact below_alloc hb5 _
  have H6 := Aside0.mk (And.intro (below_step H4.out.1 hb6) (And.intro (Kd.C_below H4.out.2.1 hb6) (And.intro (Kd.C_below H4.out.2.2 hb6) (show W6.heap[q1]? = some (.cells #[.int .u64 u0, .int .i64 u1, .int .i64 u2, .int .i64 u3] 52) by rw [hW6, hq1]; exact blk_new w5 _))))
  clear hb5 hb6 hu
  go_wp2_with fail
  rw [← hW6, ← hq1]
  clear hW6 hq1
  refine (mget64 _ G2 B2 W6 H6.out.2.2.1 HQ.out.len HG2.out HQ.out.bytes).mono ?_
  rintro e w7 ⟨rfl, hb7⟩
  rw [hv]
  simp only
  obtain ⟨q2, hq2⟩ : ∃ q, q = w7.heap.size := ⟨_, rfl⟩
  obtain ⟨W8, hW8⟩ : ∃ W, W = w7.alloc (.cells #[.int .u64 v0, .int .i64 v1, .int .i64 v2, .int .i64 v3] 52) := ⟨_, rfl⟩
  have hb8 : Below W6.heap.size W6 W8 := by rw [hW8]; exact below_alloc hb7 _
  have H8 := Aside0.mk (And.intro (below_step H6.out.1 hb8) (And.intro (Kd.C_below H6.out.2.1 hb8) (And.intro (Kd.C_below H6.out.2.2.1 hb8) (And.intro (blk_below H6.out.2.2.2 hb8) (show W8.heap[q2]? = some (.cells #[.int .u64 v0, .int .i64 v1, .int .i64 v2, .int .i64 v3] 52) by rw [hW8, hq2]; exact blk_new w7 _)))))
  clear hb7 hb8 hv
  go_upto_region 12 with (fail)
  rw [← hW8, ← hq2]
  clear hW8 hq2
  obtain ⟨iU, hiU, hiS⟩ := Option.map_eq_some_iff.1 sizeByte
  obtain ⟨A1, hcut, hA1⟩ := print_cut (P := Try.prog) 33 5 .i64 Try.underlying33 hiU hiS (some ⟨p1, 0, none⟩) 64 G1 cut hc
  have HA1 := Aside0.mk hA1
  have HLT : Aside0 ((B2.take cut).length = cut) := ⟨by have := HQ.out.len; rw [List.length_take]; omega⟩
  obtain ⟨X, hX⟩ : ∃ X, X = B2.take cut ++ B1.drop cut := ⟨_, rfl⟩
  rw [← hX] at HE
  have HXB : Aside0 (Bytes X) := ⟨by rw [hX]; exact Bytes.append (fun x hx => HQ.out.bytes x (List.mem_of_mem_take hx)) (fun x hx => HP.out.bytes x (List.mem_of_mem_drop hx))⟩
  have HXX := Aside0.mk hX
  obtain ⟨x0, x1, x2, x3, x4, hx⟩ : ∃ x0 x1 x2 x3 x4, getM X = (x0, x1, x2, x3, x4) := ⟨_, _, _, _, _, rfl⟩
  rw [hx] at HE
  have HGX := Aside0.mk hx
  have hG2 := HG2.out
  have hcG2 : (cut : Int) ≤ (G2 : Int) := by omega
  have HTB : Aside0 (∀ w10, Below W8.heap.size W8 w10 → Kd.C (Kd.int .u8) w10 (some ⟨p2, 0, none⟩) cut (B2.take cut)) := ⟨fun w10 hb => by
    have hq9 := Kd.C_below H8.out.2.2.1 hb
    have hq9l := HQ.out.len
    rw [← hq9l] at hq9
    have h3 := Kd.C_take (m := cut) hq9 (by omega)
    have h4 : (B2.take cut).length = cut := by rw [List.length_take]; omega
    rwa [h4] at h3⟩
  have HBS : Aside0 (∀ W, Below W8.heap.size W8 W → W8.heap.size ≤ W.heap.size) := ⟨fun W h => h.size⟩
  have HTA : Aside0 (∀ w10, Below W8.heap.size W8 w10 → Kd.C (Kd.int .u8) w10 A1 (64 - cut) (B1.drop cut)) := ⟨fun w10 hb => Kd.C_of_reads (enc := Value.int .u8) (d := 0) (hA1 w10 .u8 B1 hG1 (C_int (Kd.C_below H8.out.2.1 hb)))⟩
  clear hA1 hX hx hiU hiS
  go_cut [17, 18] from 65 (fun s17 s18 wx => ∃ gg, s17 = .pointer (some ⟨gg, 0, none⟩) ∧ wx.heap[gg]? = some (.cells #[.int .u64 x0, .int .i64 x1, .int .i64 x2, .int .i64 x3] 52 (0, 0)) ∧ s18 = .int .i64 x4 ∧ Below W8.heap.size W8 wx)
  case first =>
    go_region_law (first
      | (refine Kd.R_append_rows_step (Kd.int .u8) (Rr := fun (x : Int) (c : List Value) => c = [.int .u8 x]) (w0 := W8) W8.heap.size (by rfl) (.tmp 66) (.tmp 69) 33 5 (.int .u8 0) 1 rfl Try.underlying33 infoByte rfl (by decide) (by omega) (.slice (some ⟨W8.heap.size, 0, none⟩) 0 0) [] (B2.take cut) (some ⟨p2, 0, none⟩) cut G2 (fun _ => True) (fun _ => False) rfl rfl (empty_R (by first | exact blk_new W8 _ | exact blk_alloc (blk_new W8 _) _) (Nat.le_refl _)) (HTB.out _ (by repeat (first | exact HB11.out | exact HB10.out | exact Below.refl _ _ | apply below_drew1 | apply below_alloc))) (fun _ _ h => h) (fun _ hk => hk.elim) (fun _ _ => trivial) (by repeat (first | exact HB11.out | exact HB10.out | exact Below.refl _ _ | apply below_drew1 | apply below_alloc)) (HBS.out _ (by repeat (first | exact HB11.out | exact HB10.out | exact Below.refl _ _ | apply below_drew1 | apply below_alloc))) (by show (0 + cut) * 1 ≤ 140737488355328; omega) ?_; intro v1' w10 hr10 hb10 hgb hat; have HR10 := Aside0.mk hr10; have HB10 := Aside0.mk hb10; have HK10 := Aside0.mk (keep52_app (empty_R (by first | exact blk_new W8 _ | exact blk_alloc (blk_new W8 _) _) (Nat.le_refl _)) hgb); clear hr10 hb10 hgb hat)
      | (refine Kd.R_append_rows_step (Kd.int .u8) (Rr := fun (x : Int) (c : List Value) => c = [.int .u8 x]) (w0 := W8) W8.heap.size (by rfl) (.tmp 66) (.tmp 69) 33 5 (.int .u8 0) 1 rfl Try.underlying33 infoByte rfl (by decide) (by omega) (.slice (some ⟨W8.heap.size + 1, 0, none⟩) 0 0) [] (B2.take cut) (some ⟨p2, 0, none⟩) cut G2 (fun _ => True) (fun _ => False) rfl rfl empty_R2 (HTB.out _ (by repeat (first | exact HB11.out | exact HB10.out | exact Below.refl _ _ | apply below_drew1 | apply below_alloc))) (fun _ _ h => h) (fun _ hk => hk.elim) (fun _ _ => trivial) (by repeat (first | exact HB11.out | exact HB10.out | exact Below.refl _ _ | apply below_drew1 | apply below_alloc)) (HBS.out _ (by repeat (first | exact HB11.out | exact HB10.out | exact Below.refl _ _ | apply below_drew1 | apply below_alloc))) (by show (0 + cut) * 1 ≤ 140737488355328; omega) ?_; intro v1' w10 hr10 hb10 hgb hat; have HR10 := Aside0.mk hr10; have HB10 := Aside0.mk hb10; have HK10 := Aside0.mk (keep52_app empty_R2 hgb); clear hr10 hb10 hgb hat)
      | (refine Kd.R_append_rows_step (Kd.int .u8) (Rr := fun (x : Int) (c : List Value) => c = [.int .u8 x]) (w0 := W8) W8.heap.size (by rfl) (.tmp 70) (.tmp 73) 33 5 (.int .u8 0) 1 rfl Try.underlying33 infoByte rfl (by decide) (by omega) _ (B2.take cut) (B1.drop cut) A1 (64 - cut) (G1 - cut) (fun _ => True) (fun _ => False) rfl rfl (by first | exact HR10.out | exact Kd.R_below HR10.out (below_alloc (Below.refl _ _) _)) (HTA.out _ (by repeat (first | exact HB11.out | exact HB10.out | exact Below.refl _ _ | apply below_drew1 | apply below_alloc))) (fun _ _ h => h) (fun _ hk => hk.elim) (fun _ _ => trivial) (by repeat (first | exact HB11.out | exact HB10.out | exact Below.refl _ _ | apply below_drew1 | apply below_alloc)) (HBS.out _ (by repeat (first | exact HB11.out | exact HB10.out | exact Below.refl _ _ | apply below_drew1 | apply below_alloc))) (by rw [HLT.out]; omega) ?_; intro v2' w11 hr11 hb11 hgb hat; have HK11 := Aside0.mk (keep52_app (xs := B2.take cut) (base := W8.heap.size) (ok := fun _ => True) (by first | exact HR10.out | exact Kd.R_below HR10.out (below_alloc (Below.refl _ _) _)) hgb); obtain ⟨A3, c3, rfl, hc3, hC3⟩ := Kd.R_reads (d := Kd.int .u8) (xs := X) (by rw [HXX.out]; exact hr11); have HC3 := Aside0.mk hC3; have Hc3 := Aside0.mk hc3; have HB11 := Aside0.mk hb11; clear hr11 hb11 hgb hat hC3 hc3)
      | (go_simp; go_at_call 29; refine (mget_calls A3 c3 X _ (by first | exact HC3.out | exact Kd.C_below HC3.out (below_alloc (Below.refl _ _) _)) Hc3.out HXB.out).mono ?_; rintro e w12 ⟨rfl, hb12⟩; rw [HGX.out]; simp only; have HB12 : Aside0 (Below W8.heap.size W8 w12) := ⟨below_step (by repeat (first | exact HB11.out | exact HB10.out | exact Below.refl _ _ | apply below_drew1 | apply below_alloc)) hb12⟩; (first | (have hz := Aside0.mk (blk_below (HK11.out _ _ (keep52_new2 HK10.out)) hb12)) | (have hz := Aside0.mk (blk_below (HK11.out _ _ (keep52_new1 HK10.out)) hb12)) | (have hz := Aside0.mk (blk_below (HK11.out _ _ (blk_new w10 _)) hb12)) | (have hz := Aside0.mk (blk_below (blk_new w11 _) hb12)) | skip); (try (have z0 := blk_cell hz.out 0; have z1 := blk_cell hz.out 1; have z2 := blk_cell hz.out 2; have z3 := blk_cell hz.out 3; have f0 := blk_frozen hz.out 0; have f1 := blk_frozen hz.out 1; have f2 := blk_frozen hz.out 2; have f3 := blk_frozen hz.out 3; simp only [List.getElem?_toArray, List.getElem?_cons_zero, List.getElem?_cons_succ] at z0 z1 z2 z3)); clear hb12))
    all_goals (go_wp2_with fail; go_meet)
    · exact ⟨_, rfl, blk_new _ _, rfl, below_alloc HB12.out _⟩
    · exact ⟨_, rfl, set4 hz.out, rfl, below_set (below_set (below_set (below_set HB12.out (HBS.out _ HB11.out)) (HBS.out _ HB11.out)) (HBS.out _ HB11.out)) (HBS.out _ HB11.out)⟩
    · exact ⟨_, rfl, set4 hz.out, rfl, below_set (below_set (below_set (below_set HB12.out (HBS.out _ HB10.out)) (HBS.out _ HB10.out)) (HBS.out _ HB10.out)) (HBS.out _ HB10.out)⟩
    · exact ⟨_, rfl, set4 hz.out, rfl, below_set (below_set (below_set (below_set HB12.out (Nat.le_succ _)) (Nat.le_succ _)) (Nat.le_succ _)) (Nat.le_succ _)⟩
    · exact ⟨_, rfl, set4 hz.out, rfl, below_set (below_set (below_set (below_set HB12.out (Nat.le_refl _)) (Nat.le_refl _)) (Nat.le_refl _)) (Nat.le_refl _)⟩
  case rest =>
  obtain ⟨gg, rfl, hgg, rfl, hbx⟩ := hcut
  have hq1 := blk_below H8.out.2.2.2.1 hbx
  have hq2 := blk_below H8.out.2.2.2.2 hbx
  have HBW := Aside0.mk (below_step H8.out.1 hbx)
  have a0 := blk_cell hgg 0; have a1 := blk_cell hgg 1; have a2 := blk_cell hgg 2; have a3 := blk_cell hgg 3
  have b0 := blk_cell hq1 0; have b1 := blk_cell hq1 1; have b2 := blk_cell hq1 2; have b3 := blk_cell hq1 3
  have c0 := blk_cell hq2 0; have c1 := blk_cell hq2 1; have c2 := blk_cell hq2 2; have c3 := blk_cell hq2 3
  simp only [List.getElem?_toArray, List.getElem?_cons_zero, List.getElem?_cons_succ] at a0 a1 a2 a3 b0 b1 b2 b3 c0 c1 c2 c3
  clear hgg hq1 hq2 hbx
  have HH := HE.out
  have HF := Aside0.mk (And.intro (And.intro a0 (And.intro a1 (And.intro a2 a3))) (And.intro (And.intro b0 (And.intro b1 (And.intro b2 b3))) (And.intro c0 (And.intro c1 (And.intro c2 c3)))))
  clear a0 a1 a2 a3 b0 b1 b2 b3 c0 c1 c2 c3
  have FIN : ∀ (wc wd : World), Below w.heap.size w wc → Drawn0 wc wd → Below w.heap.size w wd := fun _ _ h hd => below_step h hd.below
  by_cases e40 : x4 = 40
  · subst e40
    clear HF HE HGX HH
    go_wp2_with fail
    refine (num4_calls 40 _).mono ?_
    rintro e w14 ⟨rfl, hd14⟩
    have HB14 := Aside0.mk (FIN _ _ HBW.out hd14)
    clear hd14
    go_wp2_with fail
    refine (live4_calls _).mono ?_
    rintro e w15 ⟨rfl, hb15⟩
    have HB15 := Aside0.mk (below_step HB14.out hb15)
    clear hb15
    go_wp2_with fail
    go_ret
    exact ⟨rfl, HB15.out⟩
  have b40 : (x4 == 40) = false := by simpa using e40
  by_cases hu : x0 = u0 ∧ x1 = u1 ∧ x2 = u2 ∧ x3 = u3
  · obtain ⟨rfl, rfl, rfl, rfl⟩ := hu
    clear HE HGX HH e40
    go_wp2_with fail
    refine (num4_calls x4 _).mono ?_
    rintro e w14 ⟨rfl, hd14⟩
    have HB14 := Aside0.mk (FIN _ _ HBW.out hd14)
    obtain ⟨⟨a0, a1, a2, a3⟩, ⟨b0, b1, b2, b3⟩, _⟩ := HF.out
    obtain ⟨n14, rfl⟩ := hd14
    go_wp2_with fail
    refine (live4_calls _).mono ?_
    rintro e w15 ⟨rfl, hb15⟩
    have HB15 := Aside0.mk (below_step HB14.out hb15)
    clear hb15
    go_wp2_with fail
    go_ret
    exact ⟨rfl, HB15.out⟩
  have hv : x0 = v0 ∧ x1 = v1 ∧ x2 = v2 ∧ x3 = v3 := by
    simp only [Prod.mk.injEq] at HH
    rcases HH with h | h | h
    · exact absurd h.2.2.2.2 e40
    · exact absurd ⟨h.1, h.2.1, h.2.2.1, h.2.2.2.1⟩ hu
    · exact ⟨h.1, h.2.1, h.2.2.1, h.2.2.2.1⟩
  obtain ⟨rfl, rfl, rfl, rfl⟩ := hv
  obtain ⟨tb, htb⟩ : ∃ b, b = decide (x0 = u0 ∧ x1 = u1 ∧ x2 = u2 ∧ x3 = u3) := ⟨_, rfl⟩
  have htf : decide (x0 = u0 ∧ x1 = u1 ∧ x2 = u2 ∧ x3 = u3) = false := decide_eq_false hu
  clear HE HGX HH e40 htb
  go_wp2_with fail
  refine (num4_calls x4 _).mono ?_
  rintro e w14 ⟨rfl, hd14⟩
  have HB14 := Aside0.mk (FIN _ _ HBW.out hd14)
  obtain ⟨⟨a0, a1, a2, a3⟩, ⟨b0, b1, b2, b3⟩, ⟨c0, c1, c2, c3⟩⟩ := HF.out
  obtain ⟨n14, rfl⟩ := hd14
  go_wp2_with fail
  all_goals (refine (live4_calls _).mono ?_; rintro e w15 ⟨rfl, hb15⟩; have HB15 := Aside0.mk (below_step HB14.out hb15); clear hb15; go_wp2_with fail; go_ret; exact ⟨rfl, HB15.out⟩)
end Go.Proofs.YteimienhaodfcaaK
