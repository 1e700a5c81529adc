/- The meta page's play: both disks, act by act (merged). -/
import Derived.Test.YteimienhaodfcaaKRA
import Derived.Test.YteimienhaodfcaaKMetaS
import Derived.Test.YteimienhaodfcaaKOpen
import Derived.Test.YteimienhaodfcaaPMy
import Derived.Test.YteimienhaodfcaaKMetaP
import Derived.Test.YteimienhaodfcaaKMetaT
import Derived.Test.YteimienhaodfcaaKFlow
import Derived.Test.YteimienhaodfcaaKClone
import Derived.Deep.QuietTactic
import Derived.BigQuiet
import Derived.Outline
import Derived.Deep.RegionHeld3
import Derived.Lib.AppendZerosOnto
import Derived.Lib.SliceRun
import Derived.Lib.Walk
namespace Go.Proofs.YteimienhaodfcaaK
open Go.RowKit Go.Proofs.YteimienhaodfcaaW.PrintWords Go.Proofs.YteimienhaodfcaaW.PrintLast Go.Proofs.YteimienhaodfcaaW.PrintMore Go.Crc
open Go.ChangeMaps (setBlock)
attribute [local go_sem] max2_int min2_int max_two min_two
set_option linter.unusedVariables false
set_option linter.unusedSimpArgs false
variable {w w' : World} {X X' S : Nat → Prop} {d sb mb clock : Nat} {es : Array MapEntry} {safe : List Int} {D : Dk}
theorem rput_calls (s r k d : Int) (w : World) (hs : 0 ≤ s ∧ s < 18446744073709551616) : Calls Try.prog 32 #[.agg #[.int .u64 s, .int .i64 r, .int .i64 k, .int .i64 d]] w fun e w' => e = .returned (.string (strOfNums (metaOf s r k d))) ∧ Below w.heap.size w w' := by
  obtain ⟨n, hn⟩ := Ev.at_ (Go.Proofs.Yteimienhaodfcaa.PMeta.MBy.rput_ev s r k d hs)
  exact Go.Proofs.Yteimienhaodfcaa.PMeta.klaxonref04_Put.calls n s r k d _ w hn
theorem rget_calls4 (l : List Int) (hl : Bytes l) (hb : l.length ≤ 100000) (w : World) : Calls Try.prog 30 #[.string (strOfNums l)] w (GetPost l w) := by
  obtain ⟨n, hn⟩ := Ev.at_ (Go.Proofs.Yteimienhaodfcaa.PMeta.MBy.rget_ev l hl hb)
  exact Go.Proofs.Yteimienhaodfcaa.PMeta.klaxonref04_Get.calls n _ _ _ _ _ _ w hn
set_option maxHeartbeats 400000 in
theorem rroom_calls (s : Int) (w : World) : Calls Try.prog 80 #[.int .i64 s] w fun e w' => e = .returned (.int .i64 (room s)) ∧ Drawn0 w w' := by
  go_enter Try.func80, Try.ntmps80
  by_cases h1 : s < 64
  · have d1 : decide (s < 64) = true := decide_eq_true h1
    go_wp2
    go_ret
    exact ⟨by rw [room, if_pos (.inl h1)]; rfl, by repeat (first | exact Drawn0.refl _ | apply Drawn0.step)⟩
  · have d1 : decide (s < 64) = false := decide_eq_false h1
    by_cases h2 : 8192 < s
    · have d2 : decide (8192 < s) = true := decide_eq_true h2
      go_wp2
      go_ret
      exact ⟨by rw [room, if_pos (.inr h2)]; rfl, by repeat (first | exact Drawn0.refl _ | apply Drawn0.step)⟩
    · have d2 : decide (8192 < s) = false := decide_eq_false h2
      have hw : wrap64 (s - 11) = s - 11 := wrapOk (by omega) (by omega)
      go_wp2
      go_ret
      exact ⟨by rw [room, if_neg (by omega)]; try simp [hw], by repeat (first | exact Drawn0.refl _ | apply Drawn0.step)⟩
section
variable {W W' : World} {Y S : Nat → Prop} {f g1 g2 g3 c1 c2 c3 : Nat} {D : Dk}
set_option maxHeartbeats 1000000 in
theorem rcount_calls (h : RParts W f g1 g2 g3 c1 c2 c3 D) (hwf : WfD D) (per : Int) : Calls Try.prog 48 #[.pointer (some ⟨f, 0, none⟩), .int .i64 per] W (CountPost D per W) := by
  obtain ⟨x0, x1, x2, x3, x4, x5, x6⟩ := h.cells
  have hb3 := hwf.b3; have hb4 := hwf.b4; have hb1 := hwf.b1; have hb2 := hwf.b2
  have HD := Aside0.mk h
  clear h x2 x3 x4 x5 x6
  by_cases h1 : per < 1
  · have d1 : decide (per < 1) = true := decide_eq_true h1
    go_enter Try.func48, Try.ntmps48
    go_wp2_with fail
    go_ret
    exact ⟨by rw [countD, if_pos (.inl h1)]; rfl, Below.refl _ _⟩
  have d1 : decide (per < 1) = false := decide_eq_false h1
  by_cases h2 : 8192 < per
  · have d2 : decide (8192 < per) = true := decide_eq_true h2
    go_enter Try.func48, Try.ntmps48
    go_wp2_with fail
    go_ret
    exact ⟨by rw [countD, if_pos (.inr (.inl h2))]; rfl, Below.refl _ _⟩
  have d2 : decide (8192 < per) = false := decide_eq_false h2
  have hp : 0 ≤ per * (D.size : Int) ∧ per * (D.size : Int) ≤ 8192 * 1024 := ⟨Int.mul_nonneg (by omega) (by omega), Int.mul_le_mul (by omega) (by omega) (by omega) (by omega)⟩
  have hw : IntKind.i64.wrap (per * (D.size : Int)) = per * (D.size : Int) := IntWalk.i64_in _ (by omega)
  have hw2 : wrap64 (per * (D.size : Int)) = per * (D.size : Int) := by unfold wrap64; omega
  go_enter Try.func48, Try.ntmps48
  go_wp2_with fail
  refine (rroom_calls _ _).mono ?_
  rintro e w2 ⟨rfl, hd2⟩
  have HB2 := Aside0.mk hd2.below
  have y1 := pw_cell_below hd2.below x1
  clear hd2
  by_cases h3 : room (per * (D.size : Int)) = 0
  · have d3 : (room (per * (D.size : Int)) == 0) = true := by simpa using h3
    have H3 := Aside0.mk h3
    clear h3
    go_wp2_with fail
    go_ret
    exact ⟨by rw [countD, if_pos (.inr (.inr H3.out))]; rfl, HB2.out⟩
  have d3 : (room (per * (D.size : Int)) == 0) = false := by simpa using h3
  have H3 := Aside0.mk h3
  clear h3
  have hq := Int.ediv_le_self per (show (0 : Int) ≤ (D.sectors : Int) by omega)
  have hq0 : 0 ≤ (D.sectors : Int) / per := Int.ediv_nonneg (by omega) (by omega)
  have e0 : Aside0 (countD D per = if 16384 < (D.sectors : Int) / per then 16384 else (D.sectors : Int) / per) := ⟨by
    rw [countD, if_neg (fun h => h.elim (fun h => by omega) (fun h => h.elim (fun h => by omega) H3.out))]⟩
  by_cases h4 : 16384 < (D.sectors : Int) / per
  · have d4 : decide (16384 < (D.sectors : Int) / per) = true := decide_eq_true h4
    go_wp2_with fail
    go_ret
    exact ⟨by rw [e0.out, if_pos h4]; rfl, HB2.out⟩
  · have d4 : decide (16384 < (D.sectors : Int) / per) = false := decide_eq_false h4
    have H4 := Aside0.mk h4
    go_wp2_with fail
    go_ret
    exact ⟨by rw [e0.out, if_neg (by have := H4.out; omega)]; rfl, HB2.out⟩
theorem RAt.rwrite (h : RAt W Y f D) (hwf : WfD D) (n : Int) (p : List Int) (hp : p.length ≤ 140737488351232) : Calls Try.prog 39 #[.pointer (some ⟨f, 0, none⟩), .int .i64 n, .string (strOfNums p)] W fun e w' => e = .returned (.int .i64 (D.writeE n p)) ∧ RNxt W Y w' f (D.written n p) := by
  obtain ⟨g1, g2, g3, c1, c2, c3, hq, y0, y1, y2, y3⟩ := h
  refine (rwrite_calls hq hwf n p hp).mono ?_
  rintro e w' ⟨he, h1, h2⟩
  exact ⟨he, Y, ⟨g1, g2, g3, c1, c2, c3, h1, y0, y1, y2, y3⟩, fun k hk => .inl hk, h2.mono fun k hk => by rcases hk with rfl | rfl | rfl <;> assumption⟩
theorem RNxt.from (hb : Below W.heap.size W W') {w2 : World} {D' : Dk} (h : RNxt W' Y w2 f D') : RNxt W Y w2 f D' := by
  obtain ⟨Y', h1, h2, h3⟩ := h
  exact ⟨Y', h1, fun k hk => (h2 k hk).imp id (fun h => Nat.le_trans hb.size h), (Frm.of_below hb).then_ h3 fun k hk => .inl hk⟩
theorem RAt.rnxt_same (h : RAt W Y f D) (hb : Below W.heap.size W W') : RNxt W Y W' f D := ⟨Y, h.below hb, fun k hk => .inl hk, Frm.of_below hb⟩
set_option maxHeartbeats 4000000 in
set_option maxRecDepth 100000 in
theorem rmwrite_calls (h : RAt W Y f D) (hwf : WfD D) (per s r k d : Int) (hs : 0 ≤ s ∧ s < 18446744073709551616) :
    Calls Try.prog 38 #[.pointer (some ⟨f, 0, none⟩), .int .i64 per, .agg #[.int .u64 s, .int .i64 r, .int .i64 k, .int .i64 d]] W fun e w' => e = .returned (.int .i64 (D.mwriteE per s r k d)) ∧ RNxt W Y w' f (D.mwritten per s r k d) := by
  have HD := Aside0.mk h; have HS := Aside0.mk hs; have HWF := Aside0.mk hwf
  clear h hs hwf
  obtain ⟨W0, hW0⟩ : ∃ W0, W0 = W.alloc (.cells #[.int .u64 s, .int .i64 r, .int .i64 k, .int .i64 d] 52) := ⟨_, rfl⟩
  obtain ⟨b0, hb0⟩ : ∃ b, b = W.heap.size := ⟨_, rfl⟩
  have hB0 : Below W.heap.size W W0 := by rw [hW0]; exact below_alloc (Below.refl _ _) _
  have hx0 : W0.heap[b0]? = some (.cells #[.int .u64 s, .int .i64 r, .int .i64 k, .int .i64 d] 52) := by rw [hW0, hb0]; exact blk_new W _
  have H0 := Aside0.mk (And.intro hB0 hx0)
  have y0 := blk_cell hx0 0; have y1 := blk_cell hx0 1; have y2 := blk_cell hx0 2; have y3 := blk_cell hx0 3
  simp only [List.getElem?_toArray, List.getElem?_cons_zero, List.getElem?_cons_succ] at y0 y1 y2 y3
  clear hB0 hx0
  have HW0 := Aside0.mk hW0; have HB0 := Aside0.mk hb0
  clear hW0 hb0
  go_enter Try.func38, Try.ntmps38
  go_upto_region 3 with (fail)
  rw [← HW0.out, ← HB0.out]
  go_wp2_with fail
  refine (rput_calls s r k d W0 HS.out).mono ?_
  rintro e w1 ⟨rfl, hb1⟩
  have HB1 := Aside0.mk hb1
  clear y0 y1 y2 y3 hb1
  go_wp2_with fail
  refine (rget_calls4 (metaOf s r k d) (metaB_bytes _ _ _ _) (by rw [metaOf, metaB_length]; decide) w1).mono ?_
  rintro e w2 ⟨rfl, hb2⟩
  obtain ⟨x0, x1, x2, x3, x4, hx⟩ : ∃ x0 x1 x2 x3 x4, getM (metaOf s r k d) = (x0, x1, x2, x3, x4) := ⟨_, _, _, _, _, rfl⟩
  rw [hx]
  have HX := Aside0.mk hx
  clear hx
  obtain ⟨xb, hxb⟩ : ∃ n, n = w2.heap.size := ⟨_, rfl⟩
  obtain ⟨W3, hW3⟩ : ∃ W, W = w2.alloc (.cells #[.int .u64 x0, .int .i64 x1, .int .i64 x2, .int .i64 x3] 52) := ⟨_, rfl⟩
  have hB3 : Below W.heap.size W W3 := by rw [hW3]; exact below_alloc (below_step (below_step H0.out.1 HB1.out) hb2) _
  have hx3 : W3.heap[xb]? = some (.cells #[.int .u64 x0, .int .i64 x1, .int .i64 x2, .int .i64 x3] 52) := by rw [hW3, hxb]; exact blk_new w2 _
  have hm3 : W3.heap[b0]? = some (.cells #[.int .u64 s, .int .i64 r, .int .i64 k, .int .i64 d] 52) := by rw [hW3]; exact blk_alloc (blk_below (blk_below H0.out.2 HB1.out) hb2) _
  have H3 := Aside0.mk (And.intro hB3 (And.intro hx3 hm3))
  clear hB3 hx3 hm3 hb2
  simp only
  go_wp2_with fail
  rw [← hW3, ← hxb]
  clear hW3 hxb
  obtain ⟨g1, g2, g3, c1, c2, c3, hp3, _⟩ := HD.out.below H3.out.1
  refine (rcount_calls hp3 HWF.out per).mono ?_
  clear hp3
  rintro e w4 ⟨rfl, hb4⟩
  have hm4 := blk_below H3.out.2.2 hb4; have hx4 := blk_below H3.out.2.1 hb4
  have H4 := Aside0.mk (below_step H3.out.1 hb4)
  have z0 := blk_cell hx4 0; have z1 := blk_cell hx4 1; have z2 := blk_cell hx4 2; have z3 := blk_cell hx4 3
  have y0 := blk_cell hm4 0; have y1 := blk_cell hm4 1; have y2 := blk_cell hm4 2; have y3 := blk_cell hm4 3
  simp only [List.getElem?_toArray, List.getElem?_cons_zero, List.getElem?_cons_succ] at z0 z1 z2 z3 y0 y1 y2 y3
  clear hm4 hx4 hb4
  have BAD : Aside0 (countD D per < 2 ∨ mOk s r k d = false → D.mwriteE per s r k d = 2 ∧ D.mwritten per s r k d = D) := ⟨fun e1 => ⟨by rw [Dk.mwriteE, if_pos e1], by rw [Dk.mwritten, if_pos e1]⟩⟩
  by_cases hc : countD D per < 2
  · have dc : decide (countD D per < 2) = true := decide_eq_true hc
    have HC := Aside0.mk hc
    clear hc
    go_wp2_with fail
    go_ret
    rw [(BAD.out (.inl HC.out)).1, (BAD.out (.inl HC.out)).2]
    exact ⟨rfl, HD.out.rnxt_same H4.out⟩
  have dc : decide (countD D per < 2) = false := decide_eq_false hc
  have HC := Aside0.mk hc
  clear hc
  by_cases hok : x4 = 0 ∧ x0 = s ∧ x1 = r ∧ x2 = k ∧ x3 = d
  case neg =>
    have e1 := BAD.out (.inr (decide_eq_false (by rw [HX.out]; intro h; simp only [Prod.mk.injEq] at h; exact hok ⟨h.2.2.2.2, h.1, h.2.1, h.2.2.1, h.2.2.2.1⟩)))
    have HE1 := Aside0.mk e1
    by_cases he : x4 = 0
    · have de : (x4 != 0) = false := by simpa using he
      have hne : decide (x0 = s ∧ x1 = r ∧ x2 = k ∧ x3 = d) = false := decide_eq_false (fun h => hok ⟨he, h⟩)
      have hne2 : ¬ (x0 = s ∧ x1 = r ∧ x2 = k ∧ x3 = d) := fun h => hok ⟨he, h⟩
      clear hok he e1
      go_wp2_with fail
      all_goals go_ret
      all_goals rw [HE1.out.1, HE1.out.2]
      all_goals exact ⟨rfl, HD.out.rnxt_same H4.out⟩
    · have de : (x4 != 0) = true := by simpa using he
      clear hok he e1
      go_wp2_with fail
      go_ret
      rw [HE1.out.1, HE1.out.2]
      exact ⟨rfl, HD.out.rnxt_same H4.out⟩
  obtain ⟨rfl, rfl, rfl, rfl, rfl⟩ := hok
  have hper : 1 ≤ per ∧ per ≤ 8192 := by
    have h2 := HC.out
    unfold countD at h2
    by_cases h : per < 1 ∨ 8192 < per ∨ room (per * D.size) = 0
    · rw [if_pos h] at h2; omega
    · constructor <;> omega
  obtain ⟨hper1, hper2⟩ := hper
  have hs0 : 0 ≤ x0 := HS.out.1
  have hp : 0 ≤ x0 % 2 * per ∧ x0 % 2 * per ≤ 8192 := by
    rcases (by omega : x0 % 2 = 0 ∨ x0 % 2 = 1) with h | h <;> rw [h] <;> omega
  obtain ⟨hp1, hp2⟩ := hp
  have hw : IntKind.i64.wrap (x0 % 2 * per) = x0 % 2 * per := IntWalk.i64_in _ (by omega)
  have hw2 : wrap64 (x0 % 2 * per) = x0 % 2 * per := by unfold wrap64; omega
  have e1 : ¬ (countD D per < 2 ∨ mOk x0 x1 x2 x3 = false) := fun h => h.elim (fun h => by have := HC.out; omega) (fun h => by rw [mOk, decide_eq_true HX.out] at h; cases h)
  have HM : Aside0 (D.mwriteE per x0 x1 x2 x3 = D.writeE (x0 % 2 * per) (metaOf x0 x1 x2 x3) ∧ D.mwritten per x0 x1 x2 x3 = D.written (x0 % 2 * per) (metaOf x0 x1 x2 x3)) := ⟨by rw [Dk.mwriteE, if_neg e1], by rw [Dk.mwritten, if_neg e1]⟩
  have HWR : Aside0 (∀ W', Below w4.heap.size w4 W' → Calls Try.prog 39 #[.pointer (some ⟨f, 0, none⟩), .int .i64 (x0 % 2 * per), .string (strOfNums (metaOf x0 x1 x2 x3))] W' fun e w' => e = .returned (.int .i64 (D.writeE (x0 % 2 * per) (metaOf x0 x1 x2 x3))) ∧ RNxt W Y w' f (D.written (x0 % 2 * per) (metaOf x0 x1 x2 x3))) := ⟨fun W' hb => by
    have hbb := below_step H4.out hb
    refine ((HD.out.below hbb).rwrite HWF.out _ _ (by rw [metaOf, metaB_length]; decide)).mono ?_
    rintro e w' ⟨he, h⟩
    exact ⟨he, RNxt.from hbb h⟩⟩
  have HPUT := Aside0.mk (fun W' => rput_calls x0 x1 x2 x3 W' HS.out)
  obtain ⟨M, hM⟩ : ∃ M, M = metaOf x0 x1 x2 x3 := ⟨_, rfl⟩
  obtain ⟨SM, hSM⟩ : ∃ S, S = strOfNums M := ⟨_, rfl⟩
  rw [← hM] at HPUT HWR HM
  rw [← hSM] at HPUT HWR
  have HEW : Aside0 (IntKind.i64.wrap (IntKind.i64.wrap (x0.tmod 2) * per) = x0 % 2 * per) := ⟨by rw [Int.tmod_eq_emod_of_nonneg hs0, IntWalk.i64_in (x0 % 2) (by omega), hw]⟩
  clear e1 hM hSM hw hw2
  go_upto_region 6 with (fail)
  clear z0 z1 z2 z3
  go_region_law (first
    | (go_simp; go_at_call 32; refine (HPUT.out _).mono ?_; rintro e w5 ⟨rfl, hb5⟩; have H5 := Aside0.mk (show Below w4.heap.size w4 w5 from below_step (below_drew (Below.refl _ _)) hb5); have u0 := pw_cell_below H5.out y0; clear hb5)
    | (go_simp; go_at_call 39; rw [HEW.out]; refine (HWR.out _ (by first | exact H5.out | exact below_drew H5.out)).mono ?_; rintro e w6 ⟨rfl, h6⟩; have H6 := Aside0.mk h6; clear h6))
  all_goals go_wp2_with fail
  all_goals go_ret
  all_goals rw [HM.out.1, HM.out.2]
  all_goals exact ⟨rfl, H6.out⟩
end
section
variable {W W' : World} {Y S : Nat → Prop} {f g1 g2 g3 c1 c2 c3 : Nat} {D : Dk}
def RB (D : Dk) (pn k b4 b6 : Nat) (W wr : World) : Prop := wr.heap[b6]? = some (.cells #[.int .u64 (bst D pn k).1, .int .i64 (bst D pn k).2.1, .int .i64 (bst D pn k).2.2.1, .int .i64 (bst D pn k).2.2.2] 52 (0, 0)) ∧ wr.heap[b4]? = some (.cells #[.int .u64 0, .int .i64 0, .int .i64 0, .int .i64 0] 52 (0, 0)) ∧ Below W.heap.size W wr
set_option maxHeartbeats 8000000 in
set_option maxRecDepth 100000 in
theorem rbest_calls (h : RAt W Y f D) (hwf : WfD D) (per : Int) : Calls Try.prog 43 #[.pointer (some ⟨f, 0, none⟩), .int .i64 per] W (BestPost D per W) := by
  have HD := Aside0.mk h; have HWF := Aside0.mk hwf
  clear h hwf
  obtain ⟨W0, hW0⟩ : ∃ W0, W0 = W.alloc (.cells #[.int .u64 0, .int .i64 0, .int .i64 0, .int .i64 0] 52) := ⟨_, rfl⟩
  obtain ⟨b4, hb4⟩ : ∃ b, b = W.heap.size := ⟨_, rfl⟩
  have hB0 : Below W.heap.size W W0 := by rw [hW0]; exact below_alloc (Below.refl _ _) _
  have hx0 : W0.heap[b4]? = some (.cells #[.int .u64 0, .int .i64 0, .int .i64 0, .int .i64 0] 52 (0, 0)) := by rw [hW0, hb4]; exact blk_new W _
  have H0 := Aside0.mk (And.intro hB0 (And.intro hx0 hb4))
  have HW0 := Aside0.mk hW0
  clear hB0 hx0 hW0
  go_enter Try.func43, Try.ntmps43
  go_wp2_with fail
  rw [← HW0.out, ← hb4]
  clear hb4
  obtain ⟨g1, g2, g3, c1, c2, c3, hp3, _⟩ := HD.out.below H0.out.1
  refine (rcount_calls hp3 HWF.out per).mono ?_
  clear hp3
  rintro e w1 ⟨rfl, hb1⟩
  have hx1 := blk_below H0.out.2.1 hb1
  have H1 := Aside0.mk (And.intro (below_step H0.out.1 hb1) hx1)
  have z0 := blk_cell hx1 0; have z1 := blk_cell hx1 1; have z2 := blk_cell hx1 2; have z3 := blk_cell hx1 3
  simp only [List.getElem?_toArray, List.getElem?_cons_zero, List.getElem?_cons_succ] at z0 z1 z2 z3
  have f0 := blk_frozen hx1 0; have f1 := blk_frozen hx1 1; have f2 := blk_frozen hx1 2; have f3 := blk_frozen hx1 3
  clear hx1 hb1
  have hge4 : W.heap.size ≤ b4 := by rw [H0.out.2.2]; exact Nat.le_refl _
  have HGE := Aside0.mk hge4
  clear hge4
  by_cases hc : countD D per < 2
  · have dc : decide (countD D per < 2) = true := decide_eq_true hc
    have HC := Aside0.mk hc
    clear hc
    go_wp2_with fail
    refine bodyPost_ret (v := .tuple #[.agg #[.int .u64 0, .int .i64 0, .int .i64 0, .int .i64 0], .int .i64 2]) (by simp [results, Try.results43, go_sem, z0, z1, z2, z3, f0, f1, f2, f3]) rfl ?_
    have e1 : bestD D per = (0, 0, 0, 0, 2) := by rw [bestD, if_pos HC.out]
    unfold BestPost; rw [e1]
    refine ⟨rfl, ?_⟩
    repeat (first | (with_reducible first | exact H1.out.1 | (refine below_set ?_ HGE.out) | apply below_alloc | apply pw_below_drewN | apply below_drew1) | exact H1.out.1)
  have dc : decide (countD D per < 2) = false := decide_eq_false hc
  have hper : 1 ≤ per ∧ per ≤ 8192 ∧ 2 ≤ (D.sectors : Int) / per := by
    have h2 := hc
    unfold countD at h2
    by_cases h : per < 1 ∨ 8192 < per ∨ room (per * D.size) = 0
    · rw [if_pos h] at h2; omega
    · rw [if_neg h] at h2
      refine ⟨by omega, by omega, ?_⟩
      by_cases h4 : 16384 < (D.sectors : Int) / per
      · omega
      · rw [if_neg h4] at h2; omega
  have HC := Aside0.mk hc
  obtain ⟨pn, hpn⟩ : ∃ pn : Nat, per = pn := ⟨per.toNat, by omega⟩
  subst hpn
  have hp2 : 2 * pn ≤ D.sectors := by
    have h3 := hper.2.2
    have h4 : (2 : Int) * pn ≤ D.sectors := Int.le_trans (Int.mul_le_mul_of_nonneg_right h3 (by omega)) (Int.ediv_mul_le _ (by omega))
    omega
  have HPN := Aside0.mk (And.intro hper.1 (And.intro hper.2.1 hp2))
  clear hc hper hp2
  obtain ⟨W2, hW2⟩ : ∃ W2, W2 = w1.alloc (.cells #[.int .u64 0, .int .i64 0, .int .i64 0, .int .i64 0] 52) := ⟨_, rfl⟩
  obtain ⟨b6, hb6⟩ : ∃ b, b = w1.heap.size := ⟨_, rfl⟩
  have H2 : Aside0 (RB D pn 0 b4 b6 W W2 ∧ W.heap.size ≤ b6 ∧ b4 ≠ b6) := ⟨by
    have hlt := blk_lt H1.out.2
    refine ⟨⟨by rw [hW2, hb6]; exact blk_new w1 _, by rw [hW2]; exact blk_alloc H1.out.2 _, by rw [hW2]; exact below_alloc H1.out.1 _⟩, by rw [hb6]; exact H1.out.1.size, by omega⟩⟩
  have HW2 := Aside0.mk (And.intro hW2 hb6)
  clear hW2
  go_wp2_with fail
  rw [← HW2.out.1, ← hb6]
  clear z0 z1 z2 z3 f0 f1 f2 f3 hb6
  go_loopw [7] (fun i wr => ∃ k : Nat, k ≤ 2 ∧ i = .int .i64 k ∧ (D.dead = true → k = 0) ∧ Aside0 (RB D pn k b4 b6 W wr)) (fun i _ => 2 - (intOf i).toNat)
  case atStart => exact ⟨0, by decide, rfl, fun _ => rfl, ⟨H2.out.1⟩⟩
  case round =>
    obtain ⟨k, hk, rfl, hdk, HK⟩ := hrel
    obtain ⟨b0, b1, b2, b3, hb⟩ : ∃ b0 b1 b2 b3, bst D pn k = (b0, b1, b2, b3) := ⟨_, _, _, _, rfl⟩
    have HB := Aside0.mk hb
    have hK := HK.out
    unfold RB at hK
    rw [hb] at hK
    simp only at hK
    have HKK := Aside0.mk hK
    obtain ⟨n1, n2, n3⟩ := HPN.out
    have y0 := blk_cell hK.1 0; have y1 := blk_cell hK.1 1; have y2 := blk_cell hK.1 2; have y3 := blk_cell hK.1 3
    have z0 := blk_cell hK.2.1 0; have z1 := blk_cell hK.2.1 1; have z2 := blk_cell hK.2.1 2; have z3 := blk_cell hK.2.1 3
    simp only [List.getElem?_toArray, List.getElem?_cons_zero, List.getElem?_cons_succ] at y0 y1 y2 y3 z0 z1 z2 z3
    have q0 := blk_frozen hK.2.1 0; have q1 := blk_frozen hK.2.1 1; have q2 := blk_frozen hK.2.1 2; have q3 := blk_frozen hK.2.1 3
    clear hb hK HK
    by_cases hlt : k < 2
    · have hkp : k * pn < D.sectors := by
        rcases (by omega : k = 0 ∨ k = 1) with rfl | rfl <;> omega
      have e1 : (k : Int) * (pn : Int) = ((k * pn : Nat) : Int) := by simp
      have hb2 := HWF.out.b2
      have hw : IntKind.i64.wrap ((k : Int) * (pn : Int)) = (k : Int) * (pn : Int) := IntWalk.i64_in _ (by rw [e1]; omega)
      have hw2 : wrap64 ((k : Int) * (pn : Int)) = (k : Int) * (pn : Int) := by rw [e1]; unfold wrap64; omega
      have hkq : (k : Int) * (pn : Int) < D.sectors ∧ 0 ≤ (k : Int) * (pn : Int) := by rw [e1]; omega
      have hhas : D.has ((k : Int) * (pn : Int)) = true := by simp [Dk.has]; omega
      have hrd : D.readE ((k : Int) * (pn : Int)) = if D.dead = true then 20 else 0 := by simp [Dk.readE, hhas]
      have hkt : ((k : Int) * (pn : Int)).toNat = k * pn := by rw [e1]; omega
      have HRD := Aside0.mk (And.intro hrd hkt); have HKP := Aside0.mk hkp
      clear e1 hkq hhas hrd hkt n1 n2 n3 hb2 y0 y1 y2 y3 z0 z1 z2 z3 q0 q1 q2 q3
      go_wp2_with fail
      obtain ⟨g1, g2, g3, c1, c2, c3, hp3, _⟩ := HD.out.below HKK.out.2.2
      refine (rread_calls hp3 ((k : Int) * (pn : Int))).mono ?_
      clear hp3
      rintro e w2 ⟨rfl, hd2⟩
      rw [HRD.out.1]
      have hk2 := blk_below HKK.out.1 hd2.below; have hz2 := blk_below HKK.out.2.1 hd2.below
      have H2b := Aside0.mk (And.intro hk2 (And.intro hz2 (below_step HKK.out.2.2 hd2.below)))
      have z0 := blk_cell hz2 0; have z1 := blk_cell hz2 1; have z2 := blk_cell hz2 2; have z3 := blk_cell hz2 3
      simp only [List.getElem?_toArray, List.getElem?_cons_zero, List.getElem?_cons_succ] at z0 z1 z2 z3
      have q0 := blk_frozen hz2 0; have q1 := blk_frozen hz2 1; have q2 := blk_frozen hz2 2; have q3 := blk_frozen hz2 3
      clear hk2 hz2 hd2
      cases hdd : D.dead with
      | true =>
        have HDD := Aside0.mk hdd
        obtain rfl : k = 0 := hdk hdd
        rw [if_pos (show true = true from rfl)]
        clear hdd
        go_wp2_with fail
        refine bodyPost_ret (v := .tuple #[.agg #[.int .u64 0, .int .i64 0, .int .i64 0, .int .i64 0], .int .i64 20]) (by simp [results, Try.results43, go_sem, z0, z1, z2, z3, q0, q1, q2, q3]) rfl ?_
        have e1 : bestD D (pn : Int) = (0, 0, 0, 0, 20) := by rw [bestD, if_neg (by have := HC.out; omega), if_pos HDD.out]
        unfold BestPost; rw [e1]
        refine ⟨rfl, ?_⟩
        repeat (first | (with_reducible first | exact H2b.out.2.2 | (refine below_set ?_ HGE.out) | apply below_alloc | apply pw_below_drewN | apply below_drew1) | exact H2b.out.2.2)
      | false =>
        have HDD := Aside0.mk hdd
        have hrb : D.readB ((k : Int) * (pn : Int)) = D.now (k * pn) := by
          unfold Dk.readB; rw [HRD.out.1, HRD.out.2, if_pos (by rw [hdd]; rfl)]
        rw [if_neg (by decide)]
        have HNB := Aside0.mk (HWF.out.now _ HKP.out).2
        have HNL := Aside0.mk (HWF.out.now _ HKP.out).1
        obtain ⟨L, hL⟩ : ∃ L, L = D.now (k * pn) := ⟨_, rfl⟩
        rw [hrb, ← hL]
        rw [← hL] at HNB HNL
        have HLL := Aside0.mk hL
        clear hdd hrb hdk hL z0 z1 z2 z3 q0 q1 q2 q3
        go_wp2_with fail
        refine (rget_calls4 L HNB.out (by rw [HNL.out]; have := HWF.out.b4; omega) w2).mono ?_
        rintro e w3 ⟨rfl, hb3⟩
        obtain ⟨x0, x1, x2, x3, x4, hx⟩ : ∃ x0 x1 x2 x3 x4, getM L = (x0, x1, x2, x3, x4) := ⟨_, _, _, _, _, rfl⟩
        have hx00 := (getM_range L HNB.out).1
        have hx01 := (getM_range L HNB.out).2
        rw [hx] at hx00 hx01 ⊢
        simp only at hx00 hx01
        have HX := Aside0.mk hx
        obtain ⟨xb, hxb⟩ : ∃ n, n = w3.heap.size := ⟨_, rfl⟩
        obtain ⟨W4, hW4⟩ : ∃ W, W = w3.alloc (.cells #[.int .u64 x0, .int .i64 x1, .int .i64 x2, .int .i64 x3] 52) := ⟨_, rfl⟩
        have hB4 : Below w2.heap.size w2 W4 := by rw [hW4]; exact below_alloc hb3 _
        have hx4 : W4.heap[xb]? = some (.cells #[.int .u64 x0, .int .i64 x1, .int .i64 x2, .int .i64 x3] 52 (0, 0)) := by rw [hW4, hxb]; exact blk_new w3 _
        have hm4 := blk_below H2b.out.1 hB4; have hr4 := blk_below H2b.out.2.1 hB4
        have H4 := Aside0.mk (And.intro hm4 (And.intro hr4 (below_step H2b.out.2.2 hB4)))
        have p0 := blk_cell hx4 0; have p1 := blk_cell hx4 1; have p2 := blk_cell hx4 2; have p3 := blk_cell hx4 3
        have y0 := blk_cell hm4 0; have y1 := blk_cell hm4 1; have y2 := blk_cell hm4 2; have y3 := blk_cell hm4 3
        simp only [List.getElem?_toArray, List.getElem?_cons_zero, List.getElem?_cons_succ] at p0 p1 p2 p3 y0 y1 y2 y3
        have f0 := blk_frozen hm4 0; have f1 := blk_frozen hm4 1; have f2 := blk_frozen hm4 2; have f3 := blk_frozen hm4 3
        have hcw : IntKind.i64.wrap (x0.tmod 2) = x0 % 2 := by rw [Int.tmod_eq_emod_of_nonneg hx00, IntWalk.i64_in (x0 % 2) (by omega)]
        clear hx hB4 hx4 hm4 hr4 hb3
        simp only
        go_upto_region 13 with (fail)
        rw [← hW4, ← hxb]
        clear hW4 hxb
        have KEEP : ∀ hne : ¬ (x4 = 0 ∧ x0 % 2 = (k : Int) ∧ b0 < x0), Aside0 (RB D pn (k + 1) b4 b6 W W4) := fun hne => ⟨by
          have e9 : bst D pn (k + 1) = (b0, b1, b2, b3) := by rw [bst, HB.out, upB, ← HLL.out, HX.out, if_neg (by simp only; exact hne)]
          unfold RB; rw [e9]; exact H4.out⟩
        have HKEEP := Aside0.mk KEEP
        clear KEEP
        by_cases t1 : ¬ x4 = 0
        · have dt1 : (x4 == 0) = false := by simpa using t1
          have H9 := HKEEP.out (fun h => t1 h.1)
          clear HKEEP
          go_wp2_with fail
          go_roundw
          case rel => exact ⟨k + 1, by omega, by go_num, fun hd => absurd hd (by rw [HDD.out]; decide), H9⟩
          case measure => (simp [intOf]; try omega)
        replace t1 := Decidable.not_not.1 t1
        have dt1 : (x4 == 0) = true := by simpa using t1
        by_cases t2 : ¬ x0 % 2 = (k : Int)
        · have dt2 : (x0 % 2 == (k : Int)) = false := by simpa using t2
          have H9 := HKEEP.out (fun h => t2 h.2.1)
          clear HKEEP t2
          go_wp2_with fail
          go_roundw
          case rel => exact ⟨k + 1, by omega, by go_num, fun hd => absurd hd (by rw [HDD.out]; decide), H9⟩
          case measure => (simp [intOf]; try omega)
        replace t2 := Decidable.not_not.1 t2
        have dt2 : (x0 % 2 == (k : Int)) = true := by simpa using t2
        have T2 := Aside0.mk t2
        clear t2
        by_cases t3 : ¬ b0 < x0
        · have dt3 : decide (b0 < x0) = false := decide_eq_false t3
          have H9 := HKEEP.out (fun h => t3 h.2.2)
          clear HKEEP t3
          go_wp2_with fail
          go_roundw
          case rel => exact ⟨k + 1, by omega, by go_num, fun hd => absurd hd (by rw [HDD.out]; decide), H9⟩
          case measure => (simp [intOf]; try omega)
        replace t3 := Decidable.not_not.1 t3
        have dt3 : decide (b0 < x0) = true := decide_eq_true t3
        have e9 : Aside0 (bst D pn (k + 1) = (x0, x1, x2, x3)) := ⟨by rw [bst, HB.out, upB, ← HLL.out, HX.out, if_pos (by simp only; exact ⟨t1, T2.out, t3⟩)]⟩
        clear HKEEP t3
        go_wp2_with fail
        go_roundw
        case rel =>
          refine ⟨k + 1, by omega, by go_num, fun hd => absurd hd (by rw [HDD.out]; decide), ⟨?_⟩⟩
          unfold RB; rw [e9.out]
          refine ⟨set4 H4.out.1, ?_, below_set (below_set (below_set (below_set H4.out.2.2 H2.out.2.1) H2.out.2.1) H2.out.2.1) H2.out.2.1⟩
          have hne := H2.out.2.2
          exact ((((Frm.cellD W4 b6 0 _).setD 1 _).setD 2 _).setD 3 _).blk H4.out.2.1 hne
        case measure => (simp [intOf]; try omega)
    · obtain rfl : k = 2 := by omega
      have hdn : D.dead = false := by
        cases hdd : D.dead with
        | false => rfl
        | true => have := hdk hdd; omega
      have HDN := Aside0.mk hdn
      clear hdn hdk
      by_cases hz : b0 = 0
      · have h0 := (bst_zero D pn 2).2
        rw [HB.out] at h0
        have h1 := h0 hz
        simp only [Prod.mk.injEq] at h1
        obtain ⟨rfl, rfl, rfl, rfl⟩ := h1
        clear h0 hz
        go_wp2_with fail
        refine bodyPost_ret (v := .tuple #[.agg #[.int .u64 0, .int .i64 0, .int .i64 0, .int .i64 0], .int .i64 40]) (by simp [results, Try.results43, go_sem, y0, y1, y2, y3, z0, z1, z2, z3, q0, q1, q2, q3]) rfl ?_
        have e1 : bestD D (pn : Int) = (0, 0, 0, 0, 40) := by rw [bestD, if_neg (by have := HC.out; omega), if_neg (by rw [HDN.out]; decide), Int.toNat_natCast, HB.out]; rfl
        unfold BestPost; rw [e1]
        refine ⟨rfl, ?_⟩
        repeat (first | (with_reducible first | exact HKK.out.2.2 | (refine below_set ?_ HGE.out) | apply below_alloc | apply pw_below_drewN | apply below_drew1) | exact HKK.out.2.2)
      · have HZ := Aside0.mk hz
        have hbz : (b0 == 0) = false := by simpa using hz
        go_wp2_with fail
        refine bodyPost_ret (v := .tuple #[.agg #[.int .u64 b0, .int .i64 b1, .int .i64 b2, .int .i64 b3], .int .i64 0]) (by simp [results, Try.results43, go_sem, y0, y1, y2, y3, z0, z1, z2, z3, q0, q1, q2, q3]) rfl ?_
        have e1 : bestD D (pn : Int) = (b0, b1, b2, b3, 0) := by rw [bestD, if_neg (by have := HC.out; omega), if_neg (by rw [HDN.out]; decide), Int.toNat_natCast, HB.out]; exact if_neg HZ.out
        unfold BestPost; rw [e1]
        refine ⟨rfl, ?_⟩
        repeat (first | (with_reducible first | exact HKK.out.2.2 | (refine below_set ?_ HGE.out) | apply below_alloc | apply pw_below_drewN | apply below_drew1) | exact HKK.out.2.2)
end
set_option maxHeartbeats 1000000 in
theorem rnew_bad (s z : Int) (h : ¬ newOk s z) (w : World) : Calls Try.prog 37 #[.int .i64 s, .int .i64 z] w fun e w' => e = .returned (.tuple #[.pointer none, .int .i64 2]) ∧ Drawn0 w w' := by
  by_cases h1 : s < 1
  · have d1 : decide (s < 1) = true := decide_eq_true h1
    clear h
    go_enter Try.func37, Try.ntmps37
    go_wp2_with fail
    go_ret2
    exact ⟨rfl, by repeat (first | exact Drawn0.refl _ | apply Drawn0.step)⟩
  have d1 : decide (s < 1) = false := decide_eq_false h1
  by_cases h2 : 65536 < s
  · have d2 : decide (65536 < s) = true := decide_eq_true h2
    clear h
    go_enter Try.func37, Try.ntmps37
    go_wp2_with fail
    go_ret2
    exact ⟨rfl, by repeat (first | exact Drawn0.refl _ | apply Drawn0.step)⟩
  have d2 : decide (65536 < s) = false := decide_eq_false h2
  by_cases h3 : z < 64
  · have d3 : decide (z < 64) = true := decide_eq_true h3
    clear h
    go_enter Try.func37, Try.ntmps37
    go_wp2_with fail
    go_ret2
    exact ⟨rfl, by repeat (first | exact Drawn0.refl _ | apply Drawn0.step)⟩
  have d3 : decide (z < 64) = false := decide_eq_false h3
  have d4 : decide (1024 < z) = true := decide_eq_true (by unfold newOk at h; omega)
  clear h
  go_enter Try.func37, Try.ntmps37
  go_wp2_with fail
  go_ret2
  exact ⟨rfl, by repeat (first | exact Drawn0.refl _ | apply Drawn0.step)⟩
theorem wf_of (w : World) {X : Nat → Prop} {d sb mb clock : Nat} {es : Array MapEntry} {safe : List Int} {D : Dk} (h : DParts w X d sb mb es clock safe D) : WfD D := by
  have hsec : ∀ n, n < D.sectors → (D.sec n).length = D.size ∧ Bytes (D.sec n) := fun n hn => by
    rw [← h.sec n hn]
    have hl := h.len
    have h1 : (n + 1) * D.size ≤ D.sectors * D.size := Nat.mul_le_mul_right _ hn
    rw [Nat.add_mul, Nat.one_mul] at h1
    refine ⟨by unfold secOf; rw [List.length_take, List.length_drop]; omega, fun x hx => h.byt x (List.mem_of_mem_drop (List.mem_of_mem_take hx))⟩
  refine ⟨h.b1, h.b2, h.b3, h.b4, fun n hn => ?_, hsec, h.lb⟩
  unfold Dk.now
  cases hf : D.fresh n with
  | none => exact hsec n hn
  | some l =>
    obtain ⟨x, _, b, he⟩ := h.fresh_some hf
    exact ⟨he.len, he.byt⟩
/-- A disk and the reference's, side by side. -/
structure PR (w W : World) (X Y : Nat → Prop) (d f : Nat) (DR DF : Dk) : Prop where
  lx : LX w W X d DR
  ra : RAt W Y f DF
  dis : ∀ k, Y k → ¬ X k
  ylo : ∀ k, Y k → w.heap.size ≤ k
  yhi : ∀ k, Y k → k < W.heap.size
/-- A block beside both. -/
def Own (W : World) (X Y : Nat → Prop) (g : Nat) (o : Obj) : Prop := ¬ X g ∧ ¬ Y g ∧ W.heap[g]? = some o
section
variable {w W W' : World} {X Y : Nat → Prop} {d f g : Nat} {DR DF D' : Dk} {o : Obj}
theorem PR.wf (h : PR w W X Y d f DR DF) : WfD DR := by obtain ⟨sb, mb, es, clock, safe, hp⟩ := h.lx.at_; exact wf_of _ hp
theorem PR.step (h : PR w W X Y d f DR DF) (hb : Below W.heap.size W W') : PR w W' X Y d f DR DF := ⟨h.lx.step hb, h.ra.below hb, h.dis, h.ylo, fun k hk => Nat.lt_of_lt_of_le (h.yhi k hk) hb.size⟩
theorem Own.step (h : Own W X Y g o) (hb : Below W.heap.size W W') : Own W' X Y g o := ⟨h.1, h.2.1, (hb.block g (blk_lt h.2.2)).trans h.2.2⟩
theorem PR.real (h : PR w W X Y d f DR DF) (hn : Nxt w W X W' d D') : ∃ X', PR w W' X' Y d f D' DF ∧ ∀ g o, Own W X Y g o → Own W' X' Y g o := by
  obtain ⟨X', h1, h2, h3⟩ := hn
  refine ⟨X', ⟨h1, h.ra.frm h3 h.dis, fun k hk hx => (h2 k hx).elim (h.dis k hk) (fun hs => by have := h.yhi k hk; omega), h.ylo, fun k hk => Nat.lt_of_lt_of_le (h.yhi k hk) h3.size⟩, fun g o ho => ⟨fun hx => (h2 g hx).elim ho.1 (fun hs => by have := blk_lt ho.2.2; omega), ho.2.1, h3.blk ho.2.2 ho.1⟩⟩
theorem RAt.bound (h : RAt W Y f D') : RAt W (fun k => Y k ∧ k < W.heap.size) f D' := by
  obtain ⟨g1, g2, g3, c1, c2, c3, hp, y0, y1, y2, y3⟩ := h
  exact ⟨g1, g2, g3, c1, c2, c3, hp, ⟨y0, blk_lt hp.hd⟩, ⟨y1, hp.r1.lt⟩, ⟨y2, hp.r2.lt⟩, ⟨y3, hp.r3.lt⟩⟩
theorem PR.ref (h : PR w W X Y d f DR DF) (hn : RNxt W Y W' f D') : ∃ Y', PR w W' X Y' d f DR D' ∧ ∀ g o, Own W X Y g o → Own W' X Y' g o := by
  obtain ⟨Y', h1, h2, h3⟩ := hn
  have hlx : LX w W' X d DR := ⟨h.lx.at_.frm h3 (fun k hx hy => h.dis k hy hx), h.lx.bel.trans (h3.below (fun k hk => h.ylo k hk) h.lx.bel.size), h.lx.lo, fun k hk => Nat.lt_of_lt_of_le (h.lx.hi k hk) h3.size⟩
  refine ⟨fun k => Y' k ∧ k < W'.heap.size, ⟨hlx, h1.bound, fun k hk hx => (h2 k hk.1).elim (fun hy => h.dis k hy hx) (fun hs => by have := h.lx.hi k hx; omega), fun k hk => (h2 k hk.1).elim (h.ylo k) (fun hs => Nat.le_trans h.lx.bel.size hs), fun k hk => hk.2⟩, fun g o ho => ⟨ho.1, fun hy => (h2 g hy.1).elim ho.2.1 (fun hs => by have := blk_lt ho.2.2; omega), h3.blk ho.2.2 ho.2.1⟩⟩
theorem PR.new (h : PR w W X Y d f DR DF) (o : Obj) : Own (W.alloc o) X Y W.heap.size o → True := fun _ => trivial
theorem PR.own (h : PR w W X Y d f DR DF) (cs : Array Value) (t : Nat) : Own (W.alloc (.cells cs t)) X Y W.heap.size (.cells cs t (0, 0)) :=
  ⟨fun hx => by have := h.lx.hi _ hx; omega, fun hy => by have := h.yhi _ hy; omega, blk_new W _⟩
theorem RAt.rarm (h : RAt W Y f DF) (n : Int) : Calls Try.prog 41 #[.pointer (some ⟨f, 0, none⟩), .int .i64 n] W fun e w' => e = .returned (.tuple #[]) ∧ RNxt W Y w' f (DF.armed n) := by
  obtain ⟨g1, g2, g3, c1, c2, c3, hq, y0, y1, y2, y3⟩ := h
  refine (rarm_calls hq n).mono ?_
  rintro e w' ⟨he, h1, h2⟩
  exact ⟨he, Y, ⟨g1, g2, g3, c1, c2, c3, h1, y0, y1, y2, y3⟩, fun k hk => .inl hk, h2.mono fun k hk => by rw [hk]; exact y0⟩
theorem RAt.rcrash (h : RAt W Y f DF) (hwf : WfD DF) (keep : List Int) (torn : List (Int × Int)) (A1 A2 : Option Addr) (k1 k2 : Nat) (hr1 : ∀ W', Kept W W' Y → Kd.C (Kd.int .i64) W' A1 keep.length keep) (hr2 : ∀ W', Kept W W' Y → KT.C W' A2 torn.length torn) (htb : ∀ t ∈ torn, -9223372036854775808 ≤ t.2 ∧ t.2 ≤ 9223372036854775807) :
    Calls Try.prog 42 #[.pointer (some ⟨f, 0, none⟩), .slice A1 keep.length k1, .slice A2 torn.length k2] W fun e w' => e = .returned (.tuple #[]) ∧ RNxt W Y w' f (DF.crashed keep torn) := by
  obtain ⟨g1, g2, g3, c1, c2, c3, hq, y0, y1, y2, y3⟩ := h
  refine (rcrash_calls hq hwf keep torn A1 A2 k1 k2 (fun W' hk => hr1 W' (hk.mono fun k hk => by rw [hk]; exact y2)) (fun W' hk => hr2 W' (hk.mono fun k hk => by rw [hk]; exact y2)) htb).mono ?_
  rintro e w' ⟨he, g1', g3', c1', c3', h1, h2, h3, h4⟩
  exact ⟨he, fun k => Y k ∨ W.heap.size ≤ k, ⟨g1', g2, g3', c1', c2, c3', h1, .inl y0, .inr h2, .inl y2, .inr h3⟩, fun k hk => hk, h4.mono fun k hk => by rcases hk with rfl | rfl <;> assumption⟩
end
def Small4 (l : List A4) : Prop := l.length ≤ 60 ∧ ∀ a ∈ l, a.2.2.2.1.length ≤ 20000
set_option maxHeartbeats 1000000 in
theorem huge4p_calls (A : Option Addr) (c : Nat) (l : List A4) (w : World) (hr : Kd.C KA4 w A l.length l) (hs : ∀ a ∈ l, a.2.2.2.1.length ≤ 140737488351232 ∧ a.2.2.2.2.1.length ≤ 140737488351232 ∧ a.2.2.2.2.2.length ≤ 140737488351232) :
    Calls Try.prog 36 #[.slice A l.length c] w fun e w' => BoolIf (Small4 l) e ∧ Drawn0 w w' := by
  have hlm : l.length ≤ 9223372036854775807 := hr.2.1
  have HR := Aside0.mk hr
  have HS := Aside0.mk hs
  clear hr hs
  go_enter Try.func36, Try.ntmps36
  go_wp2
  go_loopw [3, 4] (fun x i wr => ∃ (y : Int) (k : Nat), k ≤ l.length ∧ x = .int .i64 y ∧ i = .int .i64 k ∧ Aside0 (Drawn0 w wr) ∧ Aside0 (k ≤ 61 ∧ 0 ≤ y ∧ y ≤ k * 422212465053696 ∧ ∀ a ∈ l.take k, (a.2.2.2.1.length : Int) ≤ y)) (fun _ i _ => l.length - (intOf i).toNat)
  case atStart => exact ⟨0, 0, Nat.zero_le _, rfl, rfl, ⟨by repeat (first | exact Drawn0.refl _ | apply Drawn0.step)⟩, ⟨by decide, by decide, by decide, by simp⟩⟩
  case round =>
    obtain ⟨y, k, hk, rfl, rfl, HD, HY⟩ := hrel
    by_cases hlt : k < l.length
    · by_cases h60 : k ≤ 60
      · obtain ⟨ad, hA, Ap, cp, Ak, ck, At, ct, x0, x1, x2, x3, x4, x5, x6, x7, x8, _⟩ := act_get (Kd.C_below HR.out HD.out.below) hlt
        subst hA
        have hsz := HS.out _ (List.getElem_mem hlt)
        have HT : Aside0 (l.take (k + 1) = l.take k ++ [l[k]]) := ⟨List.take_succ_eq_append_getElem hlt⟩
        obtain ⟨n6, hn6⟩ : ∃ n, n = l[k].2.2.2.1.length := ⟨_, rfl⟩
        obtain ⟨n7, hn7⟩ : ∃ n, n = l[k].2.2.2.2.1.length := ⟨_, rfl⟩
        obtain ⟨n8, hn8⟩ : ∃ n, n = l[k].2.2.2.2.2.length := ⟨_, rfl⟩
        have HN6 := Aside0.mk hn6
        rw [← hn6] at x6 hsz; rw [← hn7] at x7 hsz; rw [← hn8] at x8 hsz
        have hy := HY.out
        have hky : ((k : Int)) * 422212465053696 ≤ 25332747903959040 := by omega
        have e1 : IntKind.i64.wrap (y + (n6 : Int)) = y + n6 := IntWalk.i64_in _ (by omega)
        have e2 : IntKind.i64.wrap (y + (n6 : Int) + (n7 : Int)) = y + n6 + n7 := IntWalk.i64_in _ (by omega)
        have e3 : IntKind.i64.wrap (y + (n6 : Int) + (n7 : Int) + (n8 : Int)) = y + n6 + n7 + n8 := IntWalk.i64_in _ (by omega)
        have HY2 : Aside0 (k + 1 ≤ 61 ∧ 0 ≤ y + n6 + n7 + n8 ∧ y + n6 + n7 + n8 ≤ ((k + 1 : Nat) : Int) * 422212465053696 ∧ ∀ a ∈ l.take (k + 1), (a.2.2.2.1.length : Int) ≤ y + n6 + n7 + n8) := ⟨by
          refine ⟨by omega, by omega, by omega, fun a ha => ?_⟩
          rw [HT.out] at ha
          rcases List.mem_append.1 ha with ha | ha
          · have := hy.2.2.2 a ha; omega
          · rw [List.mem_singleton.1 ha, ← HN6.out]; omega⟩
        clear x0 x1 x2 x3 x4 x5 hn6 hn7 hn8 hy hky hsz
        go_wp2_with fail
        go_quiet (fail)
        go_wp2_with fail
        go_roundw
        case rel => exact ⟨_, k + 1, by omega, rfl, by go_num, ⟨by repeat (first | exact HD.out | apply Drawn0.step)⟩, HY2⟩
        case measure => simp [intOf]; omega
      · go_wp2_with fail
        all_goals go_ret
        all_goals exact ⟨⟨true, rfl, fun hb => absurd hb (by decide)⟩, by repeat (first | exact HD.out | apply Drawn0.step)⟩
    · have HE : Aside0 (∀ a ∈ l, (a.2.2.2.1.length : Int) ≤ y) := ⟨by
        have := HY.out.2.2.2
        rwa [List.take_of_length_le (by omega)] at this⟩
      by_cases h60b : 60 < (l.length : Int)
      · have d1 : decide (60 < (l.length : Int)) = true := decide_eq_true h60b
        go_wp2_with fail
        all_goals go_ret
        all_goals exact ⟨⟨true, rfl, fun hb => absurd hb (by decide)⟩, by repeat (first | exact HD.out | apply Drawn0.step)⟩
      · have d1 : decide (60 < (l.length : Int)) = false := decide_eq_false h60b
        by_cases hn : 20000 < y
        · have d2 : decide (20000 < y) = true := decide_eq_true hn
          go_wp2_with fail
          all_goals go_ret
          all_goals exact ⟨⟨true, rfl, fun hb => absurd hb (by decide)⟩, by repeat (first | exact HD.out | apply Drawn0.step)⟩
        · have d2 : decide (20000 < y) = false := decide_eq_false hn
          have HF := Aside0.mk (show Small4 l from ⟨by omega, fun a ha => by have := HE.out a ha; omega⟩)
          go_wp2_with fail
          all_goals go_ret
          all_goals exact ⟨⟨_, rfl, fun _ => HF.out⟩, by repeat (first | exact HD.out | apply Drawn0.step)⟩
set_option maxHeartbeats 4000000 in
theorem plays_big (s z per : Int) (hb : 60 < s ∨ 200 < z) (A : Option Addr) (c : Nat) (l : List A4) (w : World) (hr : Kd.C KA4 w A l.length l)
    (hz : ∀ a ∈ l, a.2.2.2.1.length ≤ 140737488351232 ∧ a.2.2.2.2.1.length ≤ 140737488351232 ∧ a.2.2.2.2.2.length ≤ 140737488351232) :
    Calls Try.prog 11 #[.int .i64 s, .int .i64 z, .int .i64 per, .slice A l.length c] w fun e w' => e = .returned (.bool true) ∧ Below w.heap.size w w' := by
  have HR := Aside0.mk hr; have HZ := Aside0.mk hz
  clear hr hz
  by_cases h60 : 60 < s
  · have d1 : decide (60 < s) = true := decide_eq_true h60
    go_enter Try.func11, Try.ntmps11
    go_wp2_with fail
    refine (huge4p_calls A c l w HR.out HZ.out).mono ?_
    rintro e w1 ⟨⟨b, rfl, _⟩, hd1⟩
    have HB1 := Aside0.mk hd1.below
    clear hd1
    cases b
    all_goals go_wp2_with fail
    all_goals refine (live4_calls _).mono ?_
    all_goals rintro e w2 ⟨rfl, hb2⟩
    all_goals have HB2 := Aside0.mk (below_step HB1.out hb2)
    all_goals clear hb2
    all_goals go_wp2_with fail
    all_goals go_ret
    all_goals exact ⟨rfl, HB2.out⟩
  · have d1 : decide (60 < s) = false := decide_eq_false h60
    have d2 : decide (200 < z) = true := decide_eq_true (by omega)
    go_enter Try.func11, Try.ntmps11
    go_wp2_with fail
    refine (huge4p_calls A c l w HR.out HZ.out).mono ?_
    rintro e w1 ⟨⟨b, rfl, _⟩, hd1⟩
    have HB1 := Aside0.mk hd1.below
    clear hd1
    cases b
    all_goals go_wp2_with fail
    all_goals refine (live4_calls _).mono ?_
    all_goals rintro e w2 ⟨rfl, hb2⟩
    all_goals have HB2 := Aside0.mk (below_step HB1.out hb2)
    all_goals clear hb2
    all_goals go_wp2_with fail
    all_goals go_ret
    all_goals exact ⟨rfl, HB2.out⟩
set_option maxHeartbeats 4000000 in
theorem plays_no (s z per : Int) (hb1 : s ≤ 60) (hb2 : z ≤ 200) (hn : ¬ newOk s z) (A : Option Addr) (c : Nat) (l : List A4) (w : World) (hr : Kd.C KA4 w A l.length l)
    (hz : ∀ a ∈ l, a.2.2.2.1.length ≤ 140737488351232 ∧ a.2.2.2.2.1.length ≤ 140737488351232 ∧ a.2.2.2.2.2.length ≤ 140737488351232) :
    Calls Try.prog 11 #[.int .i64 s, .int .i64 z, .int .i64 per, .slice A l.length c] w fun e w' => e = .returned (.bool true) ∧ Below w.heap.size w w' := by
  have HR := Aside0.mk hr; have HZ := Aside0.mk hz; have HN := Aside0.mk hn
  have d1 : decide (60 < s) = false := decide_eq_false (by omega)
  have d2 : decide (200 < z) = false := decide_eq_false (by omega)
  clear hr hz hn hb1 hb2
  go_enter Try.func11, Try.ntmps11
  go_wp2_with fail
  refine (huge4p_calls A c l w HR.out HZ.out).mono ?_
  rintro e w1 ⟨⟨b, rfl, _⟩, hd1⟩
  have HB1 := Aside0.mk hd1.below
  clear hd1
  cases b with
  | true =>
    go_wp2_with fail
    refine (live4_calls _).mono ?_
    rintro e w2 ⟨rfl, hb2⟩
    have HB2 := Aside0.mk (below_step HB1.out hb2)
    clear hb2
    go_wp2_with fail
    go_ret
    exact ⟨rfl, HB2.out⟩
  | false =>
    go_wp2_with fail
    refine (new_no s z HN.out _).mono ?_
    rintro e w2 ⟨rfl, hb2⟩
    have HB2 := Aside0.mk (below_step HB1.out hb2)
    clear hb2
    go_wp2_with fail
    refine (rnew_bad s z HN.out _).mono ?_
    rintro e w3 ⟨rfl, hb3⟩
    have HB3 := Aside0.mk (below_step HB2.out hb3.below)
    clear hb3
    go_wp2_with fail
    refine (num4_calls _ _).mono ?_
    rintro e w4 ⟨rfl, hb4⟩
    have HB4 := Aside0.mk (below_step HB3.out hb4.below)
    clear hb4
    go_wp2_with fail
    go_loopw [13] (fun i wr => i = .int .i64 0 ∧ Aside0 (Below w.heap.size w wr)) (fun _ _ => 0)
    case atStart => exact ⟨rfl, HB4⟩
    case round =>
    obtain ⟨rfl, HB4⟩ := hrel
    by_cases h0 : (0 : Int) < (l.length : Int)
    all_goals go_wp2_with fail
    all_goals refine (live4_calls _).mono ?_
    all_goals rintro e w5 ⟨rfl, hb5⟩
    all_goals have HB5 := Aside0.mk (below_step HB4.out hb5)
    all_goals clear hb5
    all_goals go_wp2_with fail
    all_goals go_ret
    all_goals exact ⟨rfl, HB5.out⟩

def PlI (w : World) (d f : Nat) (wr : World) : Prop := ∃ X Y D, PR w wr X Y d f D D
theorem rows1p {W : World} {A : Option Addr} {c b2 : Nat} {l : List Int} (hC : Kd.C (Kd.int .u8) W A l.length l) (hc : l.length ≤ c) (h2 : W.heap[b2]? = some (.cells #[.slice A l.length c] 33 (0, 0))) : Kd.C (Kd.slice 5 (Kd.int .u8)) W (some ⟨b2, 0, none⟩) 1 [l] := by
  refine ⟨rfl, by decide, fun _ => ⟨_, rfl, fun j p hj => ?_⟩⟩
  match j, hj with
  | 0, hj =>
    obtain rfl : l = p := by simpa using hj
    refine ⟨[.slice A l.length c], rfl, ⟨_, _, rfl, hc, hC⟩, fun i u hu => ?_⟩
    obtain ⟨rfl, rfl⟩ : i = 0 ∧ u = .slice A l.length c := by
      rcases i with _ | i
      · exact ⟨rfl, by simpa using hu.symm⟩
      · simp at hu
    rw [add_plain, blk_cell h2]; rfl
  | j + 1, hj => simp at hj
set_option maxHeartbeats 8000000 in
set_option maxRecDepth 100000 in
theorem plays_good (s z : Nat) (hs1 : 1 ≤ s) (hs2 : s ≤ 60) (hz1 : 64 ≤ z) (hz2 : z ≤ 200) (per : Int) (A : Option Addr) (c : Nat) (l : List A4) (w : World) (hr : Kd.C KA4 w A l.length l)
    (hz : ∀ a ∈ l, a.2.2.2.1.length ≤ 140737488351232 ∧ a.2.2.2.2.1.length ≤ 140737488351232 ∧ a.2.2.2.2.2.length ≤ 140737488351232)
    (hl : ∀ a ∈ l, (0 ≤ a.2.1.1 ∧ a.2.1.1 < 18446744073709551616) ∧ (-9223372036854775808 ≤ a.2.2.1 ∧ a.2.2.1 ≤ 9223372036854775807) ∧ Bytes a.2.2.2.1 ∧ ∀ t ∈ a.2.2.2.2.2, -9223372036854775808 ≤ t.2 ∧ t.2 ≤ 9223372036854775807) :
    Calls Try.prog 11 #[.int .i64 (s : Int), .int .i64 (z : Int), .int .i64 per, .slice A l.length c] w fun e w' => e = .returned (.bool true) ∧ Below w.heap.size w w' := by
  have hlm : l.length ≤ 9223372036854775807 := hr.2.1
  have d1 : decide (60 < (s : Int)) = false := decide_eq_false (by omega)
  have d2 : decide (200 < (z : Int)) = false := decide_eq_false (by omega)
  have HR := Aside0.mk hr; have HL1 := Aside0.mk hl; have HZ := Aside0.mk hz
  have HSZ := Aside0.mk (And.intro hs1 (And.intro hs2 (And.intro hz1 hz2)))
  clear hr hl hz hs1 hs2 hz1 hz2
  go_enter Try.func11, Try.ntmps11
  go_wp2_with fail
  refine (huge4p_calls A c l w HR.out HZ.out).mono ?_
  rintro e w1 ⟨⟨b, rfl, hsm⟩, hd1⟩
  have HS1 := Aside0.mk hsm
  clear hsm
  cases b with
  | true =>
    have HB1 := Aside0.mk hd1.below
    clear hd1
    go_wp2_with fail
    refine (live4_calls _).mono ?_
    rintro e w2 ⟨rfl, hb2⟩
    have HB2 := Aside0.mk (below_step HB1.out hb2)
    clear hb2
    go_wp2_with fail
    go_ret
    exact ⟨rfl, HB2.out⟩
  | false =>
  have HL0 : Aside0 (∀ a ∈ l, (0 ≤ a.2.1.1 ∧ a.2.1.1 < 18446744073709551616) ∧ (-9223372036854775808 ≤ a.2.2.1 ∧ a.2.2.1 ≤ 9223372036854775807) ∧ (a.2.2.2.1.length ≤ 1099511627776 ∧ Bytes a.2.2.2.1) ∧ ∀ t ∈ a.2.2.2.2.2, -9223372036854775808 ≤ t.2 ∧ t.2 ≤ 9223372036854775807) :=
    ⟨fun a ha => by
      have h1 := HL1.out a ha
      have h2 := (HS1.out rfl).2 a ha
      exact ⟨h1.1, h1.2.1, ⟨by omega, h1.2.2.1⟩, h1.2.2.2⟩⟩
  clear HL1 HS1
  have HB1 := Aside0.mk hd1.below
  clear hd1
  go_wp2_with fail
  refine (LS.new_at HB1.out s z (by have := HSZ.out; omega) (by have := HSZ.out; omega) (by have := HSZ.out; omega) (by have := HSZ.out; omega)).mono ?_
  rintro e w2 ⟨d, rfl, h2, _⟩
  have H2 := Aside0.mk (show LX w w2 _ d (Dk.made s z) from h2.lx)
  clear h2 d1 d2
  go_wp2_with fail
  refine (rnew_ok s z (by have := HSZ.out; omega) (by have := HSZ.out; omega) (by have := HSZ.out; omega) (by have := HSZ.out; omega) w2).mono ?_
  rintro e w3 ⟨f, rfl, hra, hb3⟩
  have H3 : Aside0 (PlI w d f w3) := ⟨⟨_, _, _, H2.out.step hb3, hra.bound, fun k hk hx => by have := hk.1; have := hx.2; omega, fun k hk => Nat.le_trans H2.out.bel.size hk.1, fun k hk => hk.2⟩⟩
  clear hra hb3
  go_wp2_with fail
  refine (num4_calls 0 w3).mono ?_
  rintro e w4 ⟨rfl, hd4⟩
  have H4 : Aside0 (PlI w d f w4) := ⟨by obtain ⟨X, Y, D, h⟩ := H3.out; exact ⟨X, Y, D, h.step hd4.below⟩⟩
  clear hd4
  go_wp2_with fail
  go_loopw [13] (fun i wr => ∃ k : Nat, k ≤ l.length ∧ i = .int .i64 (k : Int) ∧ Aside0 (PlI w d f wr)) (fun i _ => l.length - (intOf i).toNat)
  case atStart => exact ⟨0, Nat.zero_le _, rfl, H4⟩
  case round =>
    obtain ⟨k, hk, rfl, HI⟩ := hrel
    by_cases hlt : k < l.length
    · obtain ⟨X, Y, D, hP⟩ := HI.out
      have HP := Aside0.mk hP
      obtain ⟨ad, hA, Ap, cp, Ak, ck, At, ct, x0, x1, x2, x3, x4, x5, x6, x7, x8, ⟨cp1, kp1⟩, ⟨ck1, kk1⟩, ⟨ct1, kt1⟩⟩ := act_get HR.out hlt
      subst hA
      have HLk := HL0.out _ (List.getElem_mem hlt)
      obtain ⟨y, hy⟩ : ∃ y, y = l[k] := ⟨_, rfl⟩
      rw [← hy] at x0 x1 x2 x3 x4 x5 x6 x7 x8 cp1 kp1 ck1 kk1 ct1 kt1 HLk
      obtain ⟨y0, ⟨ys, yr, yk, yd⟩, yn, yp, yK, yT⟩ := y
      simp only at x0 x1 x2 x3 x4 x5 x6 x7 x8 cp1 kp1 ck1 kk1 ct1 kt1 HLk
      have HLL := Aside0.mk HLk
      have HK1 := Aside0.mk (And.intro (And.intro cp1 kp1) (And.intro (And.intro ck1 kk1) (And.intro ct1 kt1)))
      have a0 := pw_cell_below hP.lx.bel x0; have a1 := pw_cell_below hP.lx.bel x1; have a2 := pw_cell_below hP.lx.bel x2; have a3 := pw_cell_below hP.lx.bel x3; have a4 := pw_cell_below hP.lx.bel x4
      have a5 := pw_cell_below hP.lx.bel x5; have a6 := pw_cell_below hP.lx.bel x6; have a7 := pw_cell_below hP.lx.bel x7; have a8 := pw_cell_below hP.lx.bel x8
      clear hy HLk cp1 kp1 ck1 kk1 ct1 kt1 x0 x1 x2 x3 x4 x5 x6 x7 x8 hP
      have hki : (k : Int) < (l.length : Int) := by omega
      obtain ⟨ga, hga⟩ : ∃ g, g = wr.heap.size := ⟨_, rfl⟩
      obtain ⟨W1, hW1⟩ : ∃ W, W = wr.alloc (.cells #[.int .i64 y0, .int .u64 ys, .int .i64 yr, .int .i64 yk, .int .i64 yd, .int .i64 yn, .slice Ap yp.length cp, .slice Ak yK.length ck, .slice At yT.length ct] 71) := ⟨_, rfl⟩
      have HA := Aside0.mk (show Own W1 X Y ga (.cells #[.int .i64 y0, .int .u64 ys, .int .i64 yr, .int .i64 yk, .int .i64 yd, .int .i64 yn, .slice Ap yp.length cp, .slice Ak yK.length ck, .slice At yT.length ct] 71 (0, 0)) by rw [hW1, hga]; exact HP.out.own _ _)
      have HP1 : Aside0 (PR w W1 X Y d f D D) := ⟨by rw [hW1]; exact HP.out.step (below_alloc (Below.refl _ _) _)⟩
      go_upto_region 11 with (fail)
      rw [← hW1, ← hga]
      clear hW1 hga a0 a1 a2 a3 a4 a5 a6 a7 a8 HP
      have m0 := blk_cell HA.out.2.2 0; have m1 := blk_cell HA.out.2.2 1; have m2 := blk_cell HA.out.2.2 2; have m3 := blk_cell HA.out.2.2 3; have m4 := blk_cell HA.out.2.2 4; have m5 := blk_cell HA.out.2.2 5; have m6 := blk_cell HA.out.2.2 6; have m7 := blk_cell HA.out.2.2 7; have m8 := blk_cell HA.out.2.2 8
      simp only [List.getElem?_toArray, List.getElem?_cons_zero, List.getElem?_cons_succ] at m0 m1 m2 m3 m4 m5 m6 m7 m8
      have HWF := Aside0.mk HP1.out.wf
      have HPc := HP1
      by_cases e0 : y0 = 0
      · subst e0
        have HPc := Aside0.mk (HP1.out.step (below_drew (Below.refl W1.heap.size W1)))
        go_wp2_with fail
        go_region_law (first
          | (go_simp; go_at_call 35; refine (HPc.out.lx.mwrite per ys yr yk yd HLL.out.1).mono ?_; rintro e w5 ⟨rfl, hN⟩; obtain ⟨XN, hpN, hoN⟩ := HPc.out.real hN; have HPc := Aside0.mk hpN; have HA := Aside0.mk (hoN _ _ HA.out); have m1 := blk_cell HA.out.2.2 1; have m2 := blk_cell HA.out.2.2 2; have m3 := blk_cell HA.out.2.2 3; have m4 := blk_cell HA.out.2.2 4; have m5 := blk_cell HA.out.2.2 5; have m6 := blk_cell HA.out.2.2 6; have m7 := blk_cell HA.out.2.2 7; have m8 := blk_cell HA.out.2.2 8; simp only [List.getElem?_toArray, List.getElem?_cons_zero, List.getElem?_cons_succ] at m1 m2 m3 m4 m5 m6 m7 m8; clear hpN hoN hN)
          | (go_simp; go_at_call 33; refine (num4_calls _ _).mono ?_; rintro e w6 ⟨rfl, hN⟩; have HPc := Aside0.mk (HPc.out.step hN.below); have HA := Aside0.mk (HA.out.step hN.below); have m1 := blk_cell HA.out.2.2 1; have m2 := blk_cell HA.out.2.2 2; have m3 := blk_cell HA.out.2.2 3; have m4 := blk_cell HA.out.2.2 4; have m5 := blk_cell HA.out.2.2 5; have m6 := blk_cell HA.out.2.2 6; have m7 := blk_cell HA.out.2.2 7; have m8 := blk_cell HA.out.2.2 8; simp only [List.getElem?_toArray, List.getElem?_cons_zero, List.getElem?_cons_succ] at m1 m2 m3 m4 m5 m6 m7 m8; clear hN)
          | (go_simp; go_at_call 38; refine (rmwrite_calls HPc.out.ra HWF.out per ys yr yk yd HLL.out.1).mono ?_; rintro e w7 ⟨rfl, hN⟩; obtain ⟨YN, hpN, hoN⟩ := HPc.out.ref hN; have HPc := Aside0.mk hpN; have HA := Aside0.mk (hoN _ _ HA.out); have m1 := blk_cell HA.out.2.2 1; have m2 := blk_cell HA.out.2.2 2; have m3 := blk_cell HA.out.2.2 3; have m4 := blk_cell HA.out.2.2 4; have m5 := blk_cell HA.out.2.2 5; have m6 := blk_cell HA.out.2.2 6; have m7 := blk_cell HA.out.2.2 7; have m8 := blk_cell HA.out.2.2 8; simp only [List.getElem?_toArray, List.getElem?_cons_zero, List.getElem?_cons_succ] at m1 m2 m3 m4 m5 m6 m7 m8; clear hpN hoN hN))
        all_goals (
          obtain ⟨Xn, Yn, DN, hPN⟩ : PlI w d f _ := ⟨_, _, _, HPc.out⟩
          have HPN := Aside0.mk hPN
          obtain ⟨p0, p1, p2, p3, p4, hp⟩ : ∃ x0 x1 x2 x3 x4, bestD DN per = (x0, x1, x2, x3, x4) := ⟨_, _, _, _, _, rfl⟩
          have HBD := Aside0.mk hp
          clear hPN hp m1 m2 m3 m4 m5 m6 m7 m8
          go_wp2_with fail
          refine (HPN.out.lx.best per).mono ?_
          rintro e wA ⟨rfl, hbA⟩
          rw [HBD.out]
          simp only
          have HPA := Aside0.mk (HPN.out.step hbA)
          obtain ⟨bx, hbx⟩ : ∃ g, g = wA.heap.size := ⟨_, rfl⟩
          obtain ⟨W8, hW8⟩ : ∃ W, W = wA.alloc (.cells #[.int .u64 p0, .int .i64 p1, .int .i64 p2, .int .i64 p3] 52) := ⟨_, rfl⟩
          have hx8 : W8.heap[bx]? = some (.cells #[.int .u64 p0, .int .i64 p1, .int .i64 p2, .int .i64 p3] 52 (0, 0)) := by rw [hW8, hbx]; exact blk_new wA _
          have HP8 := Aside0.mk (show PR w W8 Xn Yn d f DN DN by rw [hW8]; exact HPA.out.step (below_alloc (Below.refl _ _) _))
          have HX8 := Aside0.mk hx8
          clear hbA hx8
          go_upto_region 28 with (fail)
          rw [← hW8, ← hbx]
          clear hW8 hbx
          go_wp2_with fail
          refine (rbest_calls HP8.out.ra HP8.out.wf per).mono ?_
          rintro e wB ⟨rfl, hbB⟩
          rw [HBD.out]
          simp only
          obtain ⟨W9, hW9⟩ : ∃ W, W = wB.alloc (.cells #[.int .u64 p0, .int .i64 p1, .int .i64 p2, .int .i64 p3] 52) := ⟨_, rfl⟩
          have hb9 : Below W8.heap.size W8 W9 := by rw [hW9]; exact below_alloc hbB _
          have hy9 : W9.heap[wB.heap.size]? = some (.cells #[.int .u64 p0, .int .i64 p1, .int .i64 p2, .int .i64 p3] 52 (0, 0)) := by rw [hW9]; exact blk_new wB _
          have hx9 := blk_below HX8.out hb9
          have HP9 := Aside0.mk (HP8.out.step hb9)
          have z0 := blk_cell hx9 0; have z1 := blk_cell hx9 1; have z2 := blk_cell hx9 2; have z3 := blk_cell hx9 3
          have n0 := blk_cell hy9 0; have n1 := blk_cell hy9 1; have n2 := blk_cell hy9 2; have n3 := blk_cell hy9 3
          simp only [List.getElem?_toArray, List.getElem?_cons_zero, List.getElem?_cons_succ] at z0 z1 z2 z3 n0 n1 n2 n3
          clear hbB hx9 hy9 hb9
          go_upto_region 29 with (fail)
          rw [← hW9]
          clear hW9
          go_wp2_with fail
          refine (num4_calls p4 W9).mono ?_
          rintro e wC ⟨rfl, hdC⟩
          have HPC : Aside0 (PlI w d f wC) := ⟨⟨_, _, _, HP9.out.step hdC.below⟩⟩
          clear hdC z0 z1 z2 z3 n0 n1 n2 n3
          go_wp2_with fail
          go_roundw
          case rel => exact ⟨k + 1, by omega, by go_num, HPC⟩
          case measure => (simp [intOf]; try omega)
        )
      have q0 : (y0 == 0) = false := by simpa using e0
      by_cases e1 : y0 = 1
      · subst e1
        clear e0 q0
        obtain ⟨W2, hW2⟩ : ∃ W, W = W1.alloc (.cells #[.slice Ap yp.length cp] 33) := ⟨_, rfl⟩
        obtain ⟨b2, hb2⟩ : ∃ b, b = W1.heap.size := ⟨_, rfl⟩
        have hbl : Below W1.heap.size W1 W2 := by rw [hW2]; exact below_alloc (Below.refl _ _) _
        have hr2 : Kd.C (Kd.slice 5 (Kd.int .u8)) W2 (some ⟨b2, 0, none⟩) 1 [yp] := rows1p (Kd.C_below HK1.out.1.2 (below_step HP1.out.lx.bel hbl)) HK1.out.1.1 (by rw [hW2, hb2]; exact blk_new W1 _)
        have HPc := Aside0.mk (HP1.out.step hbl)
        have HA := Aside0.mk (HA.out.step hbl)
        have hcw := HPc.out.lx.write yn (some ⟨b2, 0, none⟩) 1 [yp] hr2 (by simpa using HLL.out.2.2.1.1) (by simpa using HLL.out.2.2.1.2)
        have efl : ([yp] : List (List Int)).flatten = yp := by simp
        rw [efl] at hcw
        have HCW := Aside0.mk hcw
        clear hbl hr2 efl hcw
        go_wp2_with fail
        rw [← hW2, ← hb2]
        clear hW2 hb2
        refine HCW.out.mono ?_
        rintro e w5 ⟨rfl, hN⟩
        obtain ⟨XN, hpN, hoN⟩ := HPc.out.real hN; have HPc := Aside0.mk hpN; have HA := Aside0.mk (hoN _ _ HA.out); have m1 := blk_cell HA.out.2.2 1; have m2 := blk_cell HA.out.2.2 2; have m3 := blk_cell HA.out.2.2 3; have m4 := blk_cell HA.out.2.2 4; have m5 := blk_cell HA.out.2.2 5; have m6 := blk_cell HA.out.2.2 6; have m7 := blk_cell HA.out.2.2 7; have m8 := blk_cell HA.out.2.2 8; simp only [List.getElem?_toArray, List.getElem?_cons_zero, List.getElem?_cons_succ] at m1 m2 m3 m4 m5 m6 m7 m8; clear hpN hoN hN
        have hcv : (convert 33 9 (.slice Ap yp.length cp)).run Try.prog w5 = .ok (.string (strOfNums yp)) w5 := Kd.C_string (c := cp) Try.underlying33 Try.underlying5 Try.underlying9 (Kd.C_below HK1.out.1.2 HPc.out.lx.bel)
        go_wp2_with fail
        clear hcv
        refine (HPc.out.ra.rwrite HWF.out yn yp (by have := HLL.out.2.2.1.1; omega)).mono ?_
        rintro e w6 ⟨rfl, hN⟩
        obtain ⟨YN, hpN, hoN⟩ := HPc.out.ref hN; have HPc := Aside0.mk hpN; have HA := Aside0.mk (hoN _ _ HA.out); have m1 := blk_cell HA.out.2.2 1; have m2 := blk_cell HA.out.2.2 2; have m3 := blk_cell HA.out.2.2 3; have m4 := blk_cell HA.out.2.2 4; have m5 := blk_cell HA.out.2.2 5; have m6 := blk_cell HA.out.2.2 6; have m7 := blk_cell HA.out.2.2 7; have m8 := blk_cell HA.out.2.2 8; simp only [List.getElem?_toArray, List.getElem?_cons_zero, List.getElem?_cons_succ] at m1 m2 m3 m4 m5 m6 m7 m8; clear hpN hoN hN
        all_goals (
          obtain ⟨Xn, Yn, DN, hPN⟩ : PlI w d f _ := ⟨_, _, _, HPc.out⟩
          have HPN := Aside0.mk hPN
          obtain ⟨p0, p1, p2, p3, p4, hp⟩ : ∃ x0 x1 x2 x3 x4, bestD DN per = (x0, x1, x2, x3, x4) := ⟨_, _, _, _, _, rfl⟩
          have HBD := Aside0.mk hp
          clear hPN hp m1 m2 m3 m4 m5 m6 m7 m8
          go_wp2_with fail
          refine (HPN.out.lx.best per).mono ?_
          rintro e wA ⟨rfl, hbA⟩
          rw [HBD.out]
          simp only
          have HPA := Aside0.mk (HPN.out.step hbA)
          obtain ⟨bx, hbx⟩ : ∃ g, g = wA.heap.size := ⟨_, rfl⟩
          obtain ⟨W8, hW8⟩ : ∃ W, W = wA.alloc (.cells #[.int .u64 p0, .int .i64 p1, .int .i64 p2, .int .i64 p3] 52) := ⟨_, rfl⟩
          have hx8 : W8.heap[bx]? = some (.cells #[.int .u64 p0, .int .i64 p1, .int .i64 p2, .int .i64 p3] 52 (0, 0)) := by rw [hW8, hbx]; exact blk_new wA _
          have HP8 := Aside0.mk (show PR w W8 Xn Yn d f DN DN by rw [hW8]; exact HPA.out.step (below_alloc (Below.refl _ _) _))
          have HX8 := Aside0.mk hx8
          clear hbA hx8
          go_upto_region 28 with (fail)
          rw [← hW8, ← hbx]
          clear hW8 hbx
          go_wp2_with fail
          refine (rbest_calls HP8.out.ra HP8.out.wf per).mono ?_
          rintro e wB ⟨rfl, hbB⟩
          rw [HBD.out]
          simp only
          obtain ⟨W9, hW9⟩ : ∃ W, W = wB.alloc (.cells #[.int .u64 p0, .int .i64 p1, .int .i64 p2, .int .i64 p3] 52) := ⟨_, rfl⟩
          have hb9 : Below W8.heap.size W8 W9 := by rw [hW9]; exact below_alloc hbB _
          have hy9 : W9.heap[wB.heap.size]? = some (.cells #[.int .u64 p0, .int .i64 p1, .int .i64 p2, .int .i64 p3] 52 (0, 0)) := by rw [hW9]; exact blk_new wB _
          have hx9 := blk_below HX8.out hb9
          have HP9 := Aside0.mk (HP8.out.step hb9)
          have z0 := blk_cell hx9 0; have z1 := blk_cell hx9 1; have z2 := blk_cell hx9 2; have z3 := blk_cell hx9 3
          have n0 := blk_cell hy9 0; have n1 := blk_cell hy9 1; have n2 := blk_cell hy9 2; have n3 := blk_cell hy9 3
          simp only [List.getElem?_toArray, List.getElem?_cons_zero, List.getElem?_cons_succ] at z0 z1 z2 z3 n0 n1 n2 n3
          clear hbB hx9 hy9 hb9
          go_upto_region 29 with (fail)
          rw [← hW9]
          clear hW9
          go_wp2_with fail
          refine (num4_calls p4 W9).mono ?_
          rintro e wC ⟨rfl, hdC⟩
          have HPC : Aside0 (PlI w d f wC) := ⟨⟨_, _, _, HP9.out.step hdC.below⟩⟩
          clear hdC z0 z1 z2 z3 n0 n1 n2 n3
          go_wp2_with fail
          go_roundw
          case rel => exact ⟨k + 1, by omega, by go_num, HPC⟩
          case measure => (simp [intOf]; try omega)
        )
      have q1 : (y0 == 1) = false := by simpa using e1
      by_cases e2 : y0 = 2
      · subst e2
        clear e0 q0 e1 q1
        go_wp2_with fail
        refine (HPc.out.lx.sync).mono ?_
        rintro e w5 ⟨rfl, hN⟩
        obtain ⟨XN, hpN, hoN⟩ := HPc.out.real hN; have HPc := Aside0.mk hpN; have HA := Aside0.mk (hoN _ _ HA.out); have m1 := blk_cell HA.out.2.2 1; have m2 := blk_cell HA.out.2.2 2; have m3 := blk_cell HA.out.2.2 3; have m4 := blk_cell HA.out.2.2 4; have m5 := blk_cell HA.out.2.2 5; have m6 := blk_cell HA.out.2.2 6; have m7 := blk_cell HA.out.2.2 7; have m8 := blk_cell HA.out.2.2 8; simp only [List.getElem?_toArray, List.getElem?_cons_zero, List.getElem?_cons_succ] at m1 m2 m3 m4 m5 m6 m7 m8; clear hpN hoN hN
        go_wp2_with fail
        refine (rsync_calls HPc.out.ra HWF.out).mono ?_
        rintro e w6 ⟨rfl, hN⟩
        obtain ⟨YN, hpN, hoN⟩ := HPc.out.ref hN; have HPc := Aside0.mk hpN; have HA := Aside0.mk (hoN _ _ HA.out); have m1 := blk_cell HA.out.2.2 1; have m2 := blk_cell HA.out.2.2 2; have m3 := blk_cell HA.out.2.2 3; have m4 := blk_cell HA.out.2.2 4; have m5 := blk_cell HA.out.2.2 5; have m6 := blk_cell HA.out.2.2 6; have m7 := blk_cell HA.out.2.2 7; have m8 := blk_cell HA.out.2.2 8; simp only [List.getElem?_toArray, List.getElem?_cons_zero, List.getElem?_cons_succ] at m1 m2 m3 m4 m5 m6 m7 m8; clear hpN hoN hN
        all_goals (
          obtain ⟨Xn, Yn, DN, hPN⟩ : PlI w d f _ := ⟨_, _, _, HPc.out⟩
          have HPN := Aside0.mk hPN
          obtain ⟨p0, p1, p2, p3, p4, hp⟩ : ∃ x0 x1 x2 x3 x4, bestD DN per = (x0, x1, x2, x3, x4) := ⟨_, _, _, _, _, rfl⟩
          have HBD := Aside0.mk hp
          clear hPN hp m1 m2 m3 m4 m5 m6 m7 m8
          go_wp2_with fail
          refine (HPN.out.lx.best per).mono ?_
          rintro e wA ⟨rfl, hbA⟩
          rw [HBD.out]
          simp only
          have HPA := Aside0.mk (HPN.out.step hbA)
          obtain ⟨bx, hbx⟩ : ∃ g, g = wA.heap.size := ⟨_, rfl⟩
          obtain ⟨W8, hW8⟩ : ∃ W, W = wA.alloc (.cells #[.int .u64 p0, .int .i64 p1, .int .i64 p2, .int .i64 p3] 52) := ⟨_, rfl⟩
          have hx8 : W8.heap[bx]? = some (.cells #[.int .u64 p0, .int .i64 p1, .int .i64 p2, .int .i64 p3] 52 (0, 0)) := by rw [hW8, hbx]; exact blk_new wA _
          have HP8 := Aside0.mk (show PR w W8 Xn Yn d f DN DN by rw [hW8]; exact HPA.out.step (below_alloc (Below.refl _ _) _))
          have HX8 := Aside0.mk hx8
          clear hbA hx8
          go_upto_region 28 with (fail)
          rw [← hW8, ← hbx]
          clear hW8 hbx
          go_wp2_with fail
          refine (rbest_calls HP8.out.ra HP8.out.wf per).mono ?_
          rintro e wB ⟨rfl, hbB⟩
          rw [HBD.out]
          simp only
          obtain ⟨W9, hW9⟩ : ∃ W, W = wB.alloc (.cells #[.int .u64 p0, .int .i64 p1, .int .i64 p2, .int .i64 p3] 52) := ⟨_, rfl⟩
          have hb9 : Below W8.heap.size W8 W9 := by rw [hW9]; exact below_alloc hbB _
          have hy9 : W9.heap[wB.heap.size]? = some (.cells #[.int .u64 p0, .int .i64 p1, .int .i64 p2, .int .i64 p3] 52 (0, 0)) := by rw [hW9]; exact blk_new wB _
          have hx9 := blk_below HX8.out hb9
          have HP9 := Aside0.mk (HP8.out.step hb9)
          have z0 := blk_cell hx9 0; have z1 := blk_cell hx9 1; have z2 := blk_cell hx9 2; have z3 := blk_cell hx9 3
          have n0 := blk_cell hy9 0; have n1 := blk_cell hy9 1; have n2 := blk_cell hy9 2; have n3 := blk_cell hy9 3
          simp only [List.getElem?_toArray, List.getElem?_cons_zero, List.getElem?_cons_succ] at z0 z1 z2 z3 n0 n1 n2 n3
          clear hbB hx9 hy9 hb9
          go_upto_region 29 with (fail)
          rw [← hW9]
          clear hW9
          go_wp2_with fail
          refine (num4_calls p4 W9).mono ?_
          rintro e wC ⟨rfl, hdC⟩
          have HPC : Aside0 (PlI w d f wC) := ⟨⟨_, _, _, HP9.out.step hdC.below⟩⟩
          clear hdC z0 z1 z2 z3 n0 n1 n2 n3
          go_wp2_with fail
          go_roundw
          case rel => exact ⟨k + 1, by omega, by go_num, HPC⟩
          case measure => (simp [intOf]; try omega)
        )
      have q2 : (y0 == 2) = false := by simpa using e2
      by_cases e3 : y0 = 3
      · subst e3
        clear e0 q0 e1 q1 e2 q2
        go_wp2_with fail
        refine (HPc.out.lx.arm yn HLL.out.2.1).mono ?_
        rintro e w5 ⟨rfl, hN⟩
        obtain ⟨XN, hpN, hoN⟩ := HPc.out.real hN; have HPc := Aside0.mk hpN; have HA := Aside0.mk (hoN _ _ HA.out); have m1 := blk_cell HA.out.2.2 1; have m2 := blk_cell HA.out.2.2 2; have m3 := blk_cell HA.out.2.2 3; have m4 := blk_cell HA.out.2.2 4; have m5 := blk_cell HA.out.2.2 5; have m6 := blk_cell HA.out.2.2 6; have m7 := blk_cell HA.out.2.2 7; have m8 := blk_cell HA.out.2.2 8; simp only [List.getElem?_toArray, List.getElem?_cons_zero, List.getElem?_cons_succ] at m1 m2 m3 m4 m5 m6 m7 m8; clear hpN hoN hN
        go_wp2_with fail
        refine (HPc.out.ra.rarm yn).mono ?_
        rintro e w6 ⟨rfl, hN⟩
        obtain ⟨YN, hpN, hoN⟩ := HPc.out.ref hN; have HPc := Aside0.mk hpN; have HA := Aside0.mk (hoN _ _ HA.out); have m1 := blk_cell HA.out.2.2 1; have m2 := blk_cell HA.out.2.2 2; have m3 := blk_cell HA.out.2.2 3; have m4 := blk_cell HA.out.2.2 4; have m5 := blk_cell HA.out.2.2 5; have m6 := blk_cell HA.out.2.2 6; have m7 := blk_cell HA.out.2.2 7; have m8 := blk_cell HA.out.2.2 8; simp only [List.getElem?_toArray, List.getElem?_cons_zero, List.getElem?_cons_succ] at m1 m2 m3 m4 m5 m6 m7 m8; clear hpN hoN hN
        all_goals (
          obtain ⟨Xn, Yn, DN, hPN⟩ : PlI w d f _ := ⟨_, _, _, HPc.out⟩
          have HPN := Aside0.mk hPN
          obtain ⟨p0, p1, p2, p3, p4, hp⟩ : ∃ x0 x1 x2 x3 x4, bestD DN per = (x0, x1, x2, x3, x4) := ⟨_, _, _, _, _, rfl⟩
          have HBD := Aside0.mk hp
          clear hPN hp m1 m2 m3 m4 m5 m6 m7 m8
          go_wp2_with fail
          refine (HPN.out.lx.best per).mono ?_
          rintro e wA ⟨rfl, hbA⟩
          rw [HBD.out]
          simp only
          have HPA := Aside0.mk (HPN.out.step hbA)
          obtain ⟨bx, hbx⟩ : ∃ g, g = wA.heap.size := ⟨_, rfl⟩
          obtain ⟨W8, hW8⟩ : ∃ W, W = wA.alloc (.cells #[.int .u64 p0, .int .i64 p1, .int .i64 p2, .int .i64 p3] 52) := ⟨_, rfl⟩
          have hx8 : W8.heap[bx]? = some (.cells #[.int .u64 p0, .int .i64 p1, .int .i64 p2, .int .i64 p3] 52 (0, 0)) := by rw [hW8, hbx]; exact blk_new wA _
          have HP8 := Aside0.mk (show PR w W8 Xn Yn d f DN DN by rw [hW8]; exact HPA.out.step (below_alloc (Below.refl _ _) _))
          have HX8 := Aside0.mk hx8
          clear hbA hx8
          go_upto_region 28 with (fail)
          rw [← hW8, ← hbx]
          clear hW8 hbx
          go_wp2_with fail
          refine (rbest_calls HP8.out.ra HP8.out.wf per).mono ?_
          rintro e wB ⟨rfl, hbB⟩
          rw [HBD.out]
          simp only
          obtain ⟨W9, hW9⟩ : ∃ W, W = wB.alloc (.cells #[.int .u64 p0, .int .i64 p1, .int .i64 p2, .int .i64 p3] 52) := ⟨_, rfl⟩
          have hb9 : Below W8.heap.size W8 W9 := by rw [hW9]; exact below_alloc hbB _
          have hy9 : W9.heap[wB.heap.size]? = some (.cells #[.int .u64 p0, .int .i64 p1, .int .i64 p2, .int .i64 p3] 52 (0, 0)) := by rw [hW9]; exact blk_new wB _
          have hx9 := blk_below HX8.out hb9
          have HP9 := Aside0.mk (HP8.out.step hb9)
          have z0 := blk_cell hx9 0; have z1 := blk_cell hx9 1; have z2 := blk_cell hx9 2; have z3 := blk_cell hx9 3
          have n0 := blk_cell hy9 0; have n1 := blk_cell hy9 1; have n2 := blk_cell hy9 2; have n3 := blk_cell hy9 3
          simp only [List.getElem?_toArray, List.getElem?_cons_zero, List.getElem?_cons_succ] at z0 z1 z2 z3 n0 n1 n2 n3
          clear hbB hx9 hy9 hb9
          go_upto_region 29 with (fail)
          rw [← hW9]
          clear hW9
          go_wp2_with fail
          refine (num4_calls p4 W9).mono ?_
          rintro e wC ⟨rfl, hdC⟩
          have HPC : Aside0 (PlI w d f wC) := ⟨⟨_, _, _, HP9.out.step hdC.below⟩⟩
          clear hdC z0 z1 z2 z3 n0 n1 n2 n3
          go_wp2_with fail
          go_roundw
          case rel => exact ⟨k + 1, by omega, by go_num, HPC⟩
          case measure => (simp [intOf]; try omega)
        )
      have q3 : (y0 == 3) = false := by simpa using e3
      by_cases e4 : y0 = 4
      · subst e4
        clear e0 q0 e1 q1 e2 q2 e3 q3
        go_wp2_with fail
        refine (HPc.out.lx.crash yK yT Ak At ck ct (Kd.C_kept_came (Kd.heap_int _) HK1.out.2.1.2 HPc.out.lx.bel HPc.out.lx.lo) (Kd.C_kept_came heap_KT HK1.out.2.2.2 HPc.out.lx.bel HPc.out.lx.lo) HLL.out.2.2.2).mono ?_
        rintro e w5 ⟨rfl, hN⟩
        obtain ⟨XN, hpN, hoN⟩ := HPc.out.real hN; have HPc := Aside0.mk hpN; have HA := Aside0.mk (hoN _ _ HA.out); have m1 := blk_cell HA.out.2.2 1; have m2 := blk_cell HA.out.2.2 2; have m3 := blk_cell HA.out.2.2 3; have m4 := blk_cell HA.out.2.2 4; have m5 := blk_cell HA.out.2.2 5; have m6 := blk_cell HA.out.2.2 6; have m7 := blk_cell HA.out.2.2 7; have m8 := blk_cell HA.out.2.2 8; simp only [List.getElem?_toArray, List.getElem?_cons_zero, List.getElem?_cons_succ] at m1 m2 m3 m4 m5 m6 m7 m8; clear hpN hoN hN
        go_wp2_with fail
        refine (HPc.out.ra.rcrash HWF.out yK yT Ak At ck ct (Kd.C_kept_came (Kd.heap_int _) HK1.out.2.1.2 HPc.out.lx.bel HPc.out.ylo) (Kd.C_kept_came heap_KT HK1.out.2.2.2 HPc.out.lx.bel HPc.out.ylo) HLL.out.2.2.2).mono ?_
        rintro e w6 ⟨rfl, hN⟩
        obtain ⟨YN, hpN, hoN⟩ := HPc.out.ref hN; have HPc := Aside0.mk hpN; have HA := Aside0.mk (hoN _ _ HA.out); have m1 := blk_cell HA.out.2.2 1; have m2 := blk_cell HA.out.2.2 2; have m3 := blk_cell HA.out.2.2 3; have m4 := blk_cell HA.out.2.2 4; have m5 := blk_cell HA.out.2.2 5; have m6 := blk_cell HA.out.2.2 6; have m7 := blk_cell HA.out.2.2 7; have m8 := blk_cell HA.out.2.2 8; simp only [List.getElem?_toArray, List.getElem?_cons_zero, List.getElem?_cons_succ] at m1 m2 m3 m4 m5 m6 m7 m8; clear hpN hoN hN
        all_goals (
          obtain ⟨Xn, Yn, DN, hPN⟩ : PlI w d f _ := ⟨_, _, _, HPc.out⟩
          have HPN := Aside0.mk hPN
          obtain ⟨p0, p1, p2, p3, p4, hp⟩ : ∃ x0 x1 x2 x3 x4, bestD DN per = (x0, x1, x2, x3, x4) := ⟨_, _, _, _, _, rfl⟩
          have HBD := Aside0.mk hp
          clear hPN hp m1 m2 m3 m4 m5 m6 m7 m8
          go_wp2_with fail
          refine (HPN.out.lx.best per).mono ?_
          rintro e wA ⟨rfl, hbA⟩
          rw [HBD.out]
          simp only
          have HPA := Aside0.mk (HPN.out.step hbA)
          obtain ⟨bx, hbx⟩ : ∃ g, g = wA.heap.size := ⟨_, rfl⟩
          obtain ⟨W8, hW8⟩ : ∃ W, W = wA.alloc (.cells #[.int .u64 p0, .int .i64 p1, .int .i64 p2, .int .i64 p3] 52) := ⟨_, rfl⟩
          have hx8 : W8.heap[bx]? = some (.cells #[.int .u64 p0, .int .i64 p1, .int .i64 p2, .int .i64 p3] 52 (0, 0)) := by rw [hW8, hbx]; exact blk_new wA _
          have HP8 := Aside0.mk (show PR w W8 Xn Yn d f DN DN by rw [hW8]; exact HPA.out.step (below_alloc (Below.refl _ _) _))
          have HX8 := Aside0.mk hx8
          clear hbA hx8
          go_upto_region 28 with (fail)
          rw [← hW8, ← hbx]
          clear hW8 hbx
          go_wp2_with fail
          refine (rbest_calls HP8.out.ra HP8.out.wf per).mono ?_
          rintro e wB ⟨rfl, hbB⟩
          rw [HBD.out]
          simp only
          obtain ⟨W9, hW9⟩ : ∃ W, W = wB.alloc (.cells #[.int .u64 p0, .int .i64 p1, .int .i64 p2, .int .i64 p3] 52) := ⟨_, rfl⟩
          have hb9 : Below W8.heap.size W8 W9 := by rw [hW9]; exact below_alloc hbB _
          have hy9 : W9.heap[wB.heap.size]? = some (.cells #[.int .u64 p0, .int .i64 p1, .int .i64 p2, .int .i64 p3] 52 (0, 0)) := by rw [hW9]; exact blk_new wB _
          have hx9 := blk_below HX8.out hb9
          have HP9 := Aside0.mk (HP8.out.step hb9)
          have z0 := blk_cell hx9 0; have z1 := blk_cell hx9 1; have z2 := blk_cell hx9 2; have z3 := blk_cell hx9 3
          have n0 := blk_cell hy9 0; have n1 := blk_cell hy9 1; have n2 := blk_cell hy9 2; have n3 := blk_cell hy9 3
          simp only [List.getElem?_toArray, List.getElem?_cons_zero, List.getElem?_cons_succ] at z0 z1 z2 z3 n0 n1 n2 n3
          clear hbB hx9 hy9 hb9
          go_upto_region 29 with (fail)
          rw [← hW9]
          clear hW9
          go_wp2_with fail
          refine (num4_calls p4 W9).mono ?_
          rintro e wC ⟨rfl, hdC⟩
          have HPC : Aside0 (PlI w d f wC) := ⟨⟨_, _, _, HP9.out.step hdC.below⟩⟩
          clear hdC z0 z1 z2 z3 n0 n1 n2 n3
          go_wp2_with fail
          go_roundw
          case rel => exact ⟨k + 1, by omega, by go_num, HPC⟩
          case measure => (simp [intOf]; try omega)
        )
      have q4 : (y0 == 4) = false := by simpa using e4
      clear e0 e1 e2 e3 e4
      all_goals (
        obtain ⟨Xn, Yn, DN, hPN⟩ : PlI w d f _ := ⟨_, _, _, HPc.out⟩
        have HPN := Aside0.mk hPN
        obtain ⟨p0, p1, p2, p3, p4, hp⟩ : ∃ x0 x1 x2 x3 x4, bestD DN per = (x0, x1, x2, x3, x4) := ⟨_, _, _, _, _, rfl⟩
        have HBD := Aside0.mk hp
        clear hPN hp m1 m2 m3 m4 m5 m6 m7 m8
        go_wp2_with fail
        refine (HPN.out.lx.best per).mono ?_
        rintro e wA ⟨rfl, hbA⟩
        rw [HBD.out]
        simp only
        have HPA := Aside0.mk (HPN.out.step hbA)
        obtain ⟨bx, hbx⟩ : ∃ g, g = wA.heap.size := ⟨_, rfl⟩
        obtain ⟨W8, hW8⟩ : ∃ W, W = wA.alloc (.cells #[.int .u64 p0, .int .i64 p1, .int .i64 p2, .int .i64 p3] 52) := ⟨_, rfl⟩
        have hx8 : W8.heap[bx]? = some (.cells #[.int .u64 p0, .int .i64 p1, .int .i64 p2, .int .i64 p3] 52 (0, 0)) := by rw [hW8, hbx]; exact blk_new wA _
        have HP8 := Aside0.mk (show PR w W8 Xn Yn d f DN DN by rw [hW8]; exact HPA.out.step (below_alloc (Below.refl _ _) _))
        have HX8 := Aside0.mk hx8
        clear hbA hx8
        go_upto_region 28 with (fail)
        rw [← hW8, ← hbx]
        clear hW8 hbx
        go_wp2_with fail
        refine (rbest_calls HP8.out.ra HP8.out.wf per).mono ?_
        rintro e wB ⟨rfl, hbB⟩
        rw [HBD.out]
        simp only
        obtain ⟨W9, hW9⟩ : ∃ W, W = wB.alloc (.cells #[.int .u64 p0, .int .i64 p1, .int .i64 p2, .int .i64 p3] 52) := ⟨_, rfl⟩
        have hb9 : Below W8.heap.size W8 W9 := by rw [hW9]; exact below_alloc hbB _
        have hy9 : W9.heap[wB.heap.size]? = some (.cells #[.int .u64 p0, .int .i64 p1, .int .i64 p2, .int .i64 p3] 52 (0, 0)) := by rw [hW9]; exact blk_new wB _
        have hx9 := blk_below HX8.out hb9
        have HP9 := Aside0.mk (HP8.out.step hb9)
        have z0 := blk_cell hx9 0; have z1 := blk_cell hx9 1; have z2 := blk_cell hx9 2; have z3 := blk_cell hx9 3
        have n0 := blk_cell hy9 0; have n1 := blk_cell hy9 1; have n2 := blk_cell hy9 2; have n3 := blk_cell hy9 3
        simp only [List.getElem?_toArray, List.getElem?_cons_zero, List.getElem?_cons_succ] at z0 z1 z2 z3 n0 n1 n2 n3
        clear hbB hx9 hy9 hb9
        go_upto_region 29 with (fail)
        rw [← hW9]
        clear hW9
        go_wp2_with fail
        refine (num4_calls p4 W9).mono ?_
        rintro e wC ⟨rfl, hdC⟩
        have HPC : Aside0 (PlI w d f wC) := ⟨⟨_, _, _, HP9.out.step hdC.below⟩⟩
        clear hdC z0 z1 z2 z3 n0 n1 n2 n3
        go_wp2_with fail
        go_roundw
        case rel => exact ⟨k + 1, by omega, by go_num, HPC⟩
        case measure => (simp [intOf]; try omega)
      )
    · obtain ⟨X, Y, D, hP⟩ := HI.out
      have HB := Aside0.mk hP.lx.bel
      have hkf : ¬ ((k : Int) < (l.length : Int)) := by omega
      clear hP hk hlt
      go_wp2_with fail
      refine (live4_calls _).mono ?_
      rintro e w2 ⟨rfl, hb2⟩
      have HB2 := Aside0.mk (below_step HB.out hb2)
      clear hb2
      go_wp2_with fail
      go_ret
      exact ⟨rfl, HB2.out⟩
def WfA4 (a : A4) : Prop := (Lit.int .u64 a.2.1.1).wf = true ∧ (Lit.int .i64 a.2.2.1).wf = true ∧ (a.2.2.2.1.length * 1 ≤ 140737488351232 ∧ ∀ y ∈ a.2.2.2.1, (Lit.int .u8 y).wf = true) ∧ a.2.2.2.2.1.length * 8 ≤ 140737488351232 ∧ (a.2.2.2.2.2.length * 16 ≤ 140737488351232 ∧ ∀ t ∈ a.2.2.2.2.2, (Lit.int .i64 t.2).wf = true)
theorem opens4p_KT : Opens Try.prog (Kd.iso KT id) (fun t => (Lit.int .i64 t.1).wf = true ∧ (Lit.int .i64 t.2).wf = true) 44 :=
  (opens_struct id id (fun _ => rfl) (opensL_cons 3 0 1 (opens_int Try.underlying3 (by kernel_rfl)) rfl (opensL_one 3 1 (opens_int Try.underlying3 (by kernel_rfl)))) Try.underlying44 (by kernel_rfl) rfl).as (fun _ h => h)
theorem opens4p_M4 : Opens Try.prog KM4 (fun m => (Lit.int .u64 m.1).wf = true ∧ (Lit.int .i64 m.2.1).wf = true ∧ (Lit.int .i64 m.2.2.1).wf = true ∧ (Lit.int .i64 m.2.2.2).wf = true) 52 :=
  (opens_struct id id (fun _ => rfl) (opensL_cons 50 0 1 (opens_int Try.underlying50 (by kernel_rfl)) rfl (opensL_cons 3 1 2 (opens_int Try.underlying3 (by kernel_rfl)) rfl (opensL_cons 3 2 3 (opens_int Try.underlying3 (by kernel_rfl)) rfl (opensL_one 3 3 (opens_int Try.underlying3 (by kernel_rfl)))))) Try.underlying52 (by kernel_rfl) rfl).as (fun _ h => h)
theorem opens_A4p : Opens Try.prog KA4 WfA4 71 := by
  have h0 := opens_struct (id : A4 → A4) id (fun _ => rfl) (opensL_cons 3 0 1 (opens_int Try.underlying3 (by kernel_rfl)) rfl (opensL_cons 52 1 5 opens4p_M4 rfl (opensL_cons 3 5 6 (opens_int Try.underlying3 (by kernel_rfl)) rfl
    (opensL_cons 33 6 7 (opens_slice (B := 1) Try.underlying33 (by kernel_rfl) (by kernel_rfl) (opens_int Try.underlying5 (by kernel_rfl))) rfl (opensL_cons 23 7 8 (opens_slice (B := 8) Try.underlying23 (by kernel_rfl) (by kernel_rfl) (opens_int Try.underlying3 (by kernel_rfl))) rfl
      (opensL_one 24 8 (opens_slice (B := 16) Try.underlying24 (by kernel_rfl) (by kernel_rfl) opens4p_KT))))))) Try.underlying71 (by kernel_rfl) rfl
  exact h0.as (fun y h => ⟨h.2.1.1, h.2.2.1, h.2.2.2.1, h.2.2.2.2.1.1, h.2.2.2.2.2.1, fun t ht => (h.2.2.2.2.2.2 t ht).2⟩)
theorem wf4p_i64 {y : Int} (h : (Lit.int .i64 y).wf = true) : -9223372036854775808 ≤ y ∧ y ≤ 9223372036854775807 := by
  simp [Lit.wf, IntKind.min, IntKind.max, IntKind.bits, IntKind.signed] at h; omega
theorem wf4p_u64 {y : Int} (h : (Lit.int .u64 y).wf = true) : 0 ≤ y ∧ y < 18446744073709551616 := by
  simp [Lit.wf, IntKind.min, IntKind.max, IntKind.bits, IntKind.signed] at h; omega
theorem wf4p_u8 {y : Int} (h : (Lit.int .u8 y).wf = true) : 0 ≤ y ∧ y < 256 := by
  simp [Lit.wf, IntKind.min, IntKind.max, IntKind.bits, IntKind.signed] at h; omega
theorem plays_row (s z per : Int) (l : List A4) (A : Option Addr) (c : Nat) (W : World) (hr : Kd.C KA4 W A l.length l) (wf : ∀ a ∈ l, WfA4 a) :
    Calls Try.prog 11 #[.int .i64 s, .int .i64 z, .int .i64 per, .slice A l.length c] W fun e w' => e = .returned (.bool true) ∧ Below W.heap.size W w' := by
  have hz : ∀ a ∈ l, a.2.2.2.1.length ≤ 140737488351232 ∧ a.2.2.2.2.1.length ≤ 140737488351232 ∧ a.2.2.2.2.2.length ≤ 140737488351232 := fun a ha => by
    obtain ⟨_, _, h1, h2, h3, _⟩ := wf a ha
    have h1 := h1.1
    exact ⟨by omega, by omega, by omega⟩
  by_cases hb : 60 < s ∨ 200 < z
  · exact plays_big s z per hb A c l W hr hz
  by_cases hn : newOk s z
  · have hn' := hn
    unfold newOk at hn'
    obtain ⟨sn, rfl⟩ : ∃ n : Nat, s = n := ⟨s.toNat, by omega⟩
    obtain ⟨zn, rfl⟩ : ∃ n : Nat, z = n := ⟨z.toNat, by omega⟩
    exact plays_good sn zn (by omega) (by omega) (by omega) (by omega) per A c l W hr hz (fun a ha => by
      obtain ⟨h0, h1, h2, _, h3⟩ := wf a ha
      exact ⟨wf4p_u64 h0, wf4p_i64 h1, fun x hx => wf4p_u8 (h2.2 x hx), fun t ht => wf4p_i64 (h3.2 t ht)⟩)
  · exact plays_no s z per (by omega) (by omega) hn A c l W hr hz
end Go.Proofs.YteimienhaodfcaaK
