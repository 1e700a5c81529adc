/- page.Count, meta.Write, meta.Best, walked. -/
import Derived.Test.YteimienhaodfcaaKMetaB
import Derived.Test.YteimienhaodfcaaKFlow
import Derived.Test.YteimienhaodfcaaKClone
import Derived.Deep.QuietTactic
import Derived.BigQuiet
import Derived.Deep.RegionHeld3
import Derived.Lib.AppendZerosOnto
import Derived.Lib.SliceRun
import Derived.Lib.Walk
namespace Go.Proofs.YteimienhaodfcaaK
open Go.RowKit Go.Proofs.YteimienhaodfcaaW.PrintWords Go.Proofs.YteimienhaodfcaaW.PrintLast Go.Proofs.YteimienhaodfcaaW.PrintMore Go.Crc
open Go.ChangeMaps (setBlock)
attribute [local go_sem] max2_int min2_int max_two min_two
set_option linter.unusedVariables false
set_option linter.unusedSimpArgs false
variable {w w' : World} {X X' S : Nat → Prop} {d sb mb clock : Nat} {es : Array MapEntry} {safe : List Int} {D : Dk}
def countD (D : Dk) (per : Int) : Int := if per < 1 ∨ 8192 < per ∨ room (per * D.size) = 0 then 0 else if 16384 < (D.sectors : Int) / per then 16384 else (D.sectors : Int) / per
def CountPost (D : Dk) (per : Int) (w : World) (e : Ending) (w' : World) : Prop := e = .returned (.int .i64 (countD D per)) ∧ Below w.heap.size w w'
set_option maxHeartbeats 1000000 in
theorem count_calls {w : World} {X : Nat → Prop} {d sb mb clock : Nat} {es : Array MapEntry} {safe : List Int} {D : Dk} (h : DParts w X d sb mb es clock safe D) (per : Int) : Calls Try.prog 47 #[.pointer (some ⟨d, 0, none⟩), .int .i64 per] w (CountPost D per w) := by
  have HD := Aside0.mk h
  have hb3 := h.b3; have hb4 := h.b4; have hb1 := h.b1; have hb2 := h.b2
  clear h
  by_cases h1 : per < 1
  · have d1 : decide (per < 1) = true := decide_eq_true h1
    go_enter Try.func47, Try.ntmps47
    go_wp2_with fail
    go_ret
    exact ⟨by rw [countD, if_pos (.inl h1)]; rfl, Below.refl _ _⟩
  have d1 : decide (per < 1) = false := decide_eq_false h1
  by_cases h2 : 8192 < per
  · have d2 : decide (8192 < per) = true := decide_eq_true h2
    go_enter Try.func47, Try.ntmps47
    go_wp2_with fail
    go_ret
    exact ⟨by rw [countD, if_pos (.inr (.inl h2))]; rfl, Below.refl _ _⟩
  have d2 : decide (8192 < per) = false := decide_eq_false h2
  have hp : 0 ≤ per * (D.size : Int) ∧ per * (D.size : Int) ≤ 8192 * 1024 := ⟨Int.mul_nonneg (by omega) (by omega), Int.mul_le_mul (by omega) (by omega) (by omega) (by omega)⟩
  have hw : IntKind.i64.wrap (per * (D.size : Int)) = per * (D.size : Int) := IntWalk.i64_in _ (by omega)
  have hw2 : wrap64 (per * (D.size : Int)) = per * (D.size : Int) := by unfold wrap64; omega
  go_enter Try.func47, Try.ntmps47
  go_wp2_with fail
  refine (size_calls HD.out).mono ?_
  rintro e w1 ⟨rfl, hd1⟩
  have HD1 := Aside0.mk (HD.out.frm (S := fun _ => False) (Frm.of_below hd1.below) (fun _ _ h => h)); have HB1 := Aside0.mk hd1.below
  clear hd1
  go_wp2_with fail
  refine (room_calls _ _).mono ?_
  rintro e w2 ⟨rfl, hd2⟩
  have HD2 := Aside0.mk (HD1.out.frm (S := fun _ => False) (Frm.of_below hd2.below) (fun _ _ h => h)); have HB2 := Aside0.mk (below_step HB1.out hd2.below)
  clear hd2
  by_cases h3 : room (per * (D.size : Int)) = 0
  · have d3 : (room (per * (D.size : Int)) == 0) = true := by simpa using h3
    have H3 := Aside0.mk h3
    clear h3
    go_wp2_with fail
    go_ret
    exact ⟨by rw [countD, if_pos (.inr (.inr H3.out))]; rfl, HB2.out⟩
  have d3 : (room (per * (D.size : Int)) == 0) = false := by simpa using h3
  have H3 := Aside0.mk h3
  clear h3
  go_wp2_with fail
  refine (sectors_calls HD2.out).mono ?_
  rintro e w3 ⟨rfl, hd3⟩
  have HB3 := Aside0.mk (below_step HB2.out hd3.below)
  clear hd3
  have hq := Int.ediv_le_self per (show (0 : Int) ≤ (D.sectors : Int) by omega)
  have hq0 : 0 ≤ (D.sectors : Int) / per := Int.ediv_nonneg (by omega) (by omega)
  have e0 : Aside0 (countD D per = if 16384 < (D.sectors : Int) / per then 16384 else (D.sectors : Int) / per) := ⟨by
    rw [countD, if_neg (fun h => h.elim (fun h => by omega) (fun h => h.elim (fun h => by omega) H3.out))]⟩
  by_cases h4 : 16384 < (D.sectors : Int) / per
  · have d4 : decide (16384 < (D.sectors : Int) / per) = true := decide_eq_true h4
    go_wp2_with fail
    go_ret
    exact ⟨by rw [e0.out, if_pos h4]; rfl, HB3.out⟩
  · have d4 : decide (16384 < (D.sectors : Int) / per) = false := decide_eq_false h4
    have H4 := Aside0.mk h4
    go_wp2_with fail
    go_ret
    exact ⟨by rw [e0.out, if_neg (by have := H4.out; omega)]; rfl, HB3.out⟩
def metaOf (s r k d : Int) : List Int := metaB s (IntKind.u64.wrap r) (IntKind.u64.wrap k) (IntKind.u64.wrap d)
def mOk (s r k d : Int) : Bool := decide (getM (metaOf s r k d) = (s, r, k, d, 0))
namespace Dk
def mwriteE (D : Dk) (per s r k d : Int) : Int := if countD D per < 2 ∨ mOk s r k d = false then 2 else D.writeE (s % 2 * per) (metaOf s r k d)
def mwritten (D : Dk) (per s r k d : Int) : Dk := if countD D per < 2 ∨ mOk s r k d = false then D else D.written (s % 2 * per) (metaOf s r k d)
end Dk
def MWPost (X : Nat → Prop) (dd : Nat) (D : Dk) (per s r k d : Int) (w : World) (e : Ending) (w' : World) : Prop := e = .returned (.int .i64 (D.mwriteE per s r k d)) ∧ DAt w' (fun k => X k ∨ w.heap.size ≤ k) dd (D.mwritten per s r k d) ∧ Frm X w w'
theorem mwrite_nil (per : Int) (m : Value) (s r k d : Int) (w : World) : Calls Try.prog 35 #[.pointer none, .int .i64 per, .agg #[.int .u64 s, .int .i64 r, .int .i64 k, .int .i64 d]] w fun e w' => e = .returned (.int .i64 7) ∧ Below w.heap.size w w' := by
  go_enter Try.func35, Try.ntmps35
  go_wp2
  go_ret
  exact ⟨rfl, by repeat (first | (with_reducible first | exact Below.refl _ _ | apply below_alloc | apply pw_below_drewN | apply below_drew1) | exact Below.refl _ _)⟩
theorem best_nil (per : Int) (w : World) : Calls Try.prog 34 #[.pointer none, .int .i64 per] w fun e w' => e = .returned (.tuple #[.agg #[.int .u64 0, .int .i64 0, .int .i64 0, .int .i64 0], .int .i64 7]) ∧ Below w.heap.size w w' := by
  go_enter Try.func34, Try.ntmps34
  go_wp2
  refine bodyPost_ret (v := .tuple #[.agg #[.int .u64 0, .int .i64 0, .int .i64 0, .int .i64 0], .int .i64 7]) (by simp [results, Try.results34, go_sem]) rfl ⟨rfl, ?_⟩
  repeat (first | (with_reducible first | exact Below.refl _ _ | apply below_alloc | apply pw_below_drewN | apply below_drew1) | exact Below.refl _ _)
theorem blk_C36 {w : World} {g : Nat} {l : List Int} (hb : Blk w g l) (hl : l.length = 36) : Kd.C (Kd.int .u8) w (some ⟨g, 0, none⟩) 36 l := by
  have := blk_C hb (by rw [hl]; decide) 0 36 (by rw [hl]; decide)
  rwa [List.drop_zero, List.take_of_length_le (by rw [hl]; decide)] at this
theorem mget36 (g : Nat) (l : List Int) (w : World) (hb : Blk w g l) (hl : l.length = 36) (hby : Bytes l) : Calls Try.prog 29 #[.slice (some ⟨g, 0, none⟩) 36 36] w (GetPost l w) := by
  have := mget_calls (some ⟨g, 0, none⟩) 36 l w (by rw [hl]; exact blk_C36 hb hl) (by rw [hl]; decide) hby
  rwa [hl] at this
set_option maxHeartbeats 4000000 in
set_option maxRecDepth 100000 in
theorem mwrite_calls {w : World} {X : Nat → Prop} {dd sb mb clock : Nat} {es : Array MapEntry} {safe : List Int} {D : Dk} (h : DParts w X dd sb mb es clock safe D) (per s r k d : Int) (hs : 0 ≤ s ∧ s < 18446744073709551616) :
    Calls Try.prog 35 #[.pointer (some ⟨dd, 0, none⟩), .int .i64 per, .agg #[.int .u64 s, .int .i64 r, .int .i64 k, .int .i64 d]] w (MWPost X dd D per s r k d w) := by
  have HD := Aside0.mk h; have HS := Aside0.mk hs
  clear h hs
  obtain ⟨W0, hW0⟩ : ∃ W, W = w.alloc (.cells #[.int .u64 s, .int .i64 r, .int .i64 k, .int .i64 d] 52) := ⟨_, rfl⟩
  have hB0 : Below w.heap.size w W0 := by rw [hW0]; exact below_alloc (Below.refl _ _) _
  have hx0 : W0.heap[w.heap.size]? = some (.cells #[.int .u64 s, .int .i64 r, .int .i64 k, .int .i64 d] 52) := by rw [hW0]; exact blk_new w _
  have H0 := Aside0.mk (And.intro hB0 hx0)
  clear hB0 hx0
  go_enter Try.func35, Try.ntmps35
  go_wp2_with fail
  rw [← hW0]
  clear hW0
  refine (mput_calls s r k d W0 HS.out).mono ?_
  rintro e w1 ⟨g, rfl, hg1, hbk1, hb1⟩
  have HK1 := Aside0.mk (And.intro hg1 (And.intro hbk1 hb1))
  clear hg1 hbk1 hb1
  go_wp2_with fail
  refine (mget36 g (metaOf s r k d) w1 HK1.out.2.1 (metaB_length _ _ _ _) (metaB_bytes _ _ _ _)).mono ?_
  rintro e w2 ⟨rfl, hb2⟩
  obtain ⟨x0, x1, x2, x3, x4, hx⟩ : ∃ x0 x1 x2 x3 x4, getM (metaOf s r k d) = (x0, x1, x2, x3, x4) := ⟨_, _, _, _, _, rfl⟩
  rw [hx]
  have HX := Aside0.mk hx
  clear hx
  obtain ⟨xb, hxb⟩ : ∃ n, n = w2.heap.size := ⟨_, rfl⟩
  obtain ⟨W3, hW3⟩ : ∃ W, W = w2.alloc (.cells #[.int .u64 x0, .int .i64 x1, .int .i64 x2, .int .i64 x3] 52) := ⟨_, rfl⟩
  have hB3 : Below w.heap.size w W3 := by rw [hW3]; exact below_alloc (below_step (below_step H0.out.1 HK1.out.2.2) hb2) _
  have hx3 : W3.heap[xb]? = some (.cells #[.int .u64 x0, .int .i64 x1, .int .i64 x2, .int .i64 x3] 52) := by rw [hW3, hxb]; exact blk_new w2 _
  have hm3 : W3.heap[w.heap.size]? = some (.cells #[.int .u64 s, .int .i64 r, .int .i64 k, .int .i64 d] 52) := by rw [hW3]; exact blk_alloc (blk_below (blk_below H0.out.2 HK1.out.2.2) hb2) _
  have hg3 : Blk W3 g (metaOf s r k d) := by rw [hW3]; exact blk_alloc (blk_below HK1.out.2.1 hb2) _
  have H3 := Aside0.mk (And.intro hB3 (And.intro hx3 (And.intro hm3 hg3)))
  have HD3 := Aside0.mk (HD.out.frm (S := fun _ => False) (Frm.of_below hB3) (fun _ _ h => h))
  clear hB3 hx3 hm3 hg3 hb2
  simp only
  go_wp2_with fail
  rw [← hW3, ← hxb]
  clear hW3 hxb
  refine (count_calls HD3.out per).mono ?_
  rintro e w4 ⟨rfl, hb4⟩
  have HD4 := Aside0.mk (HD3.out.frm (S := fun _ => False) (Frm.of_below hb4) (fun _ _ h => h))
  have hm4 := blk_below H3.out.2.2.1 hb4; have hx4 := blk_below H3.out.2.1 hb4; have hg4 : Blk w4 g (metaOf s r k d) := blk_below H3.out.2.2.2 hb4
  have H4 := Aside0.mk (And.intro (below_step H3.out.1 hb4) (And.intro hx4 (And.intro hm4 hg4)))
  have z0 := blk_cell hx4 0; have z1 := blk_cell hx4 1; have z2 := blk_cell hx4 2; have z3 := blk_cell hx4 3
  have y0 := blk_cell hm4 0; have y1 := blk_cell hm4 1; have y2 := blk_cell hm4 2; have y3 := blk_cell hm4 3
  simp only [List.getElem?_toArray, List.getElem?_cons_zero, List.getElem?_cons_succ] at z0 z1 z2 z3 y0 y1 y2 y3
  clear hm4 hx4 hg4 hb4
  by_cases hc : countD D per < 2
  · have dc : decide (countD D per < 2) = true := decide_eq_true hc
    have HC := Aside0.mk hc
    clear hc
    go_wp2_with fail
    go_ret
    have e1 : countD D per < 2 ∨ mOk s r k d = false := .inl HC.out
    exact ⟨by rw [Dk.mwriteE, if_pos e1]; rfl, by rw [Dk.mwritten, if_pos e1]; exact ⟨_, _, _, _, _, HD4.out.mono fun _ h => .inl h⟩, Frm.of_below H4.out.1⟩
  · have dc : decide (countD D per < 2) = false := decide_eq_false hc
    have HC := Aside0.mk hc
    clear hc
    by_cases he : x4 = 0
    · have de : (x4 != 0) = false := by simpa using he
      subst he
      by_cases a0 : ¬ x0 = s
      · have HE := Aside0.mk a0
        go_wp2_with fail
        go_ret
        have e1 : countD D per < 2 ∨ mOk s r k d = false := .inr (decide_eq_false (by rw [HX.out]; intro h; simp only [Prod.mk.injEq] at h; exact HE.out h.1))
        exact ⟨by rw [Dk.mwriteE, if_pos e1]; rfl, by rw [Dk.mwritten, if_pos e1]; exact ⟨_, _, _, _, _, HD4.out.mono fun _ h => .inl h⟩, Frm.of_below H4.out.1⟩
      by_cases a1 : ¬ x1 = r
      · have HE := Aside0.mk a1
        go_wp2_with fail
        go_ret
        have e1 : countD D per < 2 ∨ mOk s r k d = false := .inr (decide_eq_false (by rw [HX.out]; intro h; simp only [Prod.mk.injEq] at h; exact HE.out h.2.1))
        exact ⟨by rw [Dk.mwriteE, if_pos e1]; rfl, by rw [Dk.mwritten, if_pos e1]; exact ⟨_, _, _, _, _, HD4.out.mono fun _ h => .inl h⟩, Frm.of_below H4.out.1⟩
      by_cases a2 : ¬ x2 = k
      · have HE := Aside0.mk a2
        go_wp2_with fail
        go_ret
        have e1 : countD D per < 2 ∨ mOk s r k d = false := .inr (decide_eq_false (by rw [HX.out]; intro h; simp only [Prod.mk.injEq] at h; exact HE.out h.2.2.1))
        exact ⟨by rw [Dk.mwriteE, if_pos e1]; rfl, by rw [Dk.mwritten, if_pos e1]; exact ⟨_, _, _, _, _, HD4.out.mono fun _ h => .inl h⟩, Frm.of_below H4.out.1⟩
      by_cases a3 : ¬ x3 = d
      · have HE := Aside0.mk a3
        go_wp2_with fail
        go_ret
        have e1 : countD D per < 2 ∨ mOk s r k d = false := .inr (decide_eq_false (by rw [HX.out]; intro h; simp only [Prod.mk.injEq] at h; exact HE.out h.2.2.2.1))
        exact ⟨by rw [Dk.mwriteE, if_pos e1]; rfl, by rw [Dk.mwritten, if_pos e1]; exact ⟨_, _, _, _, _, HD4.out.mono fun _ h => .inl h⟩, Frm.of_below H4.out.1⟩
      replace a0 := Decidable.not_not.1 a0; replace a1 := Decidable.not_not.1 a1; replace a2 := Decidable.not_not.1 a2; replace a3 := Decidable.not_not.1 a3
      subst a0; subst a1; subst a2; subst a3
      have hper : 1 ≤ per ∧ per ≤ 8192 := by
        have h2 := HC.out
        unfold countD at h2
        by_cases h : per < 1 ∨ 8192 < per ∨ room (per * D.size) = 0
        · rw [if_pos h] at h2; omega
        · constructor <;> omega
      obtain ⟨hper1, hper2⟩ := hper
      have hs0 : 0 ≤ x0 := HS.out.1
      have hp : 0 ≤ x0 % 2 * per ∧ x0 % 2 * per ≤ 8192 := by
        rcases (by omega : x0 % 2 = 0 ∨ x0 % 2 = 1) with h | h <;> rw [h] <;> omega
      obtain ⟨hp1, hp2⟩ := hp
      have hw : IntKind.i64.wrap (x0 % 2 * per) = x0 % 2 * per := IntWalk.i64_in _ (by omega)
      have hw2 : wrap64 (x0 % 2 * per) = x0 % 2 * per := by unfold wrap64; omega
      have hB5 : Below w4.heap.size w4 (w4.alloc (.cells #[.slice (some ⟨g, 0, none⟩) 36 36] 33)) := below_alloc (Below.refl _ _) _
      have HD5 := Aside0.mk (HD4.out.frm (S := fun _ => False) (Frm.of_below hB5) (fun _ _ h => h))
      have hC5 := lit_row1 w4 33 (some ⟨g, 0, none⟩) 36 36 _ (blk_C36 H4.out.2.2.2 (metaB_length _ _ _ _)) (by decide)
      have hwr := write_calls HD5.out (x0 % 2 * per) (some ⟨w4.heap.size, 0, none⟩) 1 [metaOf x0 x1 x2 x3] hC5 (by simp [metaOf, metaB_length]) (by simp only [List.flatten_cons, List.flatten_nil, List.append_nil]; exact metaB_bytes _ _ _ _)
      simp only [List.flatten_cons, List.flatten_nil, List.append_nil, List.length_singleton] at hwr
      have HWR := Aside0.mk hwr; have HB5 := Aside0.mk hB5
      clear hwr hB5 hC5
      go_wp2_with fail
      refine HWR.out.mono ?_
      rintro e w6 ⟨rfl, hD6, hF6⟩
      have H6 := Aside0.mk (And.intro hD6 hF6)
      clear hD6 hF6
      go_wp2_with fail
      go_ret
      have e1 : ¬ (countD D per < 2 ∨ mOk x0 x1 x2 x3 = false) := fun h => h.elim (fun h => by have := HC.out; omega) (fun h => by rw [mOk, decide_eq_true HX.out] at h; cases h)
      have hFW : Frm X w (w4.alloc (.cells #[.slice (some ⟨g, 0, none⟩) 36 36] 33)) := (Frm.of_below H4.out.1).step HB5.out
      exact ⟨by rw [Dk.mwriteE, if_neg e1]; rfl, by rw [Dk.mwritten, if_neg e1]; exact H6.out.1.mono fun k hk => hk.imp id fun h => Nat.le_trans hFW.size h, hFW.then_ H6.out.2 fun k hk => .inl hk⟩
    · have de : (x4 != 0) = true := by simpa using he
      have HE := Aside0.mk he
      clear he
      go_wp2_with fail
      go_ret
      have e1 : countD D per < 2 ∨ mOk s r k d = false := .inr (decide_eq_false (by rw [HX.out]; intro h; simp only [Prod.mk.injEq] at h; exact HE.out h.2.2.2.2))
      exact ⟨by rw [Dk.mwriteE, if_pos e1]; rfl, by rw [Dk.mwritten, if_pos e1]; exact ⟨_, _, _, _, _, HD4.out.mono fun _ h => .inl h⟩, Frm.of_below H4.out.1⟩
abbrev M4 := Int × Int × Int × Int
def upB (b : M4) (m : Int × Int × Int × Int × Int) (n : Int) : M4 := if m.2.2.2.2 = 0 ∧ m.1 % 2 = n ∧ b.1 < m.1 then (m.1, m.2.1, m.2.2.1, m.2.2.2.1) else b
def bst (D : Dk) (pn : Nat) : Nat → M4
  | 0 => (0, 0, 0, 0)
  | k + 1 => upB (bst D pn k) (getM (D.now (k * pn))) k
def bestD (D : Dk) (per : Int) : Int × Int × Int × Int × Int :=
  if countD D per < 2 then (0, 0, 0, 0, 2)
  else if D.dead = true then (0, 0, 0, 0, 20)
  else let b := bst D per.toNat 2; if b.1 = 0 then (0, 0, 0, 0, 40) else (b.1, b.2.1, b.2.2.1, b.2.2.2, 0)
theorem bst_zero (D : Dk) (pn k : Nat) : 0 ≤ (bst D pn k).1 ∧ ((bst D pn k).1 = 0 → bst D pn k = (0, 0, 0, 0)) := by
  induction k with
  | zero => exact ⟨Int.le_refl _, fun _ => rfl⟩
  | succ k ih =>
    rw [bst, upB]
    split
    · rename_i h
      refine ⟨?_, fun h0 => ?_⟩
      · have := ih.1; have := h.2.2; simp only; omega
      · have := ih.1; have := h.2.2; simp only at h0; omega
    · exact ih
theorem now_bytes {w : World} {X : Nat → Prop} {d sb mb clock : Nat} {es : Array MapEntry} {safe : List Int} {D : Dk} (h : DParts w X d sb mb es clock safe D) {n : Nat} (hn : n < D.sectors) : Bytes (D.now n) := by
  unfold Dk.now
  cases hf : D.fresh n with
  | none =>
    rw [Option.getD_none, ← h.sec n hn]
    exact fun x hx => h.byt x (List.mem_of_mem_drop (List.mem_of_mem_take hx))
  | some l =>
    obtain ⟨x, _, b, he⟩ := h.fresh_some hf
    exact he.byt
theorem getM_range (l : List Int) (h : Bytes l) : 0 ≤ (getM l).1 ∧ (getM l).1 < 18446744073709551616 := by
  unfold getM
  split
  · exact ⟨by decide, by decide⟩
  split
  · exact ⟨by decide, by decide⟩
  split
  · exact ⟨by decide, by decide⟩
  split
  · exact ⟨by decide, by decide⟩
  · have := tolL_lt ((l.take 8).drop 0) fun x hx => h x (List.mem_of_mem_take (List.mem_of_mem_drop hx))
    refine ⟨this.1, Int.lt_of_lt_of_le this.2 ?_⟩
    have h8 : ((l.take 8).drop 0).length = 8 := by rw [List.length_drop, List.length_take]; omega
    rw [h8]; decide
def BestPost (D : Dk) (per : Int) (w : World) (e : Ending) (w' : World) : Prop := e = .returned (.tuple #[.agg #[.int .u64 (bestD D per).1, .int .i64 (bestD D per).2.1, .int .i64 (bestD D per).2.2.1, .int .i64 (bestD D per).2.2.2.1], .int .i64 (bestD D per).2.2.2.2]) ∧ Below w.heap.size w w'
set_option maxHeartbeats 4000000 in
set_option maxRecDepth 100000 in
theorem best_calls {w : World} {X : Nat → Prop} {dd sb mb clock : Nat} {es : Array MapEntry} {safe : List Int} {D : Dk} (h : DParts w X dd sb mb es clock safe D) (per : Int) :
    Calls Try.prog 34 #[.pointer (some ⟨dd, 0, none⟩), .int .i64 per] w (BestPost D per w) := by
  have HD := Aside0.mk h
  clear h
  obtain ⟨W0, hW0⟩ : ∃ W, W = w.alloc (.cells #[.int .u64 0, .int .i64 0, .int .i64 0, .int .i64 0] 52) := ⟨_, rfl⟩
  have hB0 : Below w.heap.size w W0 := by rw [hW0]; exact below_alloc (Below.refl _ _) _
  have hx0 : W0.heap[w.heap.size]? = some (.cells #[.int .u64 0, .int .i64 0, .int .i64 0, .int .i64 0] 52) := by rw [hW0]; exact blk_new w _
  have H0 := Aside0.mk (And.intro hB0 hx0)
  have HD0 := Aside0.mk (HD.out.frm (S := fun _ => False) (Frm.of_below hB0) (fun _ _ h => h))
  clear hB0 hx0
  go_enter Try.func34, Try.ntmps34
  go_wp2_with fail
  rw [← hW0]
  clear hW0
  refine (count_calls HD0.out per).mono ?_
  rintro e w1 ⟨rfl, hb1⟩
  have HD1 := Aside0.mk (HD0.out.frm (S := fun _ => False) (Frm.of_below hb1) (fun _ _ h => h))
  have hx1 := blk_below H0.out.2 hb1
  have H1 := Aside0.mk (And.intro (below_step H0.out.1 hb1) hx1)
  have z0 := blk_cell hx1 0; have z1 := blk_cell hx1 1; have z2 := blk_cell hx1 2; have z3 := blk_cell hx1 3
  simp only [List.getElem?_toArray, List.getElem?_cons_zero, List.getElem?_cons_succ] at z0 z1 z2 z3
  have f0 := blk_frozen hx1 0; have f1 := blk_frozen hx1 1; have f2 := blk_frozen hx1 2; have f3 := blk_frozen hx1 3
  clear hx1 hb1
  by_cases hc : countD D per < 2
  · have dc : decide (countD D per < 2) = true := decide_eq_true hc
    have HC := Aside0.mk hc
    clear hc
    go_wp2_with fail
    refine bodyPost_ret (v := .tuple #[.agg #[.int .u64 0, .int .i64 0, .int .i64 0, .int .i64 0], .int .i64 2]) (by simp [results, Try.results34, go_sem, z0, z1, z2, z3, f0, f1, f2, f3]) rfl ?_
    have e1 : bestD D per = (0, 0, 0, 0, 2) := by rw [bestD, if_pos HC.out]
    unfold BestPost; rw [e1]
    refine ⟨rfl, ?_⟩
    repeat (first | (with_reducible first | exact H1.out.1 | (refine below_set ?_ (Nat.le_refl _)) | apply below_alloc | apply pw_below_drewN | apply below_drew1) | exact H1.out.1)
  · have dc : decide (countD D per < 2) = false := decide_eq_false hc
    have hper : 1 ≤ per ∧ per ≤ 8192 ∧ 2 ≤ (D.sectors : Int) / per := by
      have h2 := hc
      unfold countD at h2
      by_cases h : per < 1 ∨ 8192 < per ∨ room (per * D.size) = 0
      · rw [if_pos h] at h2; omega
      · rw [if_neg h] at h2
        refine ⟨by omega, by omega, ?_⟩
        by_cases h4 : 16384 < (D.sectors : Int) / per
        · omega
        · rw [if_neg h4] at h2; omega
    have HC := Aside0.mk hc
    obtain ⟨pn, hpn⟩ : ∃ pn : Nat, per = pn := ⟨per.toNat, by omega⟩
    subst hpn
    have hp2 : 2 * pn ≤ D.sectors := by
      have h3 := hper.2.2
      have h4 : (2 : Int) * pn ≤ D.sectors := Int.le_trans (Int.mul_le_mul_of_nonneg_right h3 (by omega)) (Int.ediv_mul_le _ (by omega))
      omega
    have HPN := Aside0.mk (And.intro hper.1 (And.intro hper.2.1 hp2))
    clear hc hper hp2
    go_wp2_with fail
    clear z0 z1 z2 z3 f0 f1 f2 f3
    go_loopw [21] (fun i wr => ∃ k : Nat, k ≤ 2 ∧ i = .int .i64 k ∧ (D.dead = true → k = 0) ∧ Aside0 (wr.heap[w.heap.size]? = some (.cells #[.int .u64 (bst D pn k).1, .int .i64 (bst D pn k).2.1, .int .i64 (bst D pn k).2.2.1, .int .i64 (bst D pn k).2.2.2] 52) ∧ Below w.heap.size w wr)) (fun i _ => 2 - (intOf i).toNat)
    case atStart => exact ⟨0, by decide, rfl, fun _ => rfl, ⟨blk_below H1.out.2 (by first | exact Below.refl _ _ | exact below_drew1 (Below.refl _ _)), H1.out.1⟩⟩
    case round =>
      obtain ⟨k, hk, rfl, hdk, HK⟩ := hrel
      obtain ⟨b0, b1, b2, b3, hb⟩ : ∃ b0 b1 b2 b3, bst D pn k = (b0, b1, b2, b3) := ⟨_, _, _, _, rfl⟩
      have HB := Aside0.mk hb
      have hK := HK.out
      rw [hb] at hK
      simp only at hK
      have HKK := Aside0.mk hK
      obtain ⟨n1, n2, n3⟩ := HPN.out
      have y0 := blk_cell hK.1 0; have y1 := blk_cell hK.1 1; have y2 := blk_cell hK.1 2; have y3 := blk_cell hK.1 3
      simp only [List.getElem?_toArray, List.getElem?_cons_zero, List.getElem?_cons_succ] at y0 y1 y2 y3
      clear hb hK HK
      by_cases hlt : k < 2
      · have hkp : k * pn < D.sectors := by
          rcases (by omega : k = 0 ∨ k = 1) with rfl | rfl <;> omega
        have e1 : (k : Int) * (pn : Int) = ((k * pn : Nat) : Int) := by simp
        have hb2 := HD.out.b2
        have hw : IntKind.i64.wrap ((k : Int) * (pn : Int)) = (k : Int) * (pn : Int) := IntWalk.i64_in _ (by rw [e1]; omega)
        have hw2 : wrap64 ((k : Int) * (pn : Int)) = (k : Int) * (pn : Int) := by rw [e1]; unfold wrap64; omega
        have hkq : (k : Int) * (pn : Int) < D.sectors ∧ 0 ≤ (k : Int) * (pn : Int) := by rw [e1]; omega
        have HDr := Aside0.mk (HD.out.frm (S := fun _ => False) (Frm.of_below HKK.out.2) (fun _ _ h => h))
        have hhas : D.has ((k : Int) * (pn : Int)) = true := by simp [Dk.has]; omega
        have hrd : D.readE ((k : Int) * (pn : Int)) = if D.dead = true then 20 else 0 := by simp [Dk.readE, hhas]
        have hkt : ((k : Int) * (pn : Int)).toNat = k * pn := by rw [e1]; omega
        have HRD := Aside0.mk (And.intro hrd hkt); have HKP := Aside0.mk hkp
        clear e1 hkq hhas hrd hkt n1 n2 n3 hb2
        go_wp2_with fail
        refine (read_calls HDr.out ((k : Int) * (pn : Int))).mono ?_
        rintro e w2 ⟨v2, rfl, hr2, hb2⟩
        obtain ⟨A2, c2, rfl⟩ := Kd.R_slice hr2
        obtain ⟨_, hc2, hC2⟩ := Kd.R_reads' hr2
        rw [HRD.out.1]
        have hk2 := blk_below HKK.out.1 hb2
        have H2 := Aside0.mk (And.intro hk2 (below_step HKK.out.2 hb2))
        have HC2 := Aside0.mk (And.intro hc2 hC2)
        clear hr2 hb2 hC2 hc2 y0 y1 y2 y3
        have y0 := blk_cell hk2 0; have y1 := blk_cell hk2 1; have y2 := blk_cell hk2 2; have y3 := blk_cell hk2 3
        simp only [List.getElem?_toArray, List.getElem?_cons_zero, List.getElem?_cons_succ] at y0 y1 y2 y3
        have f0 := blk_frozen hk2 0; have f1 := blk_frozen hk2 1; have f2 := blk_frozen hk2 2; have f3 := blk_frozen hk2 3
        clear hk2
        cases hdd : D.dead with
        | true =>
          have HDD := Aside0.mk hdd
          obtain rfl : k = 0 := hdk hdd
          rw [if_pos (show true = true from rfl)]
          clear hdd
          go_wp2_with fail
          refine bodyPost_ret (v := .tuple #[.agg #[.int .u64 0, .int .i64 0, .int .i64 0, .int .i64 0], .int .i64 20]) (by simp [results, Try.results34, go_sem, y0, y1, y2, y3, f0, f1, f2, f3]) rfl ?_
          have e1 : bestD D (pn : Int) = (0, 0, 0, 0, 20) := by rw [bestD, if_neg (by have := HC.out; omega), if_pos HDD.out]
          unfold BestPost; rw [e1]
          refine ⟨rfl, ?_⟩
          repeat (first | (with_reducible first | exact H2.out.2 | (refine below_set ?_ (Nat.le_refl _)) | apply below_alloc | apply pw_below_drewN | apply below_drew1) | exact H2.out.2)
        | false =>
          have HDD := Aside0.mk hdd
          have hrb : D.readB ((k : Int) * (pn : Int)) = D.now (k * pn) := by
            unfold Dk.readB; rw [HRD.out.1, HRD.out.2, if_pos (by rw [hdd]; rfl)]
          rw [hrb] at HC2
          rw [if_neg (by decide)]
          have HNB := Aside0.mk (now_bytes HD.out HKP.out)
          obtain ⟨L, hL⟩ : ∃ L, L = D.now (k * pn) := ⟨_, rfl⟩
          rw [hrb, ← hL]
          rw [← hL] at HC2 HNB
          have HLL := Aside0.mk hL
          clear hdd hrb hdk hL
          go_wp2_with fail
          refine (mget_calls A2 c2 L w2 HC2.out.2 HC2.out.1 HNB.out).mono ?_
          rintro e w3 ⟨rfl, hb3⟩
          obtain ⟨x0, x1, x2, x3, x4, hx⟩ : ∃ x0 x1 x2 x3 x4, getM L = (x0, x1, x2, x3, x4) := ⟨_, _, _, _, _, rfl⟩
          have hx00 := (getM_range L HNB.out).1
          rw [hx] at hx00 ⊢
          simp only at hx00
          have HX := Aside0.mk hx
          obtain ⟨xb, hxb⟩ : ∃ n, n = w3.heap.size := ⟨_, rfl⟩
          obtain ⟨W4, hW4⟩ : ∃ W, W = w3.alloc (.cells #[.int .u64 x0, .int .i64 x1, .int .i64 x2, .int .i64 x3] 52) := ⟨_, rfl⟩
          have hB4 : Below w.heap.size w W4 := by rw [hW4]; exact below_alloc (below_step H2.out.2 hb3) _
          have hx4 : W4.heap[xb]? = some (.cells #[.int .u64 x0, .int .i64 x1, .int .i64 x2, .int .i64 x3] 52) := by rw [hW4, hxb]; exact blk_new w3 _
          have hm4 : W4.heap[w.heap.size]? = some (.cells #[.int .u64 b0, .int .i64 b1, .int .i64 b2, .int .i64 b3] 52) := by rw [hW4]; exact blk_alloc (blk_below H2.out.1 hb3) _
          have H4 := Aside0.mk (And.intro hB4 (And.intro hm4 hx4))
          have z0 := blk_cell hx4 0; have z1 := blk_cell hx4 1; have z2 := blk_cell hx4 2; have z3 := blk_cell hx4 3
          clear y0 y1 y2 y3 f0 f1 f2 f3
          have y0 := blk_cell hm4 0; have y1 := blk_cell hm4 1; have y2 := blk_cell hm4 2; have y3 := blk_cell hm4 3
          simp only [List.getElem?_toArray, List.getElem?_cons_zero, List.getElem?_cons_succ] at z0 z1 z2 z3 y0 y1 y2 y3
          have f0 := blk_frozen hm4 0; have f1 := blk_frozen hm4 1; have f2 := blk_frozen hm4 2; have f3 := blk_frozen hm4 3
          clear hx hB4 hx4 hm4 hb3
          subst hW4; subst hxb
          simp only
          by_cases t1 : ¬ x4 = 0
          · have dt1 : (x4 == 0) = false := by simpa using t1
            have e9 : Aside0 (bst D pn (k + 1) = (b0, b1, b2, b3)) := ⟨by rw [bst, HB.out, upB, ← HLL.out, HX.out, if_neg (by simp only; exact fun h => t1 h.1)]⟩
            have H4' := Aside0.mk (H4.out)
            go_wp2_with fail
            go_roundw
            case rel => exact ⟨k + 1, by omega, by go_num, fun hd => absurd hd (by rw [HDD.out]; decide), ⟨by rw [e9.out]; exact H4'.out.2.1, H4'.out.1⟩⟩
            case measure => simp [intOf]; omega
          replace t1 := Decidable.not_not.1 t1
          have dt1 : (x4 == 0) = true := by simpa using t1
          by_cases t2 : ¬ x0 % 2 = (k : Int)
          · have dt2 : (x0 % 2 == (k : Int)) = false := by simpa using t2
            have T2 := Aside0.mk t2
            clear t2
            have e9 : Aside0 (bst D pn (k + 1) = (b0, b1, b2, b3)) := ⟨by rw [bst, HB.out, upB, ← HLL.out, HX.out, if_neg (by simp only; exact fun h => T2.out h.2.1)]⟩
            have H4' := Aside0.mk (H4.out)
            go_wp2_with fail
            go_roundw
            case rel => exact ⟨k + 1, by omega, by go_num, fun hd => absurd hd (by rw [HDD.out]; decide), ⟨by rw [e9.out]; exact H4'.out.2.1, H4'.out.1⟩⟩
            case measure => simp [intOf]; omega
          replace t2 := Decidable.not_not.1 t2
          have dt2 : (x0 % 2 == (k : Int)) = true := by simpa using t2
          have T2 := Aside0.mk t2
          clear t2
          by_cases t3 : ¬ b0 < x0
          · have dt3 : decide (b0 < x0) = false := decide_eq_false t3
            have T3 := Aside0.mk t3
            clear t3
            have e9 : Aside0 (bst D pn (k + 1) = (b0, b1, b2, b3)) := ⟨by rw [bst, HB.out, upB, ← HLL.out, HX.out, if_neg (by simp only; exact fun h => by have := T3.out; have := h.2.2; omega)]⟩
            have H4' := Aside0.mk (H4.out)
            go_wp2_with fail
            go_roundw
            case rel => exact ⟨k + 1, by omega, by go_num, fun hd => absurd hd (by rw [HDD.out]; decide), ⟨by rw [e9.out]; exact H4'.out.2.1, H4'.out.1⟩⟩
            case measure => simp [intOf]; omega
          replace t3 := Decidable.not_not.1 t3
          have dt3 : decide (b0 < x0) = true := decide_eq_true t3
          have e9 : Aside0 (bst D pn (k + 1) = (x0, x1, x2, x3)) := ⟨by rw [bst, HB.out, upB, ← HLL.out, HX.out, if_pos (by simp only; exact ⟨t1, T2.out, t3⟩)]⟩
          have hm9 := blk_set (blk_set (blk_set (blk_set H4.out.2.1 0 (.int .u64 x0)) 1 (.int .i64 x1)) 2 (.int .i64 x2)) 3 (.int .i64 x3)
          have hb9 := below_set (j := 3) (v := .int .i64 x3) (below_set (j := 2) (v := .int .i64 x2) (below_set (j := 1) (v := .int .i64 x1) (below_set (j := 0) (v := .int .u64 x0) H4.out.1 (Nat.le_refl _)) (Nat.le_refl _)) (Nat.le_refl _)) (Nat.le_refl _)
          have H9 := Aside0.mk (And.intro hm9 hb9)
          clear hm9 hb9
          go_wp2_with fail
          go_roundw
          case rel => exact ⟨k + 1, by omega, by go_num, fun hd => absurd hd (by rw [HDD.out]; decide), ⟨by rw [e9.out]; exact H9.out.1, H9.out.2⟩⟩
          case measure => simp [intOf]; omega
      · obtain rfl : k = 2 := by omega
        have hdn : D.dead = false := by
          cases hdd : D.dead with
          | false => rfl
          | true => have := hdk hdd; omega
        have HDN := Aside0.mk hdn
        clear hdn hdk
        have f0 := blk_frozen HKK.out.1 0; have f1 := blk_frozen HKK.out.1 1; have f2 := blk_frozen HKK.out.1 2; have f3 := blk_frozen HKK.out.1 3
        by_cases hz : b0 = 0
        · have h0 := (bst_zero D pn 2).2
          rw [HB.out] at h0
          have h1 := h0 hz
          simp only [Prod.mk.injEq] at h1
          obtain ⟨rfl, rfl, rfl, rfl⟩ := h1
          clear h0 hz
          go_wp2_with fail
          refine bodyPost_ret (v := .tuple #[.agg #[.int .u64 0, .int .i64 0, .int .i64 0, .int .i64 0], .int .i64 40]) (by simp [results, Try.results34, go_sem, y0, y1, y2, y3, f0, f1, f2, f3]) rfl ?_
          have e1 : bestD D (pn : Int) = (0, 0, 0, 0, 40) := by rw [bestD, if_neg (by have := HC.out; omega), if_neg (by rw [HDN.out]; decide), Int.toNat_natCast, HB.out]; rfl
          unfold BestPost; rw [e1]
          refine ⟨rfl, ?_⟩
          repeat (first | (with_reducible first | exact HKK.out.2 | (refine below_set ?_ (Nat.le_refl _)) | apply below_alloc | apply pw_below_drewN | apply below_drew1) | exact HKK.out.2)
        · have HZ := Aside0.mk hz
          go_wp2_with fail
          refine bodyPost_ret (v := .tuple #[.agg #[.int .u64 b0, .int .i64 b1, .int .i64 b2, .int .i64 b3], .int .i64 0]) (by simp [results, Try.results34, go_sem, y0, y1, y2, y3, f0, f1, f2, f3]) rfl ?_
          have e1 : bestD D (pn : Int) = (b0, b1, b2, b3, 0) := by rw [bestD, if_neg (by have := HC.out; omega), if_neg (by rw [HDN.out]; decide), Int.toNat_natCast, HB.out]; exact if_neg HZ.out
          unfold BestPost; rw [e1]
          refine ⟨rfl, ?_⟩
          repeat (first | (with_reducible first | exact HKK.out.2 | (refine below_set ?_ (Nat.le_refl _)) | apply below_alloc | apply pw_below_drewN | apply below_drew1) | exact HKK.out.2)
end Go.Proofs.YteimienhaodfcaaK
