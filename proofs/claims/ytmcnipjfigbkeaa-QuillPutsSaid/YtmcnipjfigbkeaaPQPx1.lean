-- Written by a program of this session (wip/myprint.py), which drives the kit's print; read and checked by Lean alone.
import Derived.Test.YtmcnipjfigbkeaaPQPx0
namespace Go.Proofs.Ytmcnipjfigbkeaa.PQP
open Go.RowKit Go.Proofs.YtmcnipjfigbkeaaW.PrintWords Go.Proofs.YtmcnipjfigbkeaaW.PrintLast Go.Proofs.YtmcnipjfigbkeaaW.PrintMore
attribute [local go_sem] max2_int min2_int max_two min_two max_three min_three max_four min_four   -- for this text's walks alone
set_option linter.unusedVariables false
set_option linter.unusedSimpArgs false


/-! ### quill_digits: function 60 -/
open Go.Proofs.YtmcnipjfigbkeaaK
def quill_digits.f (l0 : List Int) (a1 : Int) : Option (List Int) := if 0 ≤ a1 ∧ a1 < 18446744073709551616 ∧ l0.length + 10 < 140737488355328 then some (l0 ++ digF 9 (a1 / 128) [a1 % 128]) else none
set_option maxHeartbeats 400000 in
set_option maxRecDepth 100000 in
theorem quill_digits.calls (P0_ : Nat → Prop) (u9000_ : Value) (l0 : List Int) (a1 : Int) (r : List Int) (w0 w : World) (hB : Below w0.heap.size w0 w) (ho0 : Kd.R (Kd.int .u8) 5 w w0.heap.size P0_ u9000_ l0) (h : quill_digits.f l0 a1 = some r) :
    Calls Try.prog 60 #[u9000_, .int .u64 a1] w fun e w' => ∃ v0_ : Value, e = .returned (v0_) ∧ Kd.R (Kd.int .u8) 5 w' w0.heap.size (fun k_ => (P0_ k_ ∨ w.heap.size ≤ k_)) v0_ r ∧ Below w0.heap.size w0 w' ∧ Kept w w' (fun k_ => P0_ k_) := by
  unfold quill_digits.f at h
  by_cases hc : 0 ≤ a1 ∧ a1 < 18446744073709551616 ∧ l0.length + 10 < 140737488355328
  case neg => rw [if_neg hc] at h; cases h
  rw [if_pos hc] at h
  obtain rfl := Option.some.inj h
  obtain ⟨h1, h2, h3⟩ := hc
  have HA3 := Aside0.mk h3; have HO := Aside0.mk ho0; have HB := Aside0.mk hB; clear h3 h ho0 hB
  go_enter Try.func60, Try.ntmps60
  go_wp2
  go_loopg [1, 6] 10 (fun kq v1 v6 w' => ∃ (x : Int) (j : Nat) (ds : List Int) (cs : Array Value), v1 = .int .u64 x ∧ v6 = .int .i64 j ∧ w' = w.alloc (.cells cs 101) ∧ cs.size = 10 ∧ Aside0 (0 ≤ x ∧ x < 18446744073709551616 ∧ x * 64 < 128 ^ j ∧ digF 9 (a1 / 128) [a1 % 128] = digF j x ds ∧ j ≤ 9 ∧ ds.length = 10 - j ∧ cs.toList.drop j = ds.map (.int .u8) ∧ kq = j + 1))
  case atStart =>
    exact ⟨_, 9, [a1 % 128], _, rfl, rfl, rfl, rfl, ⟨by omega, by omega, by omega, rfl, by omega, rfl, rfl, rfl⟩⟩
  case round =>
    obtain ⟨x, j, ds, cs, rfl, rfl, rfl, hcs, HI⟩ := hrel
    by_cases hx : 0 < x
    · obtain ⟨hx0, hxb, hxj, hd, hj9, hdl, hcd, hkq⟩ := HI.out
      clear HI
      obtain ⟨j, rfl⟩ : ∃ j', j = j' + 1 := ⟨j - 1, by
        rcases Nat.eq_zero_or_pos j with rfl | hj
        · simp at hxj; omega
        · omega⟩
      have hb : decide (0 < x) = true := decide_eq_true hx
      obtain ⟨u, hu⟩ : ∃ u, cs[j]? = some u := ⟨_, Array.getElem?_eq_getElem (by omega)⟩
      have hj1 : (((j + 1 : Nat) : Int) - 1) = (j : Int) := by omega
      have hw1 : wrap64 (((j + 1 : Nat) : Int) - 1) = (j : Int) := by rw [hj1]; exact wrap64_id' (by omega) (by omega)
      have hl1 : j < 10 := by omega
      have hl2 : (j : Int) < 10 := by omega
      go_wp2
      go_roundg (j + 1)
      case measure => omega
      case rel =>
        have hq : IntKind.u64.wrap (x.tdiv 128) = x / 128 := by
          rw [Int.tdiv_eq_ediv_of_nonneg (by omega)]
          simp [IntKind.wrap, IntKind.bits, IntKind.signed]; omega
        have hor : bits BinOp.or IntKind.u8 128 (x % 128) = 128 + x % 128 := or128 _ (by omega) (by omega)
        have hp : (128:Int) ^ (j + 1) = 128 * 128 ^ j := by rw [Int.pow_succ, Int.mul_comm]
        refine ⟨x / 128, j, (128 + x % 128) :: ds, _, by first | rfl | rw [hq], rfl, rfl, by simp [hcs], ⟨by omega, by omega, by omega, ?_, by omega, by simp; omega, ?_, rfl⟩⟩
        · rw [hd]; simp only [digF, if_pos hx]
        · rw [hor, Array.toList_setIfInBounds, List.drop_set]
          simp only [Nat.lt_irrefl, if_false, Nat.sub_self]
          rw [List.drop_eq_getElem_cons (by simp; omega)]
          simp [hcd]
    · obtain ⟨hx0, hxb, hxj, hd, hj9, hdl, hcd, hkq⟩ := HI.out
      clear HI
      obtain rfl : x = 0 := by omega
      have hd' : digF 9 (a1 / 128) [a1 % 128] = ds := by rw [hd]; cases j <;> simp [digF]
      have hb : decide ((0:Int) < 0) = false := rfl
      have hl1 : j < 10 := by omega
      have hl2 : (j : Int) < 10 := by omega
      have hl3 : (j : Int) ≤ 10 := by omega
      have hl4 : 0 ≤ (j : Int) := by omega
      have HO2 : Kd.R (Kd.int .u8) 5 (w.alloc (.cells cs 101)) w0.heap.size (fun k_ => (P0_ k_ ∨ w.heap.size ≤ k_)) u9000_ l0 := Kd.R_alloc (Kd.R_mono HO.out (fun k_ hk => .inl hk)) _
      have HB2 : Below w0.heap.size w0 (w.alloc (.cells cs 101)) := below_alloc HB.out _
      have HK2 : Kept w (w.alloc (.cells cs 101)) (fun k_ => P0_ k_) := Kept.alloc (Kept.refl w _) _
      have HR : ReadsRow (fun (x : Int) (c : List Value) => c = [.int .u8 x]) 1 (w.alloc (.cells cs 101)) (some ⟨w.heap.size, j, none⟩) (10 - j) ds := by
        refine ⟨by omega, by omega, fun _ => ⟨_, rfl, fun i p hp => ⟨_, rfl, rfl, fun q u hu => ?_⟩⟩⟩
        have hi := (List.getElem?_eq_some_iff.1 hp).1
        obtain rfl : q = 0 := by
          rcases q with _ | q
          · rfl
          · simp at hu
        obtain rfl : u = .int .u8 p := by simpa using hu.symm
        have := blk_cell (w := w.alloc (.cells cs 101)) (blk_new w _) (j + i)
        rw [show (Addr.add ⟨w.heap.size, j, none⟩ (i * 1 + 0)) = ⟨w.heap.size, j + i, none⟩ by simp [Addr.add]]
        rw [this]
        have h2 := congrArg (fun l => l[i]?) hcd
        simp only [List.getElem?_drop, List.getElem?_map, hp, Option.map_some] at h2
        rw [← Array.getElem?_toList]; exact h2
      have hal0 : Try.prog.arrayLen 101 = 10 := by kernel_rfl
      have hal : (j : Int) ≤ Try.prog.arrayLen 101 := by rw [hal0]; omega
      have hne : ¬ (10 = j) := by omega
      have HB2' := Aside0.mk HB2; have HK2' := Aside0.mk HK2; have HR' := Aside0.mk HR; have HO2' := Aside0.mk HO2
      clear HB2 HK2 HR HO2 hcd hd
      go_wp2_with (((with_reducible refine gate_builtin (b := .append) (xs := #[.tmp 26, .tmp 28]) rfl ?_); at_builtin; refine Kd.R_append_rows (Kd.int .u8) (Rr := fun (x : Int) (c : List Value) => c = [.int .u8 x]) (w0 := w0) w0.heap.size rfl (.tmp 26) (.tmp 28) 50 5 (.int .u8 0) 1 rfl Try.underlying50 info5 rfl (by decide) (by omega) u9000_ l0 ds (some ⟨w.heap.size, j, none⟩) (10 - j) (10 - j) (fun k_ => (P0_ k_ ∨ w.heap.size ≤ k_)) (fun _ => False) rfl rfl ?HO ?HR (fun _ _ h => h) (fun _ hk => hk.elim) (fun k_ hk => .inr (Nat.le_trans HK2'.out.1 hk)) ?HB ?hbase ?hl ?_; (case HO => exact HO2'.out); (case HR => exact HR'.out); (case HB => exact HB2'.out); (case hbase => exact HB2'.out.size); (case hl => have := HA3.out; omega); intro v1 w1 hr hb hg hat; have n0_ := Aside0.mk hr; have n1_ := Aside0.mk hb; have n2_ := Aside0.mk (Kept.of_grown hg HK2'.out (fun k_ hk_ => HO2'.out.1 k_ hk_)); clear hr hb hg hat))
      go_ret
      exact ⟨_, rfl, n0_.out, n1_.out, n2_.out⟩

/-! ### quill_Number: function 29 -/
def quill_Number.l0 : Nat → List Int → List Int → Int → Int → Option (List Int)
  | 0, _, _, _, _ => none
  | k + 1, x0, x7, x8, x9 => if x9 < x8 then (if 0 ≤ x9 then (if x9 < (x7.length : Int) then ((quill_digits.f x0 (rd x7 x9)).bind fun t102 => (quill_Number.l0 k t102 x7 x8 (wrap64 (x9 + 1)))) else (none)) else (none)) else (some x0)
def quill_Number.f (k : Nat) (l0 : List Int) (l1 : List Int) : Option (List Int) := quill_Number.l0 k l0 l1 (l1.length : Int) 0
theorem quill_Number.mono_l : ∀ k, (∀ y0 y1 y2 y3, LeO (quill_Number.l0 k y0 y1 y2 y3) (quill_Number.l0 (k + 1) y0 y1 y2 y3))
  | 0 => fun _ _ _ _ r h => by simp [quill_Number.l0] at h
  | k + 1 => by
    have ih0 := quill_Number.mono_l k
    · intro y0 y1 y2 y3
      unfold quill_Number.l0
      repeat' first
      | (with_reducible exact ih0 _ _ _ _)
      | (with_reducible exact LeO.refl _)
      | (with_reducible exact LeO.none _)
      | (with_reducible refine LeO.ite ?_ ?_)
      | (with_reducible refine LeO.bind ?_ (fun _ => ?_))
      | exact ih0 _ _ _ _
      | exact LeO.none _
      | refine LeO.ite ?_ ?_
      | refine LeO.bind ?_ (fun _ => ?_)
theorem quill_Number.mono : ∀ a0 a1 k, LeO (quill_Number.f k a0 a1) (quill_Number.f (k + 1) a0 a1) := by
  intro a0 a1 k
  have ih0 := quill_Number.mono_l k
  unfold quill_Number.f
  repeat' first
      | (with_reducible exact ih0 _ _ _ _)
      | (with_reducible exact LeO.refl _)
      | (with_reducible exact LeO.none _)
      | (with_reducible refine LeO.ite ?_ ?_)
      | (with_reducible refine LeO.bind ?_ (fun _ => ?_))
      | exact ih0 _ _ _ _
      | exact LeO.none _
      | refine LeO.ite ?_ ?_
      | refine LeO.bind ?_ (fun _ => ?_)
set_option maxHeartbeats 8000000 in
set_option maxRecDepth 100000 in
theorem quill_Number.calls (k : Nat) (P0_ : Nat → Prop) (u9000_ : Value) (l0 : List Int) (A1 : Option Addr) (c1 : Nat) (l1 : List Int) (r : List Int) (w0 w : World) (hB : Below w0.heap.size w0 w) (ho0 : Kd.R (Kd.int .u8) 5 w w0.heap.size P0_ u9000_ l0) (hr1 : ∀ W_, Kept w W_ (fun k_ => P0_ k_) → Kd.C (Kd.int .u64) W_ A1 l1.length l1) (hc1 : l1.length ≤ c1) (h : quill_Number.f k l0 l1 = some r) :
    Calls Try.prog 29 #[u9000_, .slice A1 l1.length c1] w fun e w' => ∃ v0_ : Value, e = .returned (v0_) ∧ Kd.R (Kd.int .u8) 5 w' w0.heap.size (fun k_ => (P0_ k_ ∨ w.heap.size ≤ k_)) v0_ r ∧ Below w0.heap.size w0 w' ∧ Kept w w' (fun k_ => P0_ k_) := by
  have HO0 := Aside0.mk (show Kd.R (Kd.int .u8) 5 w w0.heap.size (fun k_ => (P0_ k_ ∨ w.heap.size ≤ k_)) u9000_ l0 from Kd.R_mono ho0 (fun k_ hk => (.inl hk)))
  have HR1 := Aside0.mk hr1
  have HC1 := Aside0.mk hc1
  clear hr1 hc1
  have HK := Aside0.mk (Kept.refl w (fun k_ => P0_ k_))
  have HW0 := Aside0.mk hB.size
  have HB := Aside0.mk hB
  clear hB
  have H : (quill_Number.l0 k l0 l1 (l1.length : Int) 0) = some r := h
  clear h
  have H' := Aside0.mk H
  clear H
  go_enter Try.func29, Try.ntmps29
  go_wp2
  go_loopg [0, 9] k (fun kq v0 v9 w' => ∃ (x0_1 : List Int) (x9_1 : Int), v9 = .int .i64 x9_1 ∧ Aside0 (quill_Number.l0 kq x0_1 l1 (l1.length : Int) x9_1 = some r) ∧ Aside0 (kq ≤ k) ∧ Aside0 (Kd.R (Kd.int .u8) 5 w' w0.heap.size (fun k_ => (P0_ k_ ∨ w.heap.size ≤ k_)) v0 x0_1) ∧ Aside0 (Kept w w' (fun k_ => P0_ k_)) ∧ Aside0 (Below w0.heap.size w0 w'))
  case atStart => exact ⟨(l0), (0), (by first | rfl | (simp; done) | (simp [*]; done)), H', ⟨Nat.le_refl _⟩, ⟨by (with_reducible repeat (first | apply Kd.R_alloc | apply Kd.R_drewN | apply Kd.R_drew)); exact HO0.out⟩, ⟨by repeat (first | (with_reducible first | exact HK.out | apply Kept.alloc | apply Kept.drewN | apply Kept.drew) | exact HK.out)⟩, ⟨by repeat (first | (with_reducible first | exact HB.out | apply below_alloc | apply pw_below_drewN | apply below_drew1) | exact HB.out)⟩⟩
  case round =>
    clear H'
    try clear c1
    try clear c2
    try clear p2
    obtain ⟨x0_1, x9_1, rfl, HA, HK1, HO_0, HK, HB⟩ := hrel
    cases gk with
    | zero => exact absurd HA.out (by simp [quill_Number.l0])
    | succ k1 =>
      have H := HA.out
      clear HA
      simp only [quill_Number.l0] at H
      by_cases c3 : x9_1 < (l1.length : Int)
      · rw [if_pos c3] at H
        have c3b0 : decide (x9_1 < (l1.length : Int)) = true := decide_eq_true c3
        clear c3
        by_cases c4 : 0 ≤ x9_1
        · rw [if_pos c4] at H
          have c4b0 : decide (0 ≤ x9_1) = true := decide_eq_true c4
          clear c4
          by_cases c5 : x9_1 < (l1.length : Int)
          · rw [if_pos c5] at H
            have c5b0 : decide (x9_1 < (l1.length : Int)) = true := decide_eq_true c5
            clear c5
            replace H := Option.bind_eq_some_iff.mp H
            obtain ⟨t102, A60, H⟩ := H
            replace H : (quill_Number.l0 k1 t102 l1 (l1.length : Int) (wrap64 (x9_1 + 1))) = some r := H
            have A6 := Aside0.mk A60
            clear A60
            have H' := Aside0.mk H
            clear H
            have p101 : 0 ≤ (x9_1 : Int) := of_decide_eq_true (by first | (with_reducible assumption) | assumption)
            have q101 : x9_1 < (l1.length : Int) := of_decide_eq_true (by first | (with_reducible assumption) | assumption)
            obtain ⟨ad101, e101, hx101_0⟩ := Kd.at_int (Kd.C_kept_now HR1.out HK.out) x9_1 p101 q101
            cases e101
            replace p101 := eq_true p101
            replace q101 := eq_true q101
            obtain ⟨Ao7, co7, eo7⟩ := Kd.R_slice HO_0.out
            subst eo7
            go_wp2_with (first | ((with_reducible refine gate_callee (f := 60) rfl ?_); refine goesL_ (some 15) rfl rfl Try.func60 (by kernel_rfl) rfl #[.slice Ao7 x0_1.length co7, .int .u64 (rd l1 x9_1)] rfl (by (try simp only [List.map_toArray, List.map_cons, List.map_nil]); first | done | rfl | (simp only [List.length_drop, List.length_take]; rfl)) ?_; (with_reducible refine (quill_digits.calls (fun k_ => some k_ = (.slice Ao7 x0_1.length co7 : Value).ownBlock) (.slice Ao7 x0_1.length co7) x0_1 (rd l1 x9_1) t102 w0 _ ?side1 ?side2 A6.out).mono ?_); (case side1 => repeat (first | (with_reducible first | exact HB.out | apply below_alloc | apply pw_below_drewN | apply below_drew1) | exact HB.out)); (case side2 => exact Kd.R_tight rfl HO_0.out); rintro e w8 ⟨v103, rfl, ho0, hb, hkp⟩; refine ⟨_, rfl, ?_⟩; have n0_ := Aside0.mk (Kd.R_mono (ok' := fun k_ => (P0_ k_ ∨ w.heap.size ≤ k_)) ho0 (fun k_ hk_ => Or.elim hk_ (fun hs_ => (HO_0.out.1 k_ (hs_).symm)) (fun hn_ => (.inr (Nat.le_trans (by first | exact HK.out.1 | exact (show Kept w _ (fun k_ => P0_ k_) from by repeat (first | (with_reducible first | exact HK.out | apply Kept.alloc | apply Kept.drewN | apply Kept.drew) | exact HK.out)).1) hn_))))); have n1_ := Aside0.mk (Kept.then_ (S := (fun k_ => P0_ k_)) (by repeat (first | (with_reducible first | exact HK.out | apply Kept.alloc | apply Kept.drewN | apply Kept.drew) | exact HK.out)) hkp (fun k_ hs_ => (fun e_ => (HO_0.out.1 k_ e_.symm)) hs_)); have n2_ := Aside0.mk (hb); clear HK; clear HB; clear HO_0; have HO104 := n0_; have HK := n1_; have HB := n2_; clear n0_ n1_ n2_; (try clear hb); (try clear hkp); (try clear ho0)))
            go_roundg k1
            case measure => have := HK1.out; omega
            case rel => exact ⟨(t102), (wrap64 (x9_1 + 1)), (by first | rfl | (simp; done) | (simp [*]; done)), H', ⟨by have := HK1.out; omega⟩, ⟨by (with_reducible repeat (first | apply Kd.R_alloc | apply Kd.R_drewN | apply Kd.R_drew)); exact HO104.out⟩, ⟨by repeat (first | (with_reducible first | exact HK.out | apply Kept.alloc | apply Kept.drewN | apply Kept.drew) | exact HK.out)⟩, ⟨by repeat (first | (with_reducible first | exact HB.out | apply below_alloc | apply pw_below_drewN | apply below_drew1) | exact HB.out)⟩⟩
          · rw [if_neg c5] at H
            exact absurd H (by simp)
        · rw [if_neg c4] at H
          exact absurd H (by simp)
      · rw [if_neg c3] at H
        have c3b0 : decide (x9_1 < (l1.length : Int)) = false := decide_eq_false c3
        clear c3
        obtain rfl := Option.some.inj H
        go_wp2
        go_ret
        exact ⟨_, by first | rfl | (simp [errW_none, errW_some] <;> rfl) | (simp [*, errW_none, errW_some] <;> rfl), by (with_reducible repeat (first | apply Kd.R_alloc | apply Kd.R_drewN | apply Kd.R_drew)); exact HO_0.out, by repeat (first | (with_reducible first | exact HB.out | apply below_alloc | apply pw_below_drewN | apply below_drew1) | exact HB.out), by repeat (first | (with_reducible first | exact HK.out | apply Kept.alloc | apply Kept.drewN | apply Kept.drew) | exact HK.out)⟩


/-! ### slices_Clone_byte_byte: function 61 -/
open Go.Proofs.YtmcnipjfigbkeaaK
def slices_Clone_byte_byte.f (l0 : List Int) : Option (List Int) := if l0.length < 140737488355328 then some l0 else none
theorem slices_Clone_byte_byte.calls (A0 : Option Addr) (c0 : Nat) (l0 : List Int) (r : List Int) (w : World) (hr0 : Kd.C (Kd.int .u8) w A0 l0.length l0) (hc0 : l0.length ≤ c0) (h : slices_Clone_byte_byte.f l0 = some r) :
    Calls Try.prog 61 #[.slice A0 l0.length c0] w fun e w' => ∃ v0_ : Value, e = .returned (v0_) ∧ Kd.R (Kd.int .u8) 5 w' w.heap.size (fun _ => True) v0_ r ∧ Below w.heap.size w w' := by
  unfold slices_Clone_byte_byte.f at h
  by_cases hl : l0.length < 140737488355328
  · rw [if_pos hl] at h
    obtain rfl := Option.some.inj h
    exact Cl.clone_calls A0 c0 l0 w hr0 hl
  · rw [if_neg hl] at h; cases h

/-- A strip at block g of W, as the print is told of it: its bytes, the place, the error, the error's place. -/
def IsS91 (w0 W : World) (g : Nat) (f0 : List Int) (f1 : Int) (f2 : Int) (f3 : Int) : Prop := Go.Proofs.YtmcnipjfigbkeaaK.StripIs w0 W g f0 f1 f2 f3
theorem IsS91.blk {w0 W : World} {g : Nat} {f0 : List Int} {f1 : Int} {f2 : Int} {f3 : Int} (h : IsS91 w0 W g f0 f1 f2 f3) : ∃ cs, W.heap[g]? = some (.cells cs 91 (0, 0)) := by
  obtain ⟨A, c, hb, _⟩ := h
  exact ⟨_, hb⟩
theorem IsS91.ge {w0 W : World} {g : Nat} {f0 : List Int} {f1 : Int} {f2 : Int} {f3 : Int} (h : IsS91 w0 W g f0 f1 f2 f3) : w0.heap.size ≤ g := by
  obtain ⟨A, c, hb, hg, _⟩ := h
  exact hg
theorem IsS91.lt {w0 W : World} {g : Nat} {f0 : List Int} {f1 : Int} {f2 : Int} {f3 : Int} (h : IsS91 w0 W g f0 f1 f2 f3) : g < W.heap.size := by
  obtain ⟨cs, hb⟩ := h.blk
  exact blk_lt hb
theorem IsS91.fresh {w0 W : World} {g : Nat} {f0 : List Int} {f1 : Int} {f2 : Int} {f3 : Int} (h : IsS91 w0 W g f0 f1 f2 f3) : ∀ k, W.heap.size ≤ k → k ≠ g := by
  have := h.lt
  intro k hk e
  omega
theorem IsS91.below {w0 W : World} {g : Nat} {f0 : List Int} {f1 : Int} {f2 : Int} {f3 : Int} {W1 : World} (h : IsS91 w0 W g f0 f1 f2 f3) (hw : Below W.heap.size W W1) : IsS91 w0 W1 g f0 f1 f2 f3 := by
  obtain ⟨A, c, hb, hg, hS⟩ := h
  exact ⟨A, c, blk_below hb hw, hg, hS.keep (KeepBut.of_below hw g none)⟩
theorem IsS91.alloc {w0 W : World} {g : Nat} {f0 : List Int} {f1 : Int} {f2 : Int} {f3 : Int} (h : IsS91 w0 W g f0 f1 f2 f3) (o : Obj) : IsS91 w0 (W.alloc o) g f0 f1 f2 f3 := h.below (below_alloc (Below.refl _ _) o)
theorem IsS91.drewN {w0 W : World} {g : Nat} {f0 : List Int} {f1 : Int} {f2 : Int} {f3 : Int} (h : IsS91 w0 W g f0 f1 f2 f3) (m : Nat) : IsS91 w0 (W.drewN m) g f0 f1 f2 f3 := h
theorem IsS91.drew {w0 W : World} {g : Nat} {f0 : List Int} {f1 : Int} {f2 : Int} {f3 : Int} (h : IsS91 w0 W g f0 f1 f2 f3) : IsS91 w0 W.drew g f0 f1 f2 f3 := h
theorem IsS91.at_ {w0 W : World} {g : Nat} {f0 : List Int} {f1 : Int} {f2 : Int} {f3 : Int} {w' : World} {m : Nat} (hq : W.drewN m = w') (h : IsS91 w0 W g f0 f1 f2 f3) : IsS91 w0 w' g f0 f1 f2 f3 := by subst hq; exact IsS91.drewN h m
theorem IsS91.apart {w0 W : World} {g : Nat} {f0 : List Int} {f1 : Int} {f2 : Int} {f3 : Int} {α : Type} {d : Kd α} {e : Nat} {base : Nat} {ok : Nat → Prop} {v : Value} {xs : List α} (h : IsS91 w0 W g f0 f1 f2 f3) (ho : d.R e W base ok v xs) (ht : ∀ q, q ∈ e :: d.E → q ≠ 91) : d.R e W base (fun k => ok k ∧ k ≠ g) v xs := by
  obtain ⟨cs, hb⟩ := h.blk
  exact Kd.R_types ho hb ht
theorem IsS91.own_ne {w0 W : World} {g : Nat} {f0 : List Int} {f1 : Int} {f2 : Int} {f3 : Int} {α : Type} {d : Kd α} {e : Nat} {base : Nat} {ok : Nat → Prop} {v : Value} {xs : List α} (h : IsS91 w0 W g f0 f1 f2 f3) (ho : d.R e W base ok v xs) (ht : e ≠ 91) : some g ≠ v.ownBlock := by
  obtain ⟨cs, hb⟩ := h.blk
  exact Kd.R_ne ho hb ht
theorem IsS91.apartQ {w0 W : World} {g : Nat} {f0 : List Int} {f1 : Int} {f2 : Int} {f3 : Int} {α : Type} {d : Kd α} {e : Nat} {base : Nat} {ok : Nat → Prop} {v : Value} {xs : List α} (h : IsS91 w0 W g f0 f1 f2 f3) (ho : d.Q e W base ok v xs) (ht : ∀ q, q ∈ e :: d.E → q ≠ 91) : d.Q e W base (fun k => ok k ∧ k ≠ g) v xs := by
  obtain ⟨cs, hb⟩ := h.blk
  exact Kd.Q_types ho hb ht
theorem IsS91.own_neQ {w0 W : World} {g : Nat} {f0 : List Int} {f1 : Int} {f2 : Int} {f3 : Int} {α : Type} {d : Kd α} {e : Nat} {base : Nat} {ok : Nat → Prop} {v : Value} {xs : List α} (h : IsS91 w0 W g f0 f1 f2 f3) (ho : d.Q e W base ok v xs) (ht : e ≠ 91) : some g ≠ v.ownBlock := by
  obtain ⟨cs, hb⟩ := h.blk
  exact Kd.Q_ne ho hb ht
theorem IsS91.apartS {w0 W : World} {g : Nat} {f0 : List Int} {f1 : Int} {f2 : Int} {f3 : Int} {α : Type} {d : Kd α} {e : Nat} {base : Nat} {ok : Nat → Prop} {v : Value} {xs : List α} (h : IsS91 w0 W g f0 f1 f2 f3) (ho : d.S e W base ok v xs) (ht : ∀ q, q ∈ e :: d.E → q ≠ 91) : d.S e W base (fun k => ok k ∧ k ≠ g) v xs := by
  obtain ⟨cs, hb⟩ := h.blk
  exact Kd.S_types ho hb ht
theorem IsS91.own_neS {w0 W : World} {g : Nat} {f0 : List Int} {f1 : Int} {f2 : Int} {f3 : Int} {α : Type} {d : Kd α} {e : Nat} {base : Nat} {ok : Nat → Prop} {v : Value} {xs : List α} (h : IsS91 w0 W g f0 f1 f2 f3) (ho : d.S e W base ok v xs) (ht : e ≠ 91) : some g ≠ v.ownBlock := by
  obtain ⟨cs, hb⟩ := h.blk
  exact Kd.S_ne ho hb ht
theorem IsS91.own_neN {w0 W : World} {g : Nat} {f0 : List Int} {f1 : Int} {f2 : Int} {f3 : Int} {α : Type} {d : Kd α} {e : Nat} {base : Nat} {ok : Nat → Prop} {v : Value} {xs : List α} (h : IsS91 w0 W g f0 f1 f2 f3) (ho : Kd.N d e W base ok v xs) (ht : e ≠ 91) : some g ≠ v.ownBlock := by
  obtain ⟨cs, hb⟩ := h.blk
  exact Kd.N_ne ho hb ht
theorem IsS91.ne_blk {w0 W : World} {g : Nat} {f0 : List Int} {f1 : Int} {f2 : Int} {f3 : Int} {a : Nat} {cs : Array Value} {t : TypeId} {fr : Nat × Nat} (h : IsS91 w0 W g f0 f1 f2 f3) (hb2 : W.heap[a]? = some (.cells cs t fr)) (ht : t ≠ 91) : g ≠ a := by
  obtain ⟨cs, hb⟩ := h.blk
  rintro rfl
  rw [hb] at hb2
  injection hb2 with hb2
  injection hb2 with _ ht2
  exact ht ht2.symm
theorem IsS91.off {w0 W : World} {g : Nat} {f0 : List Int} {f1 : Int} {f2 : Int} {f3 : Int} {α : Type} {d : Kd α} {e : Nat} {base : Nat} {ok : Nat → Prop} {v : Value} {xs : List α} (h : IsS91 w0 W g f0 f1 f2 f3) (ho : d.R e W base ok v xs) (ht : e ≠ 91 ∧ e ≠ 5) : ∀ k, v.ownBlock = some k → ∃ cells, W.heap[k]? = some (.cells cells e (0, 0)) ∧ e ≠ 91 ∧ e ≠ 5 := by
  intro k hk
  obtain ⟨cells, hc⟩ := Kd.R_typed ho k hk
  exact ⟨cells, hc, ht⟩
theorem IsS91.grown {w0 W : World} {g : Nat} {f0 : List Int} {f1 : Int} {f2 : Int} {f3 : Int} {W1 : World} {row : Option Nat} (h : IsS91 w0 W g f0 f1 f2 f3) (hw : W.grownBy W1 row) {e : Nat} (hne : ∀ k, row = some k → ∃ cells, W.heap[k]? = some (.cells cells e (0, 0)) ∧ e ≠ 91 ∧ e ≠ 5) : IsS91 w0 W1 g f0 f1 f2 f3 := by
  obtain ⟨A, c, hb, hg, hS⟩ := h
  have aux : ∀ k cs t, W.heap[k]? = some (.cells cs t (0, 0)) → (t = 91 ∨ t = 5) → some k ≠ row := by
    intro k cs t hk ht e2
    obtain ⟨cells, hc, h1, h2⟩ := hne k e2.symm
    rw [hk] at hc
    injection hc with hc
    injection hc with _ hc
    rcases ht with rfl | rfl
    · exact h1 hc.symm
    · exact h2 hc.symm
  exact ⟨A, c, blk_grown hb hw (aux _ _ _ hb (.inl rfl)), hg, hS.step (fun k ⟨cells, hk⟩ _ => hw.block k (blk_lt hk) (aux _ _ _ hk (.inr rfl))) hw.size⟩

/-! ### quill_Unroll: function 30 -/
open Go.Proofs.YtmcnipjfigbkeaaK
def quill_Unroll.f (l0 : List Int) : Option (List Int × Int × Int × Int) := unroll_f l0
theorem quill_Unroll.calls (A0 : Option Addr) (c0 : Nat) (l0 : List Int) (r1 : List Int) (r2 : Int) (r3 : Int) (r4 : Int) (w0 w : World) (hB : Below w0.heap.size w0 w) (hr0 : Kd.C (Kd.int .u8) w A0 l0.length l0) (hc0 : l0.length ≤ c0) (h : quill_Unroll.f l0 = some (r1, r2, r3, r4)) :
    Calls Try.prog 30 #[.slice A0 l0.length c0] w fun e w' => ∃ g_ : Nat, e = .returned (.pointer (some ⟨g_, 0, none⟩)) ∧ IsS91 w0 w' g_ r1 r2 r3 r4 ∧ Below w0.heap.size w0 w' ∧ Below w.heap.size w w' :=
  unroll_calls A0 c0 l0 r1 r2 r3 r4 w0 w hB hr0 hc0 h


/-! ### quill_Strip_Where: function 35 -/
open Go.Proofs.YtmcnipjfigbkeaaK
def quill_Strip_Where.f (s0_0 : List Int) (s0_1 : Int) (s0_2 : Int) (s0_3 : Int) : Option (Int × Int × Int × Int) := stripWhere_f s0_0 s0_1 s0_2 s0_3
theorem quill_Strip_Where.calls (g : Nat) (s0_0 : List Int) (s0_1 : Int) (s0_2 : Int) (s0_3 : Int) (r1 : Int) (r2 : Int) (r3 : Int) (r4 : Int) (w0 w : World) (hI : IsS91 w0 w g s0_0 s0_1 s0_2 s0_3) (hB : Below w0.heap.size w0 w) (h : quill_Strip_Where.f s0_0 s0_1 s0_2 s0_3 = some (r1, r2, r3, r4)) :
    Calls Try.prog 35 #[.pointer (some ⟨g, 0, none⟩)] w fun e w' => e = .returned (.int .i64 r1) ∧ IsS91 w0 w' g s0_0 r2 r3 r4 ∧ Below w0.heap.size w0 w' ∧ KeepBut w w' g none :=
  stripWhere_calls g s0_0 s0_1 s0_2 s0_3 r1 r2 r3 r4 w0 w hI hB h

-- NOT PRINTED: function 62 (quill_Strip_read)

-- NOT PRINTED: function 63 (quill_number)


/-! ### quill_Strip_Number: function 31 -/
open Go.Proofs.YtmcnipjfigbkeaaK
def quill_Strip_Number.f (s0_0 : List Int) (s0_1 : Int) (s0_2 : Int) (s0_3 : Int) : Option (Int × Int × Int × Int) := stripNumber_f s0_0 s0_1 s0_2 s0_3
theorem quill_Strip_Number.calls (g : Nat) (s0_0 : List Int) (s0_1 : Int) (s0_2 : Int) (s0_3 : Int) (r1 : Int) (r2 : Int) (r3 : Int) (r4 : Int) (w0 w : World) (hI : IsS91 w0 w g s0_0 s0_1 s0_2 s0_3) (hB : Below w0.heap.size w0 w) (h : quill_Strip_Number.f s0_0 s0_1 s0_2 s0_3 = some (r1, r2, r3, r4)) :
    Calls Try.prog 31 #[.pointer (some ⟨g, 0, none⟩)] w fun e w' => e = .returned (.int .u64 r1) ∧ IsS91 w0 w' g s0_0 r2 r3 r4 ∧ Below w0.heap.size w0 w' ∧ KeepBut w w' g none :=
  stripNumber_calls g s0_0 s0_1 s0_2 s0_3 r1 r2 r3 r4 w0 w hI hB h


/-! ### quill_Strip_Bad: function 32 -/
open Go.Proofs.YtmcnipjfigbkeaaK
def quill_Strip_Bad.f (s0_0 : List Int) (s0_1 : Int) (s0_2 : Int) (s0_3 : Int) : Option (Int × Int × Int × Int × Int) := stripBad_f s0_0 s0_1 s0_2 s0_3
theorem quill_Strip_Bad.calls (g : Nat) (s0_0 : List Int) (s0_1 : Int) (s0_2 : Int) (s0_3 : Int) (r1 : Int) (r2 : Int) (r3 : Int) (r4 : Int) (r5 : Int) (w0 w : World) (hI : IsS91 w0 w g s0_0 s0_1 s0_2 s0_3) (hB : Below w0.heap.size w0 w) (h : quill_Strip_Bad.f s0_0 s0_1 s0_2 s0_3 = some (r1, r2, r3, r4, r5)) :
    Calls Try.prog 32 #[.pointer (some ⟨g, 0, none⟩)] w fun e w' => e = .returned (.tuple #[.int .i64 r1, .int .i64 r2]) ∧ IsS91 w0 w' g s0_0 r3 r4 r5 ∧ Below w0.heap.size w0 w' ∧ KeepBut w w' g none :=
  stripBad_calls g s0_0 s0_1 s0_2 s0_3 r1 r2 r3 r4 r5 w0 w hI hB h

-- NOT PRINTED: function 64 (quill_signed)


/-! ### quill_Strip_Signed: function 33 -/
open Go.Proofs.YtmcnipjfigbkeaaK
def quill_Strip_Signed.f (s0_0 : List Int) (s0_1 : Int) (s0_2 : Int) (s0_3 : Int) : Option (Int × Int × Int × Int) := stripSigned_f s0_0 s0_1 s0_2 s0_3
theorem quill_Strip_Signed.calls (g : Nat) (s0_0 : List Int) (s0_1 : Int) (s0_2 : Int) (s0_3 : Int) (r1 : Int) (r2 : Int) (r3 : Int) (r4 : Int) (w0 w : World) (hI : IsS91 w0 w g s0_0 s0_1 s0_2 s0_3) (hB : Below w0.heap.size w0 w) (h : quill_Strip_Signed.f s0_0 s0_1 s0_2 s0_3 = some (r1, r2, r3, r4)) :
    Calls Try.prog 33 #[.pointer (some ⟨g, 0, none⟩)] w fun e w' => e = .returned (.int .i64 r1) ∧ IsS91 w0 w' g s0_0 r2 r3 r4 ∧ Below w0.heap.size w0 w' ∧ KeepBut w w' g none :=
  stripSigned_calls g s0_0 s0_1 s0_2 s0_3 r1 r2 r3 r4 w0 w hI hB h

/-! ### klaxonlaw01_num: function 34 -/
def klaxonlaw01_num.f (a0 : Int) : Option (Int) := some a0
set_option maxHeartbeats 8000000 in
set_option maxRecDepth 100000 in
theorem klaxonlaw01_num.calls (a0 : Int) (r : Int) (w : World) (h : klaxonlaw01_num.f a0 = some r) :
    Calls Try.prog 34 #[.int .i64 a0] w fun e w' => e = .returned (.int .i64 r) ∧ Drawn0 w w' := by
  have H : (some a0) = some r := h
  clear h
  obtain rfl := Option.some.inj H
  go_enter Try.func34, Try.ntmps34
  go_wp2
  go_ret
  exact ⟨by first | rfl | (simp; done) | (simp [*]; done), by repeat (first | exact Drawn0.refl _ | apply Drawn0.step)⟩

/-! ### quill_Signed: function 36 -/
def quill_Signed.l0 : Nat → List Int → List Int → Int → Int → Option (List Int)
  | 0, _, _, _, _ => none
  | k + 1, x0, x7, x8, x9 => if x9 < x8 then (if 0 ≤ x9 then (if x9 < (x7.length : Int) then (if (rd x7 x9) < 0 then (if x0.length < 140737488355328 then ((quill_digits.f (x0 ++ [45]) (IntKind.u64.wrap (-(IntKind.u64.wrap (rd x7 x9))))).bind fun t119 => (quill_Signed.l0 k t119 x7 x8 (wrap64 (x9 + 1)))) else (none)) else (if x0.length < 140737488355328 then ((quill_digits.f (x0 ++ [43]) (IntKind.u64.wrap (rd x7 x9))).bind fun t125 => (quill_Signed.l0 k t125 x7 x8 (wrap64 (x9 + 1)))) else (none))) else (none)) else (none)) else (some x0)
def quill_Signed.f (k : Nat) (l0 : List Int) (l1 : List Int) : Option (List Int) := quill_Signed.l0 k l0 l1 (l1.length : Int) 0
theorem quill_Signed.mono_l : ∀ k, (∀ y0 y1 y2 y3, LeO (quill_Signed.l0 k y0 y1 y2 y3) (quill_Signed.l0 (k + 1) y0 y1 y2 y3))
  | 0 => fun _ _ _ _ r h => by simp [quill_Signed.l0] at h
  | k + 1 => by
    have ih0 := quill_Signed.mono_l k
    · intro y0 y1 y2 y3
      unfold quill_Signed.l0
      repeat' first
      | (with_reducible exact ih0 _ _ _ _)
      | (with_reducible exact LeO.refl _)
      | (with_reducible exact LeO.none _)
      | (with_reducible refine LeO.ite ?_ ?_)
      | (with_reducible refine LeO.bind ?_ (fun _ => ?_))
      | exact ih0 _ _ _ _
      | exact LeO.none _
      | refine LeO.ite ?_ ?_
      | refine LeO.bind ?_ (fun _ => ?_)
theorem quill_Signed.mono : ∀ a0 a1 k, LeO (quill_Signed.f k a0 a1) (quill_Signed.f (k + 1) a0 a1) := by
  intro a0 a1 k
  have ih0 := quill_Signed.mono_l k
  unfold quill_Signed.f
  repeat' first
      | (with_reducible exact ih0 _ _ _ _)
      | (with_reducible exact LeO.refl _)
      | (with_reducible exact LeO.none _)
      | (with_reducible refine LeO.ite ?_ ?_)
      | (with_reducible refine LeO.bind ?_ (fun _ => ?_))
      | exact ih0 _ _ _ _
      | exact LeO.none _
      | refine LeO.ite ?_ ?_
      | refine LeO.bind ?_ (fun _ => ?_)
set_option maxHeartbeats 8000000 in
set_option maxRecDepth 100000 in
theorem quill_Signed.calls (k : Nat) (P0_ : Nat → Prop) (u9000_ : Value) (l0 : List Int) (A1 : Option Addr) (c1 : Nat) (l1 : List Int) (r : List Int) (w0 w : World) (hB : Below w0.heap.size w0 w) (ho0 : Kd.R (Kd.int .u8) 5 w w0.heap.size P0_ u9000_ l0) (hr1 : ∀ W_, Kept w W_ (fun k_ => P0_ k_) → Kd.C (Kd.int .i64) W_ A1 l1.length l1) (hc1 : l1.length ≤ c1) (h : quill_Signed.f k l0 l1 = some r) :
    Calls Try.prog 36 #[u9000_, .slice A1 l1.length c1] w fun e w' => ∃ v0_ : Value, e = .returned (v0_) ∧ Kd.R (Kd.int .u8) 5 w' w0.heap.size (fun k_ => (P0_ k_ ∨ w.heap.size ≤ k_)) v0_ r ∧ Below w0.heap.size w0 w' ∧ Kept w w' (fun k_ => P0_ k_) := by
  have HO0 := Aside0.mk (show Kd.R (Kd.int .u8) 5 w w0.heap.size (fun k_ => (P0_ k_ ∨ w.heap.size ≤ k_)) u9000_ l0 from Kd.R_mono ho0 (fun k_ hk => (.inl hk)))
  have HR1 := Aside0.mk hr1
  have HC1 := Aside0.mk hc1
  clear hr1 hc1
  have HK := Aside0.mk (Kept.refl w (fun k_ => P0_ k_))
  have HW0 := Aside0.mk hB.size
  have HB := Aside0.mk hB
  clear hB
  have H : (quill_Signed.l0 k l0 l1 (l1.length : Int) 0) = some r := h
  clear h
  have H' := Aside0.mk H
  clear H
  go_enter Try.func36, Try.ntmps36
  go_wp2
  go_loopg [0, 9] k (fun kq v0 v9 w' => ∃ (x0_1 : List Int) (x9_1 : Int), v9 = .int .i64 x9_1 ∧ Aside0 (quill_Signed.l0 kq x0_1 l1 (l1.length : Int) x9_1 = some r) ∧ Aside0 (kq ≤ k) ∧ Aside0 (Kd.R (Kd.int .u8) 5 w' w0.heap.size (fun k_ => (P0_ k_ ∨ w.heap.size ≤ k_)) v0 x0_1) ∧ Aside0 (Kept w w' (fun k_ => P0_ k_)) ∧ Aside0 (Below w0.heap.size w0 w'))
  case atStart => exact ⟨(l0), (0), (by first | rfl | (simp; done) | (simp [*]; done)), H', ⟨Nat.le_refl _⟩, ⟨by (with_reducible repeat (first | apply Kd.R_alloc | apply Kd.R_drewN | apply Kd.R_drew)); exact HO0.out⟩, ⟨by repeat (first | (with_reducible first | exact HK.out | apply Kept.alloc | apply Kept.drewN | apply Kept.drew) | exact HK.out)⟩, ⟨by repeat (first | (with_reducible first | exact HB.out | apply below_alloc | apply pw_below_drewN | apply below_drew1) | exact HB.out)⟩⟩
  case round =>
    clear H'
    try clear c1
    try clear p2
    obtain ⟨x0_1, x9_1, rfl, HA, HK1, HO_0, HK, HB⟩ := hrel
    cases gk with
    | zero => exact absurd HA.out (by simp [quill_Signed.l0])
    | succ k1 =>
      have H := HA.out
      clear HA
      simp only [quill_Signed.l0] at H
      by_cases c3 : x9_1 < (l1.length : Int)
      · rw [if_pos c3] at H
        have c3b0 : decide (x9_1 < (l1.length : Int)) = true := decide_eq_true c3
        clear c3
        by_cases c4 : 0 ≤ x9_1
        · rw [if_pos c4] at H
          have c4b0 : decide (0 ≤ x9_1) = true := decide_eq_true c4
          clear c4
          by_cases c5 : x9_1 < (l1.length : Int)
          · rw [if_pos c5] at H
            have c5b0 : decide (x9_1 < (l1.length : Int)) = true := decide_eq_true c5
            clear c5
            by_cases c6 : (rd l1 x9_1) < 0
            · rw [if_pos c6] at H
              have c6b0 : decide ((rd l1 x9_1) < 0) = true := decide_eq_true c6
              clear c6
              by_cases c7 : x0_1.length < 140737488355328
              · rw [if_pos c7] at H
                have LMc7 := Aside0.mk c7
                clear c7
                obtain ⟨y116, hy116⟩ : ∃ y_ : List Int, y_ = (x0_1 ++ [45]) := ⟨_, rfl⟩
                replace H : ((quill_digits.f y116 (IntKind.u64.wrap (-(IntKind.u64.wrap (rd l1 x9_1))))).bind fun t119 => (quill_Signed.l0 k1 t119 l1 (l1.length : Int) (wrap64 (x9_1 + 1)))) = some r := by first | (rw [hy116]; with_reducible exact H) | (have H2_ := (Option.bind_some _ _).symm.trans H; rw [hy116]; with_reducible exact H2_) | (have H2_ := (Option.bind_some _ _).symm.trans H; with_reducible exact H2_) | with_reducible exact H | (rw [hy116]; exact H) | exact H
                have Ny116 := Aside0.mk hy116
                clear hy116
                replace H := Option.bind_eq_some_iff.mp H
                obtain ⟨t119, A80, H⟩ := H
                replace H : (quill_Signed.l0 k1 t119 l1 (l1.length : Int) (wrap64 (x9_1 + 1))) = some r := H
                have A8 := Aside0.mk A80
                clear A80
                have H' := Aside0.mk H
                clear H
                have p115 : 0 ≤ (x9_1 : Int) := of_decide_eq_true (by first | (with_reducible assumption) | assumption)
                have q115 : x9_1 < (l1.length : Int) := of_decide_eq_true (by first | (with_reducible assumption) | assumption)
                obtain ⟨ad115, e115, hx115_0⟩ := Kd.at_int (Kd.C_kept_now HR1.out HK.out) x9_1 p115 q115
                cases e115
                replace p115 := eq_true p115
                replace q115 := eq_true q115
                go_wp2_with (first | ((with_reducible refine gate_builtin (b := .append) (xs := #[.tmp 15, .tmp 16]) rfl ?_); at_builtin; refine Kd.R_append (Kd.int .u8) (w0 := w0) w0.heap.size rfl (.tmp 15) (.tmp 16) 50 5 (.int .u8 0) 1 rfl Try.underlying50 info5 rfl (by decide) (by omega) u0 x0_1 45 [.int .u8 45] (fun k_ => (P0_ k_ ∨ w.heap.size ≤ k_)) (fun _ => False) rfl rfl ?aP (fun _ hk => hk.elim) ?aF ?aO ?aB ?aS ?aL ?_; (case aP => exact rfl); (case aB => exact (by repeat (first | (with_reducible first | exact HB.out | apply below_alloc | apply pw_below_drewN | apply below_drew1) | exact HB.out))); (case aF => exact (fun k_ hk => (.inr (Nat.le_trans (by first | exact HK.out.1 | exact (show Kept w _ (fun k_ => P0_ k_) from by repeat (first | (with_reducible first | exact HK.out | apply Kept.alloc | apply Kept.drewN | apply Kept.drew) | exact HK.out)).1) hk)))); (case aO => exact (by (with_reducible repeat (first | apply Kd.R_alloc | apply Kd.R_drewN | apply Kd.R_drew)); exact HO_0.out)); (case aS => exact (below_size (by repeat (first | (with_reducible first | exact HB.out | apply below_alloc | apply pw_below_drewN | apply below_drew1) | exact HB.out)))); (case aL => have := LMc7.out; omega); intro v117 w9 ho hb hg hat; rw [← Ny116.out] at ho; have n0_ := Aside0.mk (hb); have n1_ := Aside0.mk (Kept.of_grown (S := (fun k_ => P0_ k_)) hg (by repeat (first | (with_reducible first | exact HK.out | apply Kept.alloc | apply Kept.drewN | apply Kept.drew) | exact HK.out)) (fun k_ e_ => (HO_0.out.1 k_ e_))); have n2_ := Aside0.mk (ho); clear HB; clear HK; clear HO_0; have HB := n0_; have HK := n1_; have HO118 := n2_; clear n0_ n1_ n2_; clear ho hb hg hat; obtain ⟨Ao10, co10, eo10⟩ := Kd.R_slice HO118.out; subst eo10) | ((with_reducible refine gate_callee (f := 60) rfl ?_); refine goesL_ (some 21) rfl rfl Try.func60 (by kernel_rfl) rfl #[.slice Ao10 y116.length co10, .int .u64 (IntKind.u64.wrap (-(IntKind.u64.wrap (rd l1 x9_1))))] rfl (by (try simp only [List.map_toArray, List.map_cons, List.map_nil]); first | done | rfl | (simp only [List.length_drop, List.length_take]; rfl)) ?_; (with_reducible refine (quill_digits.calls (fun k_ => some k_ = (.slice Ao10 y116.length co10 : Value).ownBlock) (.slice Ao10 y116.length co10) y116 (IntKind.u64.wrap (-(IntKind.u64.wrap (rd l1 x9_1)))) t119 w0 _ ?side1 ?side2 A8.out).mono ?_); (case side1 => repeat (first | (with_reducible first | exact HB.out | apply below_alloc | apply pw_below_drewN | apply below_drew1) | exact HB.out)); (case side2 => exact Kd.R_tight rfl HO118.out); rintro e w11 ⟨v120, rfl, ho0, hb, hkp⟩; refine ⟨_, rfl, ?_⟩; have n0_ := Aside0.mk (Kd.R_mono (ok' := fun k_ => (P0_ k_ ∨ w.heap.size ≤ k_)) ho0 (fun k_ hk_ => Or.elim hk_ (fun hs_ => (HO118.out.1 k_ (hs_).symm)) (fun hn_ => (.inr (Nat.le_trans (by first | exact HK.out.1 | exact (show Kept w _ (fun k_ => P0_ k_) from by repeat (first | (with_reducible first | exact HK.out | apply Kept.alloc | apply Kept.drewN | apply Kept.drew) | exact HK.out)).1) hn_))))); have n1_ := Aside0.mk (Kept.then_ (S := (fun k_ => P0_ k_)) (by repeat (first | (with_reducible first | exact HK.out | apply Kept.alloc | apply Kept.drewN | apply Kept.drew) | exact HK.out)) hkp (fun k_ hs_ => (fun e_ => (HO118.out.1 k_ e_.symm)) hs_)); have n2_ := Aside0.mk (hb); clear HK; clear HB; clear HO118; have HO121 := n0_; have HK := n1_; have HB := n2_; clear n0_ n1_ n2_; (try clear hb); (try clear hkp); (try clear ho0)))
                go_roundg k1
                case measure => have := HK1.out; omega
                case rel => exact ⟨(t119), (wrap64 (x9_1 + 1)), (by first | rfl | (simp; done) | (simp [*]; done)), H', ⟨by have := HK1.out; omega⟩, ⟨by (with_reducible repeat (first | apply Kd.R_alloc | apply Kd.R_drewN | apply Kd.R_drew)); exact HO121.out⟩, ⟨by repeat (first | (with_reducible first | exact HK.out | apply Kept.alloc | apply Kept.drewN | apply Kept.drew) | exact HK.out)⟩, ⟨by repeat (first | (with_reducible first | exact HB.out | apply below_alloc | apply pw_below_drewN | apply below_drew1) | exact HB.out)⟩⟩
              · rw [if_neg c7] at H
                exact absurd H (by simp)
            · rw [if_neg c6] at H
              have c6b0 : decide ((rd l1 x9_1) < 0) = false := decide_eq_false c6
              clear c6
              by_cases c12 : x0_1.length < 140737488355328
              · rw [if_pos c12] at H
                have LMc12 := Aside0.mk c12
                clear c12
                obtain ⟨y122, hy122⟩ : ∃ y_ : List Int, y_ = (x0_1 ++ [43]) := ⟨_, rfl⟩
                replace H : ((quill_digits.f y122 (IntKind.u64.wrap (rd l1 x9_1))).bind fun t125 => (quill_Signed.l0 k1 t125 l1 (l1.length : Int) (wrap64 (x9_1 + 1)))) = some r := by first | (rw [hy122]; with_reducible exact H) | (have H2_ := (Option.bind_some _ _).symm.trans H; rw [hy122]; with_reducible exact H2_) | (have H2_ := (Option.bind_some _ _).symm.trans H; with_reducible exact H2_) | with_reducible exact H | (rw [hy122]; exact H) | exact H
                have Ny122 := Aside0.mk hy122
                clear hy122
                replace H := Option.bind_eq_some_iff.mp H
                obtain ⟨t125, A130, H⟩ := H
                replace H : (quill_Signed.l0 k1 t125 l1 (l1.length : Int) (wrap64 (x9_1 + 1))) = some r := H
                have A13 := Aside0.mk A130
                clear A130
                have H' := Aside0.mk H
                clear H
                have p115 : 0 ≤ (x9_1 : Int) := of_decide_eq_true (by first | (with_reducible assumption) | assumption)
                have q115 : x9_1 < (l1.length : Int) := of_decide_eq_true (by first | (with_reducible assumption) | assumption)
                obtain ⟨ad115, e115, hx115_0⟩ := Kd.at_int (Kd.C_kept_now HR1.out HK.out) x9_1 p115 q115
                cases e115
                replace p115 := eq_true p115
                replace q115 := eq_true q115
                go_wp2_with (first | ((with_reducible refine gate_builtin (b := .append) (xs := #[.tmp 22, .tmp 23]) rfl ?_); at_builtin; refine Kd.R_append (Kd.int .u8) (w0 := w0) w0.heap.size rfl (.tmp 22) (.tmp 23) 50 5 (.int .u8 0) 1 rfl Try.underlying50 info5 rfl (by decide) (by omega) u0 x0_1 43 [.int .u8 43] (fun k_ => (P0_ k_ ∨ w.heap.size ≤ k_)) (fun _ => False) rfl rfl ?aP (fun _ hk => hk.elim) ?aF ?aO ?aB ?aS ?aL ?_; (case aP => exact rfl); (case aB => exact (by repeat (first | (with_reducible first | exact HB.out | apply below_alloc | apply pw_below_drewN | apply below_drew1) | exact HB.out))); (case aF => exact (fun k_ hk => (.inr (Nat.le_trans (by first | exact HK.out.1 | exact (show Kept w _ (fun k_ => P0_ k_) from by repeat (first | (with_reducible first | exact HK.out | apply Kept.alloc | apply Kept.drewN | apply Kept.drew) | exact HK.out)).1) hk)))); (case aO => exact (by (with_reducible repeat (first | apply Kd.R_alloc | apply Kd.R_drewN | apply Kd.R_drew)); exact HO_0.out)); (case aS => exact (below_size (by repeat (first | (with_reducible first | exact HB.out | apply below_alloc | apply pw_below_drewN | apply below_drew1) | exact HB.out)))); (case aL => have := LMc12.out; omega); intro v123 w14 ho hb hg hat; rw [← Ny122.out] at ho; have n0_ := Aside0.mk (hb); have n1_ := Aside0.mk (Kept.of_grown (S := (fun k_ => P0_ k_)) hg (by repeat (first | (with_reducible first | exact HK.out | apply Kept.alloc | apply Kept.drewN | apply Kept.drew) | exact HK.out)) (fun k_ e_ => (HO_0.out.1 k_ e_))); have n2_ := Aside0.mk (ho); clear HB; clear HK; clear HO_0; have HB := n0_; have HK := n1_; have HO124 := n2_; clear n0_ n1_ n2_; clear ho hb hg hat; obtain ⟨Ao15, co15, eo15⟩ := Kd.R_slice HO124.out; subst eo15) | ((with_reducible refine gate_callee (f := 60) rfl ?_); refine goesL_ (some 27) rfl rfl Try.func60 (by kernel_rfl) rfl #[.slice Ao15 y122.length co15, .int .u64 (IntKind.u64.wrap (rd l1 x9_1))] rfl (by (try simp only [List.map_toArray, List.map_cons, List.map_nil]); first | done | rfl | (simp only [List.length_drop, List.length_take]; rfl)) ?_; (with_reducible refine (quill_digits.calls (fun k_ => some k_ = (.slice Ao15 y122.length co15 : Value).ownBlock) (.slice Ao15 y122.length co15) y122 (IntKind.u64.wrap (rd l1 x9_1)) t125 w0 _ ?side1 ?side2 A13.out).mono ?_); (case side1 => repeat (first | (with_reducible first | exact HB.out | apply below_alloc | apply pw_below_drewN | apply below_drew1) | exact HB.out)); (case side2 => exact Kd.R_tight rfl HO124.out); rintro e w16 ⟨v126, rfl, ho0, hb, hkp⟩; refine ⟨_, rfl, ?_⟩; have n0_ := Aside0.mk (Kd.R_mono (ok' := fun k_ => (P0_ k_ ∨ w.heap.size ≤ k_)) ho0 (fun k_ hk_ => Or.elim hk_ (fun hs_ => (HO124.out.1 k_ (hs_).symm)) (fun hn_ => (.inr (Nat.le_trans (by first | exact HK.out.1 | exact (show Kept w _ (fun k_ => P0_ k_) from by repeat (first | (with_reducible first | exact HK.out | apply Kept.alloc | apply Kept.drewN | apply Kept.drew) | exact HK.out)).1) hn_))))); have n1_ := Aside0.mk (Kept.then_ (S := (fun k_ => P0_ k_)) (by repeat (first | (with_reducible first | exact HK.out | apply Kept.alloc | apply Kept.drewN | apply Kept.drew) | exact HK.out)) hkp (fun k_ hs_ => (fun e_ => (HO124.out.1 k_ e_.symm)) hs_)); have n2_ := Aside0.mk (hb); clear HK; clear HB; clear HO124; have HO127 := n0_; have HK := n1_; have HB := n2_; clear n0_ n1_ n2_; (try clear hb); (try clear hkp); (try clear ho0)))
                go_roundg k1
                case measure => have := HK1.out; omega
                case rel => exact ⟨(t125), (wrap64 (x9_1 + 1)), (by first | rfl | (simp; done) | (simp [*]; done)), H', ⟨by have := HK1.out; omega⟩, ⟨by (with_reducible repeat (first | apply Kd.R_alloc | apply Kd.R_drewN | apply Kd.R_drew)); exact HO127.out⟩, ⟨by repeat (first | (with_reducible first | exact HK.out | apply Kept.alloc | apply Kept.drewN | apply Kept.drew) | exact HK.out)⟩, ⟨by repeat (first | (with_reducible first | exact HB.out | apply below_alloc | apply pw_below_drewN | apply below_drew1) | exact HB.out)⟩⟩
              · rw [if_neg c12] at H
                exact absurd H (by simp)
          · rw [if_neg c5] at H
            exact absurd H (by simp)
        · rw [if_neg c4] at H
          exact absurd H (by simp)
      · rw [if_neg c3] at H
        have c3b0 : decide (x9_1 < (l1.length : Int)) = false := decide_eq_false c3
        clear c3
        obtain rfl := Option.some.inj H
        go_wp2
        go_ret
        exact ⟨_, by first | rfl | (simp [errW_none, errW_some] <;> rfl) | (simp [*, errW_none, errW_some] <;> rfl), by (with_reducible repeat (first | apply Kd.R_alloc | apply Kd.R_drewN | apply Kd.R_drew)); exact HO_0.out, by repeat (first | (with_reducible first | exact HB.out | apply below_alloc | apply pw_below_drewN | apply below_drew1) | exact HB.out), by repeat (first | (with_reducible first | exact HK.out | apply Kept.alloc | apply Kept.drewN | apply Kept.drew) | exact HK.out)⟩


/-! ### quill_Mark: function 37 -/
open Go.Proofs.YtmcnipjfigbkeaaK
def quill_Mark.f (l0 : List (List Int)) : Option Int := if l0.all Go.Crc.bytesB then some (Go.Crc.crc l0.flatten) else none
theorem quill_Mark.calls (A0 : Option Addr) (c0 : Nat) (l0 : List (List Int)) (r : Int) (w : World) (hr0 : Kd.C (Kd.slice 5 (Kd.int .u8)) w A0 l0.length l0) (hc0 : l0.length ≤ c0) (h : quill_Mark.f l0 = some r) :
    Calls Try.prog 37 #[.slice A0 l0.length c0] w fun e w' => e = .returned (.int .u32 r) ∧ Drawn0 w w' := by
  unfold quill_Mark.f at h
  by_cases hb : l0.all Go.Crc.bytesB = true
  · rw [if_pos hb] at h
    obtain rfl := Option.some.inj h
    exact mark_calls A0 l0.length c0 l0 w hr0 hc0 rfl (fun l hl => Go.Crc.bytesB_ok (List.all_eq_true.mp hb l hl))
  · rw [if_neg hb] at h; cases h


/-! ### quill_Strip_More: function 47 -/
open Go.Proofs.YtmcnipjfigbkeaaK
def quill_Strip_More.f (s0_0 : List Int) (s0_1 : Int) (s0_2 : Int) (s0_3 : Int) : Option (Int × Int × Int × Int) := stripMore_f s0_0 s0_1 s0_2 s0_3
theorem quill_Strip_More.calls (g : Nat) (s0_0 : List Int) (s0_1 : Int) (s0_2 : Int) (s0_3 : Int) (r1 : Int) (r2 : Int) (r3 : Int) (r4 : Int) (w0 w : World) (hI : IsS91 w0 w g s0_0 s0_1 s0_2 s0_3) (hB : Below w0.heap.size w0 w) (h : quill_Strip_More.f s0_0 s0_1 s0_2 s0_3 = some (r1, r2, r3, r4)) :
    Calls Try.prog 47 #[.pointer (some ⟨g, 0, none⟩)] w fun e w' => e = .returned (.int .i64 r1) ∧ IsS91 w0 w' g s0_0 r2 r3 r4 ∧ Below w0.heap.size w0 w' ∧ KeepBut w w' g none :=
  stripMore_calls g s0_0 s0_1 s0_2 s0_3 r1 r2 r3 r4 w0 w hI hB h


/-! ### quill_Strip_Over: function 45 -/
open Go.Proofs.YtmcnipjfigbkeaaK
def quill_Strip_Over.f (s0_0 : List Int) (s0_1 : Int) (s0_2 : Int) (s0_3 : Int) : Option (Int × Int × Int × Int) := stripOver_f s0_0 s0_1 s0_2 s0_3
theorem quill_Strip_Over.calls (g : Nat) (s0_0 : List Int) (s0_1 : Int) (s0_2 : Int) (s0_3 : Int) (r1 : Int) (r2 : Int) (r3 : Int) (r4 : Int) (w0 w : World) (hI : IsS91 w0 w g s0_0 s0_1 s0_2 s0_3) (hB : Below w0.heap.size w0 w) (h : quill_Strip_Over.f s0_0 s0_1 s0_2 s0_3 = some (r1, r2, r3, r4)) :
    Calls Try.prog 45 #[.pointer (some ⟨g, 0, none⟩)] w fun e w' => e = .returned (.int .i64 r1) ∧ IsS91 w0 w' g s0_0 r2 r3 r4 ∧ Below w0.heap.size w0 w' ∧ KeepBut w w' g none :=
  stripOver_calls g s0_0 s0_1 s0_2 s0_3 r1 r2 r3 r4 w0 w hI hB h


/-! ### klaxonlaw01_live: function 28 -/
open Go.Proofs.YtmcnipjfigbkeaaK
theorem lit_readsF (w : World) (k : IntKind) (t : Nat) (fr : Nat × Nat) (l : List Int) (hl : l.length ≤ 9223372036854775807) : Kd.C (Kd.int k) (w.alloc (.cells (l.map (.int k)).toArray t fr)) (some ⟨w.heap.size, 0, none⟩) l.length l := by
  refine ⟨rfl, hl, fun _ => ⟨_, rfl, fun j p hj => ⟨[.int k p], rfl, rfl, fun i u hu => ?_⟩⟩⟩
  obtain rfl : i = 0 := by
    rcases i with _ | i
    · rfl
    · simp at hu
  obtain rfl : u = .int k p := by simpa using hu.symm
  have h := cell_of_row (w.alloc (.cells (l.map (.int k)).toArray t fr)) w.heap.size j _ t fr (blk_new w _)
  have e : (Addr.add ⟨w.heap.size, 0, none⟩ (j * (Kd.int k).sz + 0)) = ⟨w.heap.size, j, none⟩ := by
    show Addr.add _ (j * 1 + 0) = _
    by_cases h0 : j = 0 <;> simp [Addr.add, h0]
  rw [e, h]
  simp [hj]
theorem two_rows (w : World) : Kd.C (Kd.slice 5 (Kd.int .u8)) (((w.alloc (.cells #[.int .u8 49, .int .u8 50, .int .u8 51, .int .u8 52] 5 (4, 5))).alloc (.cells #[.int .u8 53, .int .u8 54, .int .u8 55, .int .u8 56, .int .u8 57] 5 (5, 6))).alloc (.cells #[.slice (some ⟨w.heap.size, 0, none⟩) 4 4, .slice (some ⟨w.heap.size + 1, 0, none⟩) 5 5] 50)) (some ⟨w.heap.size + 1 + 1, 0, none⟩) 2 [[49, 50, 51, 52], [53, 54, 55, 56, 57]] := by
  have c1 := Kd.C_alloc (Kd.C_alloc (lit_readsF w .u8 5 (4, 5) [49, 50, 51, 52] (by decide)) (.cells #[.int .u8 53, .int .u8 54, .int .u8 55, .int .u8 56, .int .u8 57] 5 (5, 6))) (.cells #[.slice (some ⟨w.heap.size, 0, none⟩) 4 4, .slice (some ⟨w.heap.size + 1, 0, none⟩) 5 5] 50)
  have c2 := Kd.C_alloc (lit_readsF (w.alloc (.cells #[.int .u8 49, .int .u8 50, .int .u8 51, .int .u8 52] 5 (4, 5))) .u8 5 (5, 6) [53, 54, 55, 56, 57] (by decide)) (.cells #[.slice (some ⟨w.heap.size, 0, none⟩) 4 4, .slice (some ⟨w.heap.size + 1, 0, none⟩) 5 5] 50)
  have hs : (w.alloc (.cells #[.int .u8 49, .int .u8 50, .int .u8 51, .int .u8 52] 5 (4, 5))).heap.size = w.heap.size + 1 := by simp
  rw [hs] at c2
  have hb := blk_new ((w.alloc (.cells #[.int .u8 49, .int .u8 50, .int .u8 51, .int .u8 52] 5 (4, 5))).alloc (.cells #[.int .u8 53, .int .u8 54, .int .u8 55, .int .u8 56, .int .u8 57] 5 (5, 6))) (.cells #[.slice (some ⟨w.heap.size, 0, none⟩) 4 4, .slice (some ⟨w.heap.size + 1, 0, none⟩) 5 5] 50)
  have hs2 : ((w.alloc (.cells #[.int .u8 49, .int .u8 50, .int .u8 51, .int .u8 52] 5 (4, 5))).alloc (.cells #[.int .u8 53, .int .u8 54, .int .u8 55, .int .u8 56, .int .u8 57] 5 (5, 6))).heap.size = w.heap.size + 1 + 1 := by simp
  rw [hs2] at hb
  refine ⟨rfl, by decide, fun _ => ⟨_, rfl, fun j p hj => ?_⟩⟩
  rcases j with _ | _ | j
  · obtain rfl : [49, 50, 51, 52] = p := by simpa using hj
    refine ⟨[.slice (some ⟨w.heap.size, 0, none⟩) 4 4], rfl, ⟨_, 4, rfl, by decide, c1⟩, fun i u hu => ?_⟩
    rcases i with _ | i
    · obtain rfl : u = _ := by simpa using hu.symm
      exact (blk_cell hb 0).trans rfl
    · simp at hu
  · obtain rfl : [53, 54, 55, 56, 57] = p := by simpa using hj
    refine ⟨[.slice (some ⟨w.heap.size + 1, 0, none⟩) 5 5], rfl, ⟨_, 5, rfl, by decide, c2⟩, fun i u hu => ?_⟩
    rcases i with _ | i
    · obtain rfl : u = _ := by simpa using hu.symm
      exact (blk_cell hb 1).trans rfl
    · simp at hu
  · simp at hj
theorem num_300 : ∃ k, quill_Number.f k [] [300] = some [130, 44] := ⟨20, by decide +kernel⟩
theorem sig_1 : ∃ k, quill_Signed.f k [130, 44] [-1] = some [130, 44, 45, 1] := ⟨20, by decide +kernel⟩
theorem mark_9 : quill_Mark.f [[49, 50, 51, 52], [53, 54, 55, 56, 57]] = some 3535941457 := by decide +kernel
theorem unr_1 : quill_Unroll.f [130, 44, 45, 1] = some ([130, 44, 45, 1], 0, 0, 0) := by decide +kernel
theorem unr_2 : quill_Unroll.f [128, 1] = some ([128, 1], 0, 0, 0) := by decide +kernel
theorem rn : quill_Strip_Number.f [130, 44, 45, 1] 0 0 0 = some (300, 2, 0, 0) := by decide +kernel
theorem rs : quill_Strip_Signed.f [130, 44, 45, 1] 2 0 0 = some (-1, 4, 0, 0) := by decide +kernel
theorem sn : quill_Strip_Number.f [128, 1] 0 0 0 = some (0, 0, 10, 0) := by decide +kernel
theorem ro : quill_Strip_Over.f [130, 44, 45, 1] 4 0 0 = some (0, 4, 0, 0) := by decide +kernel
theorem sb : quill_Strip_Bad.f [128, 1] 0 10 0 = some (10, 0, 0, 10, 0) := by decide +kernel
theorem StripIs.other {w0 w0' W W1 : World} {g g1 : Nat} {f0 h0 : List Int} {f1 f2 f3 h1 h2 h3 : Int} (h : Go.Proofs.YtmcnipjfigbkeaaK.StripIs w0 W g f0 f1 f2 f3) (k : Go.Proofs.YtmcnipjfigbkeaaK.StripIs w0' W g1 h0 h1 h2 h3) (hne : g ≠ g1) (hk : KeepBut W W1 g1 none) : Go.Proofs.YtmcnipjfigbkeaaK.StripIs w0 W1 g f0 f1 f2 f3 := by
  obtain ⟨A, c, hb, hg, hS⟩ := h
  obtain ⟨_, _, kb, _, _⟩ := k
  refine ⟨A, c, KeepBut.blk hk hb hne (by simp), hg, hS.step (fun i ⟨cells, hc⟩ _ => hk.2 i (blk_lt hc) (fun e => ?_) (by simp)) hk.1⟩
  subst e
  rw [kb] at hc; simp at hc
theorem two_apart {w w3 w4 : World} {g1 g2 : Nat} {f0 h0 : List Int} {f1 f2 f3 h1 h2 h3 : Int} {o : Obj} (h : IsS91 w w3 g1 f0 f1 f2 f3) (k : IsS91 (w3.alloc o) w4 g2 h0 h1 h2 h3) : g2 ≠ g1 := by
  have a := h.lt
  have b := k.ge
  simp at b
  omega
theorem rebase {w w3 w4 : World} {g2 : Nat} {h0 : List Int} {h1 h2 h3 : Int} (k : IsS91 w3 w4 g2 h0 h1 h2 h3) (hs : w.heap.size ≤ w3.heap.size) : IsS91 w w4 g2 h0 h1 h2 h3 := by
  obtain ⟨A, c, hb, hg, hS⟩ := k
  exact ⟨A, c, hb, Nat.le_trans hs hg, hS⟩
/-- A literal row of numbers is read. -/
theorem lit_reads (w : World) (k : IntKind) (t : Nat) (l : List Int) (hl : l.length ≤ 9223372036854775807) : Kd.C (Kd.int k) (w.alloc (.cells (l.map (.int k)).toArray t)) (some ⟨w.heap.size, 0, none⟩) l.length l := by
  refine ⟨rfl, hl, fun _ => ⟨_, rfl, fun j p hj => ⟨[.int k p], rfl, rfl, fun i u hu => ?_⟩⟩⟩
  obtain rfl : i = 0 := by
    rcases i with _ | i
    · rfl
    · simp at hu
  obtain rfl : u = .int k p := by simpa using hu.symm
  have h := blk_cell (w := w.alloc (.cells (l.map (.int k)).toArray t)) (blk_new w _) j
  have e : (Addr.add ⟨w.heap.size, 0, none⟩ (j * (Kd.int k).sz + 0)) = ⟨w.heap.size, j, none⟩ := by
    show Addr.add _ (j * 1 + 0) = _
    by_cases h0 : j = 0 <;> simp [Addr.add, h0]
  rw [e, h]
  simp [hj]
set_option maxHeartbeats 4000000 in
set_option maxRecDepth 100000 in
theorem live_calls (w : World) : Calls Try.prog 28 #[] w fun e w' => e = .returned (.bool true) ∧ Below w.heap.size w w' := by
  obtain ⟨k1, h1⟩ := num_300
  obtain ⟨k2, h2⟩ := sig_1
  have h3 := mark_9
  go_enter Try.func28, Try.ntmps28
  have L1 := lit_reads w .u64 51 [300] (by decide)
  go_wp2_with fail
  refine (quill_Number.calls k1 (fun _ => False) (.slice none 0 0) [] (some ⟨w.heap.size, 0, none⟩) 1 [300] [130, 44] w _ (below_alloc (Below.refl _ _) _) (Kd.R_nil _ _ _ _ _) (Kd.C_foot_neS (fun h => h) L1 (fun _ _ _ h => h)) (by decide) h1).mono ?_
  rintro e w1 ⟨v1, rfl, hr1, hb1, -⟩
  obtain ⟨A1, c1, rfl⟩ := Kd.R_slice hr1
  have L2 := lit_reads w1 .i64 2 [-1] (by decide)
  have HR1 := Aside0.mk hr1
  have HB1 := Aside0.mk hb1
  clear hr1 hb1 L1
  go_wp2_with fail
  refine (quill_Signed.calls k2 (fun k_ => some k_ = (Value.slice A1 2 c1).ownBlock) (.slice A1 2 c1) [130, 44] (some ⟨w1.heap.size, 0, none⟩) 1 [-1] [130, 44, 45, 1] w _ (below_alloc HB1.out _) (Kd.R_tight rfl (Kd.R_alloc HR1.out _)) (Kd.C_foot_neS (fun h => h) L2 (fun ad e _ h => by injection e with e; subst e; have := Kd.R_lt HR1.out _ h.symm; dsimp only at this; omega)) (by decide) h2).mono ?_
  rintro e w2 ⟨v2, rfl, hr2, hb2, -⟩
  obtain ⟨A2, c2, rfl⟩ := Kd.R_slice hr2
  obtain ⟨_, hcr, hC⟩ := Kd.R_reads' hr2
  have HR2 := Aside0.mk hr2
  have HB2 := Aside0.mk hb2
  have HC2 := Aside0.mk hC
  have HCR := Aside0.mk hcr
  clear hr2 hb2 hC hcr L2
  go_wp2_with fail
  refine (quill_Unroll.calls A2 c2 [130, 44, 45, 1] _ _ _ _ w w2 HB2.out HC2.out HCR.out unr_1).mono ?_
  rintro e w3 ⟨g1, rfl, hi1, hb3, hb23⟩
  have L3 := lit_reads w3 .u8 5 [128, 1] (by decide)
  have HI1 := Aside0.mk hi1
  have HB3 := Aside0.mk hb3
  have HC3 := Aside0.mk (Kd.C_below HC2.out hb23)
  clear hi1 hb3 hb23
  go_wp2_with fail
  refine (quill_Unroll.calls (some ⟨w3.heap.size, 0, none⟩) 2 [128, 1] _ _ _ _ (w3.alloc (.cells #[.int .u8 128, .int .u8 1] 5)) _ (Below.refl _ _) L3 (by decide) unr_2).mono ?_
  rintro e w4 ⟨g2, rfl, hi2, _, hb34⟩
  have hi1' := IsS91.below (HI1.out.alloc _) hb34
  have hcv : (convert 50 9 (.slice A2 4 c2)).run Try.prog w4 = .ok (.string ⟨#[130, 44, 45, 1]⟩) w4 := Kd.C_string (c := c2) Try.underlying50 Try.underlying5 Try.underlying9 (Kd.C_below (Kd.C_alloc HC3.out _) hb34)
  have hg12 : g2 ≠ g1 := two_apart HI1.out hi2
  have hi2' := rebase hi2 (Nat.le_trans HB3.out.size (by simp))
  have hb4 := below_weaken (below_alloc HB3.out _) (below_alloc HB3.out (.cells #[.int .u8 128, .int .u8 1] 5)).size hb34
  have HI1 := Aside0.mk hi1'
  have HI2 := Aside0.mk hi2'
  have HB4 := Aside0.mk hb4
  clear hi1' hi2 hi2' hb4 hb34 L3
  go_wp2_with fail
  refine (quill_Strip_Number.calls g1 [130, 44, 45, 1] 0 0 0 300 2 0 0 w _ HI1.out HB4.out rn).mono ?_
  rintro e w5 ⟨rfl, hi, hb, hk⟩
  have hi2 := StripIs.other HI2.out HI1.out hg12 hk
  have HI1 := Aside0.mk hi
  have HI2 := Aside0.mk hi2
  have HB5 := Aside0.mk hb
  clear hi hb hk hi2 hcv
  go_wp2_with fail
  refine (quill_Strip_Signed.calls g1 [130, 44, 45, 1] 2 0 0 (-1) 4 0 0 w _ HI1.out HB5.out rs).mono ?_
  rintro e w6 ⟨rfl, hi, hb, hk⟩
  have hi2 := StripIs.other HI2.out HI1.out hg12 hk
  have HI1 := Aside0.mk hi
  have HI2 := Aside0.mk hi2
  have HB6 := Aside0.mk hb
  clear hi hb hk hi2
  go_wp2_with fail
  refine (quill_Strip_Number.calls g2 [128, 1] 0 0 0 0 0 10 0 w _ HI2.out HB6.out sn).mono ?_
  rintro e w7 ⟨rfl, hi, hb, hk⟩
  have hi2 := StripIs.other HI1.out HI2.out hg12.symm hk
  have HI2 := Aside0.mk hi
  have HI1 := Aside0.mk hi2
  have HB7 := Aside0.mk hb
  clear hi hb hk hi2
  go_wp2_with fail
  refine (quill_Strip_Over.calls g1 [130, 44, 45, 1] 4 0 0 0 4 0 0 w _ HI1.out HB7.out ro).mono ?_
  rintro e w8 ⟨rfl, hi, hb, hk⟩
  have hi2 := StripIs.other HI2.out HI1.out hg12 hk
  have HI1 := Aside0.mk hi
  have HI2 := Aside0.mk hi2
  have HB8 := Aside0.mk hb
  clear hi hb hk hi2
  go_wp2_with fail
  refine (klaxonlaw01_num.calls 0 0 _ rfl).mono ?_
  rintro e w9 ⟨rfl, ⟨nd, rfl⟩⟩
  go_wp2_with fail
  refine (quill_Strip_Bad.calls g2 [128, 1] 0 10 0 10 0 0 10 0 w _ (HI2.out.drewN _) (pw_below_drewN HB8.out _) sb).mono ?_
  rintro e w10 ⟨rfl, hi, hb, hk⟩
  have HB10 := Aside0.mk hb
  clear hi hb hk
  go_wp2_with fail
  refine (klaxonlaw01_num.calls 10 10 _ rfl).mono ?_
  rintro e w11 ⟨rfl, hd⟩
  have HB11 := Aside0.mk (below_step HB10.out (Drawn0.below hd))
  clear hd
  have cv1 := Lib.run_convert_bytes_const (P := Try.prog) w11 50 5 #[.int .u8 49, .int .u8 50, .int .u8 51, .int .u8 52] 4 4 Try.underlying50 Try.underlying5
  have cv2 := Lib.run_convert_bytes_const (P := Try.prog) (w11.alloc (.cells #[.int .u8 49, .int .u8 50, .int .u8 51, .int .u8 52] 5 (4, 5))) 50 5 #[.int .u8 53, .int .u8 54, .int .u8 55, .int .u8 56, .int .u8 57] 5 5 Try.underlying50 Try.underlying5
  simp at cv1 cv2
  go_wp2_with fail
  refine (quill_Mark.calls (some ⟨w11.heap.size + 1 + 1, 0, none⟩) 2 [[49, 50, 51, 52], [53, 54, 55, 56, 57]] 3535941457 _ (two_rows w11) (by decide) h3).mono ?_
  rintro e w12 ⟨rfl, hd⟩
  have hb12 := below_step (below_alloc (below_alloc (below_alloc HB11.out _) _) _) (Drawn0.below hd)
  have HB12 := Aside0.mk hb12
  clear hd hb12 cv1 cv2
  go_wp2_with fail
  go_ret
  exact ⟨rfl, HB12.out⟩
def klaxonlaw01_live.f : Option Bool := some true
theorem klaxonlaw01_live.calls (r : Bool) (w : World) (h : klaxonlaw01_live.f = some r) :
    Calls Try.prog 28 #[] w fun e w' => e = .returned (.bool r) ∧ Below w.heap.size w w' := by
  obtain rfl : true = r := Option.some.inj h
  exact live_calls w

/-! ### klaxonlaw01_texts: function 38 -/
mutual
def klaxonlaw01_texts.l0 : Nat → List ByteArray → Int → Int → Option (Bool)
  | 0, _, _, _ => none
  | k + 1, x0, x3, x4 => if x4 < (x0.length : Int) then (klaxonlaw01_texts.j1 k x0 x3 x4 (decide (x4 ≤ 60))) else (klaxonlaw01_texts.j1 k x0 x3 x4 false)
def klaxonlaw01_texts.j1 : Nat → List ByteArray → Int → Int → Bool → Option (Bool)
  | 0, _, _, _, _ => none
  | k + 1, x0, x3, x4, x12 => if x12 = true then (if 0 ≤ x4 then (if x4 < (x0.length : Int) then (klaxonlaw01_texts.l0 k x0 (wrap64 (x3 + ((rdOf ByteArray.empty x0 x4).size : Int))) (wrap64 (x4 + 1))) else (none)) else (none)) else (if (x0.length : Int) ≤ 60 then (some (decide (x3 ≤ 20000))) else (some false))
end
def klaxonlaw01_texts.f (k : Nat) (l0 : List ByteArray) : Option (Bool) := klaxonlaw01_texts.l0 k l0 0 0
theorem klaxonlaw01_texts.mono_l : ∀ k, (∀ y0 y1 y2, LeO (klaxonlaw01_texts.l0 k y0 y1 y2) (klaxonlaw01_texts.l0 (k + 1) y0 y1 y2)) ∧ (∀ y0 y1 y2 y3, LeO (klaxonlaw01_texts.j1 k y0 y1 y2 y3) (klaxonlaw01_texts.j1 (k + 1) y0 y1 y2 y3))
  | 0 => ⟨fun _ _ _ r h => by simp [klaxonlaw01_texts.l0] at h, fun _ _ _ _ r h => by simp [klaxonlaw01_texts.j1] at h⟩
  | k + 1 => by
    obtain ⟨ih0, ih1⟩ := klaxonlaw01_texts.mono_l k
    refine ⟨?_, ?_⟩
    · intro y0 y1 y2
      unfold klaxonlaw01_texts.l0
      repeat' first
      | (with_reducible exact ih0 _ _ _)
      | (with_reducible exact ih1 _ _ _ _)
      | (with_reducible exact LeO.refl _)
      | (with_reducible exact LeO.none _)
      | (with_reducible refine LeO.ite ?_ ?_)
      | (with_reducible refine LeO.bind ?_ (fun _ => ?_))
      | exact ih0 _ _ _
      | exact ih1 _ _ _ _
      | exact LeO.none _
      | refine LeO.ite ?_ ?_
      | refine LeO.bind ?_ (fun _ => ?_)
    · intro y0 y1 y2 y3
      unfold klaxonlaw01_texts.j1
      repeat' first
      | (with_reducible exact ih0 _ _ _)
      | (with_reducible exact ih1 _ _ _ _)
      | (with_reducible exact LeO.refl _)
      | (with_reducible exact LeO.none _)
      | (with_reducible refine LeO.ite ?_ ?_)
      | (with_reducible refine LeO.bind ?_ (fun _ => ?_))
      | exact ih0 _ _ _
      | exact ih1 _ _ _ _
      | exact LeO.none _
      | refine LeO.ite ?_ ?_
      | refine LeO.bind ?_ (fun _ => ?_)
theorem klaxonlaw01_texts.mono : ∀ a0 k, LeO (klaxonlaw01_texts.f k a0) (klaxonlaw01_texts.f (k + 1) a0) := by
  intro a0 k
  obtain ⟨ih0, ih1⟩ := klaxonlaw01_texts.mono_l k
  unfold klaxonlaw01_texts.f
  repeat' first
      | (with_reducible exact ih0 _ _ _)
      | (with_reducible exact ih1 _ _ _ _)
      | (with_reducible exact LeO.refl _)
      | (with_reducible exact LeO.none _)
      | (with_reducible refine LeO.ite ?_ ?_)
      | (with_reducible refine LeO.bind ?_ (fun _ => ?_))
      | exact ih0 _ _ _
      | exact ih1 _ _ _ _
      | exact LeO.none _
      | refine LeO.ite ?_ ?_
      | refine LeO.bind ?_ (fun _ => ?_)
set_option maxHeartbeats 8000000 in
set_option maxRecDepth 100000 in
theorem klaxonlaw01_texts.calls (k : Nat) (A0 : Option Addr) (c0 : Nat) (l0 : List ByteArray) (r : Bool) (w : World) (hr0 : Kd.C Kd.string w A0 l0.length l0) (hc0 : l0.length ≤ c0) (h : klaxonlaw01_texts.f k l0 = some r) :
    Calls Try.prog 38 #[.slice A0 l0.length c0] w fun e w' => e = .returned (.bool r) ∧ Drawn0 w w' := by
  have HR0 := Aside0.mk hr0
  have HC0 := Aside0.mk hc0
  clear hr0 hc0
  have H : (klaxonlaw01_texts.l0 k l0 0 0) = some r := h
  clear h
  have H' := Aside0.mk H
  clear H
  go_enter Try.func38, Try.ntmps38
  go_wp2
  go_loopg [3, 4] k (fun kq v3 v4 w' => ∃ (x3_1 : Int) (x4_1 : Int), v3 = .int .i64 x3_1 ∧ v4 = .int .i64 x4_1 ∧ Aside0 (klaxonlaw01_texts.l0 kq l0 x3_1 x4_1 = some r) ∧ Aside0 (kq ≤ k) ∧ Drawn0 w w')
  case atStart => exact ⟨(0), (0), (by first | rfl | (simp; done) | (simp [*]; done)), (by first | rfl | (simp; done) | (simp [*]; done)), H', ⟨Nat.le_refl _⟩, by repeat (first | exact Drawn0.refl _ | apply Drawn0.step)⟩
  case round =>
    clear H'
    obtain ⟨x3_1, x4_1, rfl, rfl, HA, HK1, ⟨m1, rfl⟩⟩ := hrel
    cases gk with
    | zero => exact absurd HA.out (by simp [klaxonlaw01_texts.l0])
    | succ k1 =>
      have H := HA.out
      clear HA
      simp only [klaxonlaw01_texts.l0] at H
      have HC2 := Aside0.mk H
      clear H
      go_upto_region 3 with (fail)
      go_cut [12] (fun v12 wc => ∃ (kq : Nat) (x12_1 : Bool), v12 = .bool x12_1 ∧ Aside0 (klaxonlaw01_texts.j1 kq l0 x3_1 x4_1 x12_1 = some r) ∧ Aside0 (kq ≤ k1) ∧ Drawn0 w wc)
      case first =>
        have H := HC2.out
        clear HC2
        by_cases c3 : x4_1 < (l0.length : Int)
        · rw [if_pos c3] at H
          have c3b0 : decide (x4_1 < (l0.length : Int)) = true := decide_eq_true c3
          clear c3
          (first | rw [c3b0] | (simp only [i64_w, i32_w]; rw [c3b0]) | skip)
          have H' := Aside0.mk H
          clear H
          go_wp2
          go_meet
          case rel => exact ⟨_, (decide (x4_1 ≤ 60)), (by first | rfl | (simp; done) | (simp [*]; done)), H', ⟨by have := HK1.out; first | omega | exact Nat.le_refl _⟩, by repeat (first | exact Drawn0.refl _ | apply Drawn0.step)⟩
        · rw [if_neg c3] at H
          have c3b0 : decide (x4_1 < (l0.length : Int)) = false := decide_eq_false c3
          clear c3
          (first | rw [c3b0] | (simp only [i64_w, i32_w]; rw [c3b0]) | skip)
          have H' := Aside0.mk H
          clear H
          go_wp2
          go_meet
          case rel => exact ⟨_, (false), (by first | rfl | (simp; done) | (simp [*]; done)), H', ⟨by have := HK1.out; first | omega | exact Nat.le_refl _⟩, by repeat (first | exact Drawn0.refl _ | apply Drawn0.step)⟩
      case rest =>
        clear HC2
        try clear p2
        try clear c3
        try clear c3b0
        obtain ⟨kq, x12_1, rfl, HA, HJ1, ⟨mc1, rfl⟩⟩ := hcut
        cases kq with
        | zero => exact absurd HA.out (by simp [klaxonlaw01_texts.j1])
        | succ kj1 =>
          have H := HA.out
          clear HA
          simp only [klaxonlaw01_texts.j1] at H
          by_cases c4 : x12_1 = true
          · subst c4
            have H1 : (if 0 ≤ x4_1 then (if x4_1 < (l0.length : Int) then (klaxonlaw01_texts.l0 kj1 l0 (wrap64 (x3_1 + ((rdOf ByteArray.empty l0 x4_1).size : Int))) (wrap64 (x4_1 + 1))) else (none)) else (none)) = some r := by rw [if_pos rfl] at H; exact H
            clear H
            have H := H1
            clear H1
            by_cases c5 : 0 ≤ x4_1
            · rw [if_pos c5] at H
              have c5b0 : decide (0 ≤ x4_1) = true := decide_eq_true c5
              clear c5
              by_cases c6 : x4_1 < (l0.length : Int)
              · rw [if_pos c6] at H
                have c6b0 : decide (x4_1 < (l0.length : Int)) = true := decide_eq_true c6
                clear c6
                have H' := Aside0.mk H
                clear H
                have p128 : 0 ≤ (x4_1 : Int) := of_decide_eq_true (by first | (with_reducible assumption) | assumption)
                have q128 : x4_1 < (l0.length : Int) := of_decide_eq_true (by first | (with_reducible assumption) | assumption)
                obtain ⟨ad128, e128, hx128_0⟩ := Kd.at_string HR0.out x4_1 p128 q128
                cases e128
                replace p128 := eq_true p128
                replace q128 := eq_true q128
                go_wp2
                go_roundg kj1
                case measure => have := HK1.out; have := HJ1.out; omega
                case rel => exact ⟨(wrap64 (x3_1 + ((rdOf ByteArray.empty l0 x4_1).size : Int))), (wrap64 (x4_1 + 1)), (by first | rfl | (simp; done) | (simp [*]; done)), (by first | rfl | (simp; done) | (simp [*]; done)), H', ⟨by have := HK1.out; have := HJ1.out; omega⟩, by repeat (first | exact Drawn0.refl _ | apply Drawn0.step)⟩
              · rw [if_neg c6] at H
                exact absurd H (by simp)
            · rw [if_neg c5] at H
              exact absurd H (by simp)
          · replace c4 := Bool.eq_false_iff.mpr c4
            subst c4
            have H1 : (if (l0.length : Int) ≤ 60 then (some (decide (x3_1 ≤ 20000))) else (some false)) = some r := by rw [if_neg (show ¬ (false = true) by decide)] at H; exact H
            clear H
            have H := H1
            clear H1
            by_cases c7 : (l0.length : Int) ≤ 60
            · rw [if_pos c7] at H
              have c7b0 : decide ((l0.length : Int) ≤ 60) = true := decide_eq_true c7
              have c7b1 : decide (l0.length ≤ 60) = true := decide_eq_true (by omega)
              clear c7
              obtain rfl := Option.some.inj H
              go_wp2
              go_ret
              exact ⟨by first | rfl | (simp; done) | (simp [*]; done), by repeat (first | exact Drawn0.refl _ | apply Drawn0.step)⟩
            · rw [if_neg c7] at H
              have c7b0 : decide ((l0.length : Int) ≤ 60) = false := decide_eq_false c7
              have c7b1 : decide (l0.length ≤ 60) = false := decide_eq_false (by omega)
              clear c7
              obtain rfl := Option.some.inj H
              go_wp2
              go_ret
              exact ⟨by first | rfl | (simp; done) | (simp [*]; done), by repeat (first | exact Drawn0.refl _ | apply Drawn0.step)⟩

end Go.Proofs.Ytmcnipjfigbkeaa.PQP
