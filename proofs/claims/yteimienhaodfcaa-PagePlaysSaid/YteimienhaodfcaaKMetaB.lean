/- meta.Get, walked. -/
import Derived.Test.YteimienhaodfcaaKMeta
import Derived.Test.YteimienhaodfcaaKFlow
import Derived.Test.YteimienhaodfcaaKClone
import Derived.Deep.QuietTactic
import Derived.BigQuiet
import Derived.Deep.RegionHeld3
import Derived.Lib.AppendZerosOnto
import Derived.Lib.SliceRun
import Derived.Lib.Walk
namespace Go.Proofs.YteimienhaodfcaaK
open Go.RowKit Go.Proofs.YteimienhaodfcaaW.PrintWords Go.Proofs.YteimienhaodfcaaW.PrintLast Go.Proofs.YteimienhaodfcaaW.PrintMore Go.Crc
open Go.ChangeMaps (setBlock)
attribute [local go_sem] max2_int min2_int max_two min_two
set_option linter.unusedVariables false
set_option linter.unusedSimpArgs false
variable {w w' : World} {X X' S : Nat → Prop} {d sb mb clock : Nat} {es : Array MapEntry} {safe : List Int} {D : Dk}
def segM (l : List Int) (lo hi : Nat) : Int := tolL ((l.take hi).drop lo)
/-- The meta of bytes: Seq, Root, Keys, Depth, the error. -/
def getM (l : List Int) : Int × Int × Int × Int × Int :=
  if l.length < 36 then (0, 0, 0, 0, 40)
  else if (l.drop 36).any (fun c => decide (c ≠ 0)) = true then (0, 0, 0, 0, 40)
  else if 16384 < segM l 8 12 ∨ 2147483647 < segM l 12 20 ∨ 64 < segM l 20 24 then (0, 0, 0, 0, 40)
  else if segM l 0 8 = 0 ∨ metaB (segM l 0 8) (segM l 8 12) (segM l 12 20) (segM l 20 24) ≠ l.take 36 then (0, 0, 0, 0, 40)
  else (segM l 0 8, segM l 8 12, segM l 12 20, segM l 20 24, 0)
def MetaV (m : Int × Int × Int × Int × Int) : Value := .agg #[.int .u64 m.1, .int .i64 m.2.1, .int .i64 m.2.2.1, .int .i64 m.2.2.2.1]
def GetPost (l : List Int) (w : World) (e : Ending) (w' : World) : Prop := e = .returned (.tuple #[.agg #[.int .u64 (getM l).1, .int .i64 (getM l).2.1, .int .i64 (getM l).2.2.1, .int .i64 (getM l).2.2.2.1], .int .i64 (getM l).2.2.2.2]) ∧ Below w.heap.size w w'
theorem C_int {k : IntKind} {w : World} {A : Option Addr} {n : Nat} {xs : List Int} (h : Kd.C (Kd.int k) w A n xs) : ReadsInt w k A n xs := by
  refine ⟨h.1, h.2.1, fun hn => ?_⟩
  obtain ⟨ad, hA, _⟩ := h.2.2 hn
  refine ⟨ad, hA, fun j hj => ?_⟩
  obtain ⟨ad', cs, hA', _, hK, hcell⟩ := Kd.C_get h 0 (j : Int) (by omega) (by omega)
  rw [hA] at hA'
  obtain rfl := Option.some.inj hA'
  have := hcell 0 (.int k (xs.getD (j : Int).toNat 0)) (by rw [show cs = _ from hK]; rfl)
  rw [show ((j : Int).toNat) = j by omega, show j * (Kd.int k).sz + 0 = j from Nat.mul_one j] at this
  exact this
theorem ReadsInt.get {w : World} {k : IntKind} {A : Option Addr} {n : Nat} {xs : List Int} (h : ReadsInt w k A n xs) {j : Nat} (hj : j < n) : ∃ ad, A = some ad ∧ ∃ hl : j < xs.length, w.cell? (ad.add j) = some (.int k xs[j]) := by
  obtain ⟨ad, hA, hc⟩ := h.2.2 (by omega)
  refine ⟨ad, hA, by rw [h.1]; exact hj, ?_⟩
  rw [hc j hj]; simp [List.getD_eq_getElem?_getD, List.getElem?_eq_getElem (show j < xs.length by rw [h.1]; exact hj)]
theorem nums_bytes_ (a : List Int) (h : Bytes a) : (Lib.bytesOf a).map (fun u => (u.toNat : Int)) = a := by
  unfold Lib.bytesOf
  rw [List.map_map]
  conv => rhs; rw [← List.map_id a]
  refine List.map_congr_left fun x hx => ?_
  obtain ⟨h0, h1⟩ := h x hx
  simp only [Function.comp, id]
  rw [UInt8.toNat_ofNat']
  omega
theorem strOf_inj_ (a b : List Int) (ha : Bytes a) (hb : Bytes b) : ((strOfNums a).toList == (strOfNums b).toList) = decide (a = b) := by
  rw [Lib.strOfNums_toList, Lib.strOfNums_toList]
  by_cases h : a = b
  · rw [h]; simp
  · rw [decide_eq_false h]
    have : ¬ Lib.bytesOf a = Lib.bytesOf b := by
      intro hc
      apply h
      rw [← nums_bytes_ a ha, ← nums_bytes_ b hb, hc]
    simpa using this
theorem metaB_bytes (s r k d : Int) : Bytes (metaB s r k d) := layL_bytes _ _ _ _ (layL_bytes _ _ _ _ (layL_bytes _ _ _ _ (layL_bytes _ _ _ _ (layL_bytes _ _ _ _ (layL_bytes _ _ _ _ (zeros_bytes _))))))
theorem metaB_length (s r k d : Int) : (metaB s r k d).length = 36 := by
  have h := stageL_length s r k d 4
  have h1 : (layL (body24 s r k d) 24 4 (crc ((body24 s r k d).take 24))).length = 36 := by rw [layL_length _ _ _ _ (by rw [show (body24 s r k d).length = 36 from h]; decide)]; exact h
  unfold metaB; rw [layL_length _ _ _ _ (by rw [h1]; decide)]; exact h1
theorem mconv (g c : Nat) (l : List Int) (w : World) (hb : Blk w g l) (hl : l.length = 36) : (convert 33 9 (.slice (some ⟨g, 0, none⟩) 36 c)).run Try.prog w = .ok (.string (strOfNums l)) w := by
  have hC : Kd.C (Kd.int .u8) w (some ⟨g, 0, none⟩) l.length l := by
    have := blk_C hb (by rw [hl]; decide) 0 l.length (by omega)
    simpa using this
  have := Kd.C_string (c := c) Try.underlying33 Try.underlying5 Try.underlying9 hC
  rwa [hl] at this
def zeroM : Value := .agg #[.int .u64 0, .int .i64 0, .int .i64 0, .int .i64 0]
/-- What the meta of bytes is, once there are 36 and the rest is 0. -/
def getM2 (l : List Int) : Int × Int × Int × Int × Int :=
  if 16384 < segM l 8 12 ∨ 2147483647 < segM l 12 20 ∨ 64 < segM l 20 24 then (0, 0, 0, 0, 40)
  else if segM l 0 8 = 0 ∨ metaB (segM l 0 8) (segM l 8 12) (segM l 12 20) (segM l 20 24) ≠ l.take 36 then (0, 0, 0, 0, 40)
  else (segM l 0 8, segM l 8 12, segM l 12 20, segM l 20 24, 0)
set_option maxHeartbeats 4000000 in
set_option maxRecDepth 100000 in
theorem mget_long (A : Option Addr) (c : Nat) (l : List Int) (w : World) (hr : Kd.C (Kd.int .u8) w A l.length l) (hc : l.length ≤ c) (hby : Bytes l) (h36 : 36 ≤ l.length) :
    Calls Try.prog 29 #[.slice A l.length c] w (GetPost l w) := by
  have hlm := hr.2.1
  have HR := Aside0.mk hr; have HBY := Aside0.mk hby
  obtain ⟨iU, hiU, hiS⟩ := Option.map_eq_some_iff.1 sizeByte
  obtain ⟨A1, hcut, hA1⟩ := print_cut (P := Try.prog) 33 5 .i64 Try.underlying33 hiU hiS A l.length c 36 h36
  have hZ := hA1 w .u8 l hc (C_int hr)
  have HZ := Aside0.mk hZ
  clear hr hby hA1 hiU hiS hZ
  simp only [Int.cast_ofNat_Int] at hcut
  have d1 : decide (l.length < 36) = false := decide_eq_false (by omega)
  obtain ⟨W1, hW1⟩ : ∃ W, W = w.alloc (.cells #[.int .u64 0, .int .i64 0, .int .i64 0, .int .i64 0] 52) := ⟨_, rfl⟩
  have hB1 : Below w.heap.size w W1 := by rw [hW1]; exact below_alloc (Below.refl _ _) _
  have x1 : W1.heap[w.heap.size]? = some (.cells #[.int .u64 0, .int .i64 0, .int .i64 0, .int .i64 0] 52) := by rw [hW1]; exact blk_new w _
  have HB1 := Aside0.mk (And.intro hB1 x1)
  clear hB1 x1
  go_enter Try.func29, Try.ntmps29
  go_wp2_with fail
  rw [← hW1]
  clear hW1
  have HZ1 : Aside0 (ReadsInt W1 .u8 A1 (l.length - 36) (l.drop 36)) := ⟨HZ.out.below HB1.out.1⟩
  go_loop [17] (fun i => ∃ k : Nat, k ≤ l.length - 36 ∧ i = .int .i64 k ∧ Aside0 (∀ x ∈ (l.drop 36).take k, x = 0)) (fun i => (l.length - 36) - (intOf i).toNat)
  case atStart => exact ⟨0, Nat.zero_le _, rfl, ⟨by simp⟩⟩
  case round =>
    obtain ⟨k, hk, rfl, HK⟩ := hrel
    by_cases hlt : k < l.length - 36
    · obtain ⟨ad, rfl, hl2, hcell⟩ := ReadsInt.get HZ1.out hlt
      have HT : Aside0 ((l.drop 36).take (k + 1) = (l.drop 36).take k ++ [(l.drop 36)[k]]) := ⟨List.take_succ_eq_append_getElem hl2⟩
      have HM : Aside0 ((l.drop 36)[k] ∈ l.drop 36) := ⟨List.getElem_mem hl2⟩
      obtain ⟨y, hy⟩ : ∃ y, y = (l.drop 36)[k] := ⟨_, rfl⟩
      rw [← hy] at hcell HT HM
      clear hy hl2
      by_cases h0 : y = 0
      · subst h0
        go_wp2_with fail
        go_round
        case rel => exact ⟨k + 1, by omega, by go_num, ⟨fun x hx => by
          rw [HT.out] at hx
          rcases List.mem_append.1 hx with h | h
          · exact HK.out x h
          · exact List.mem_singleton.1 h⟩⟩
        case measure => simp [intOf]; omega
      · have hb : (y != 0) = true := by simpa using h0
        have H0 := Aside0.mk h0
        have z0 := blk_cell HB1.out.2 0; have z1 := blk_cell HB1.out.2 1; have z2 := blk_cell HB1.out.2 2; have z3 := blk_cell HB1.out.2 3
        simp only [List.getElem?_toArray, List.getElem?_cons_zero, List.getElem?_cons_succ] at z0 z1 z2 z3
        have f0 := blk_frozen HB1.out.2 0; have f1 := blk_frozen HB1.out.2 1; have f2 := blk_frozen HB1.out.2 2; have f3 := blk_frozen HB1.out.2 3
        clear h0
        go_wp2_with fail
        refine bodyPost_ret (v := .tuple #[.agg #[.int .u64 0, .int .i64 0, .int .i64 0, .int .i64 0], .int .i64 40]) (by simp [results, Try.results29, go_sem, z0, z1, z2, z3, f0, f1, f2, f3]) rfl ?_
        have e1 : getM l = (0, 0, 0, 0, 40) := by
          unfold getM; rw [if_neg (by omega), if_pos (List.any_eq_true.2 ⟨y, HM.out, by simpa using H0.out⟩)]
        unfold GetPost
        rw [e1]
        refine ⟨rfl, ?_⟩
        repeat (first | (with_reducible first | exact HB1.out.1 | (refine below_set ?_ (Nat.le_refl _)) | apply below_alloc | apply pw_below_drewN | apply below_drew1) | exact HB1.out.1)
    · obtain rfl : k = l.length - 36 := by omega
      have hno : Aside0 ((l.drop 36).any (fun c => decide (c ≠ 0)) = false) := ⟨by
        have := HK.out
        rw [List.take_of_length_le (by rw [List.length_drop]; exact Nat.le_refl _)] at this
        rw [List.any_eq_false]; intro x hx; simp [this x hx]⟩
      have e1 : Aside0 (getM l = getM2 l) := ⟨by unfold getM getM2; rw [if_neg (by omega), if_neg (by rw [hno.out]; simp)]⟩
      go_wp2_with fail
      refine (fields_calls _).mono ?_
      rintro e w2 ⟨rfl, hb2⟩
      obtain ⟨fb, hfb⟩ : ∃ n, n = w2.heap.size := ⟨_, rfl⟩
      obtain ⟨W3, hW3⟩ : ∃ W, W = w2.alloc (Obj.cells #[.int .i64 0, .int .i64 8, .int .i64 8, .int .i64 12, .int .i64 12, .int .i64 20, .int .i64 20, .int .i64 24, .int .i64 24, .int .i64 28, .int .i64 28, .int .i64 36] 118) := ⟨_, rfl⟩
      have u0 : W3.heap[w.heap.size]? = some (.cells #[.int .u64 0, .int .i64 0, .int .i64 0, .int .i64 0] 52) := by rw [hW3]; exact blk_alloc (blk_below HB1.out.2 hb2) _
      have u2 : W3.heap[fb]? = some (.cells #[.int .i64 0, .int .i64 8, .int .i64 8, .int .i64 12, .int .i64 12, .int .i64 20, .int .i64 20, .int .i64 24, .int .i64 24, .int .i64 28, .int .i64 28, .int .i64 36] 118) := by rw [hW3, hfb]; exact blk_new w2 _
      have hB3 : Below w.heap.size w W3 := by rw [hW3]; exact below_alloc (below_step HB1.out.1 hb2) _
      obtain ⟨Inv, hInv⟩ : ∃ I : World → Prop, I = fun W => W.heap[w.heap.size]? = some (.cells #[.int .u64 0, .int .i64 0, .int .i64 0, .int .i64 0] 52) ∧ W.heap[fb]? = some (.cells #[.int .i64 0, .int .i64 8, .int .i64 8, .int .i64 12, .int .i64 12, .int .i64 20, .int .i64 20, .int .i64 24, .int .i64 24, .int .i64 28, .int .i64 28, .int .i64 36] 118) ∧ Kd.C (Kd.int .u8) W A l.length l ∧ Below w.heap.size w W := ⟨_, rfl⟩
      have HI : Inv W3 := by rw [hInv]; exact ⟨u0, u2, Kd.C_below HR.out hB3, hB3⟩
      have IB : ∀ W W', Inv W → Below W.heap.size W W' → Inv W' := by
        rw [hInv]; rintro W W' ⟨a1, a2, a3, a4⟩ hb; exact ⟨blk_below a1 hb, blk_below a2 hb, Kd.C_below a3 hb, below_step a4 hb⟩
      have SF : ∀ W, Inv W → W.cell? ⟨fb, 0, none⟩ = some (.int .i64 0) ∧ W.cell? ⟨fb, 1, none⟩ = some (.int .i64 8) ∧ W.cell? ⟨fb, 2, none⟩ = some (.int .i64 8) ∧ W.cell? ⟨fb, 3, none⟩ = some (.int .i64 12) ∧ W.cell? ⟨fb, 4, none⟩ = some (.int .i64 12) ∧ W.cell? ⟨fb, 5, none⟩ = some (.int .i64 20) ∧ W.cell? ⟨fb, 6, none⟩ = some (.int .i64 20) ∧ W.cell? ⟨fb, 7, none⟩ = some (.int .i64 24) := by
        rw [hInv]; rintro W ⟨a1, a2, a3, a4⟩
        refine ⟨?_, ?_, ?_, ?_, ?_, ?_, ?_, ?_⟩ <;> (rw [blk_cell a2]; rfl)
      have SM : ∀ W, Inv W → W.heap[w.heap.size]? = some (.cells #[.int .u64 0, .int .i64 0, .int .i64 0, .int .i64 0] 52) ∧ Kd.C (Kd.int .u8) W A l.length l ∧ Below w.heap.size w W := by
        rw [hInv]; rintro W ⟨a1, a2, a3, a4⟩; exact ⟨a1, a3, a4⟩
      have T : ∀ lo hi : Nat, lo < hi → hi ≤ l.length → hi ≤ lo + 8 → ∀ W, Inv W → Calls Try.prog 69 #[.agg #[.int .i64 (lo : Int), .int .i64 (hi : Int)], .slice A l.length c] W fun e w' => e = .returned (.int .u64 (segM l lo hi)) ∧ Inv w' := fun lo hi h1 h2 h3 W hW => (ftold_calls lo hi c A l W (SM W hW).2.1 hc h1 h2 h3 HBY.out).mono fun e w' ⟨he, hb⟩ => ⟨he, IB _ _ hW hb⟩
      have T1 := Aside0.mk (T 8 12 (by omega) (by omega) (by omega)); have T2 := Aside0.mk (T 12 20 (by omega) (by omega) (by omega)); have T3 := Aside0.mk (T 20 24 (by omega) (by omega) (by omega)); have T0 := Aside0.mk (T 0 8 (by omega) (by omega) (by omega))
      have HI := Aside0.mk HI; have IB := Aside0.mk IB; have SF := Aside0.mk SF; have SM := Aside0.mk SM
      clear T hInv u0 u2 hB3 hb2
      go_wp2_with fail
      rw [← hW3, ← hfb]
      clear hW3 hfb hcut
      obtain ⟨q1, hq1⟩ : ∃ q, q = segM l 8 12 := ⟨_, rfl⟩
      obtain ⟨q2, hq2⟩ : ∃ q, q = segM l 12 20 := ⟨_, rfl⟩
      obtain ⟨q3, hq3⟩ : ∃ q, q = segM l 20 24 := ⟨_, rfl⟩
      rw [← hq1] at T1; rw [← hq2] at T2; rw [← hq3] at T3
      have HQ := Aside0.mk (And.intro hq1 (And.intro hq2 hq3))
      clear hq1 hq2 hq3
      refine wp_region_plan (by kernel_rfl) (by kernel_rfl) Inv (IB.out _ _ HI.out (below_drew1 (Below.refl _ _))) ?_
      refine Plan.take 0 (some 26) (Op.indexAddr 118 (Operand.tmp 6) (Operand.const (Value.int IntKind.i64 1))) 0 (none) ?_ rfl (by kernel_rfl) (by kernel_rfl) (Tells.val (by rfl) ?_) ?_
      rotate_left
      · (intro W hW; have hF := SF.out W hW; go_simp; first | done | with_reducible rfl)
      try simp only [Act.put, List.setIfInBounds_toArray, List.set_cons_zero, List.set_cons_succ]
      refine Plan.take 1 (some 27) (Op.load 117 (Operand.tmp 26)) 117 (none) ?_ rfl (by kernel_rfl) (by kernel_rfl) (Tells.val (by rfl) ?_) ?_
      rotate_left
      · (intro W hW; have hF := SF.out W hW; go_simp; first | done | with_reducible rfl)
      try simp only [Act.put, List.setIfInBounds_toArray, List.set_cons_zero, List.set_cons_succ]
      refine Plan.take 2 (some 28) (Op.move (Operand.tmp 0)) 33 (none) ?_ rfl (by kernel_rfl) (by kernel_rfl) (Tells.val (by rfl) ?_) ?_
      rotate_left
      · (intro W hW; go_simp; first | done | with_reducible rfl)
      try simp only [Act.put, List.setIfInBounds_toArray, List.set_cons_zero, List.set_cons_succ]
      refine Plan.take 3 (some 29) (Op.call { callee := Callee.value (Operand.func 69), args := #[Operand.tmp 27, Operand.tmp 28], argTypes := #[117, 33] }) 50 (none) ?_ rfl (by kernel_rfl) (by kernel_rfl) (Tells.call 69 ?_ (by rfl) ?_ ?_) ?_
      rotate_left 2
      · (intro W; go_simp; first | done | with_reducible rfl)
      · exact T1.out
      try simp only [Act.put, List.setIfInBounds_toArray, List.set_cons_zero, List.set_cons_succ]
      refine Plan.take 4 (some 30) (Op.indexAddr 118 (Operand.tmp 6) (Operand.const (Value.int IntKind.i64 2))) 0 (none) ?_ rfl (by kernel_rfl) (by kernel_rfl) (Tells.val (by rfl) ?_) ?_
      rotate_left
      · (intro W hW; have hF := SF.out W hW; go_simp; first | done | with_reducible rfl)
      try simp only [Act.put, List.setIfInBounds_toArray, List.set_cons_zero, List.set_cons_succ]
      refine Plan.take 5 (some 31) (Op.load 117 (Operand.tmp 30)) 117 (none) ?_ rfl (by kernel_rfl) (by kernel_rfl) (Tells.val (by rfl) ?_) ?_
      rotate_left
      · (intro W hW; have hF := SF.out W hW; go_simp; first | done | with_reducible rfl)
      try simp only [Act.put, List.setIfInBounds_toArray, List.set_cons_zero, List.set_cons_succ]
      refine Plan.take 6 (some 32) (Op.move (Operand.tmp 0)) 33 (none) ?_ rfl (by kernel_rfl) (by kernel_rfl) (Tells.val (by rfl) ?_) ?_
      rotate_left
      · (intro W hW; go_simp; first | done | with_reducible rfl)
      try simp only [Act.put, List.setIfInBounds_toArray, List.set_cons_zero, List.set_cons_succ]
      refine Plan.take 7 (some 33) (Op.call { callee := Callee.value (Operand.func 69), args := #[Operand.tmp 31, Operand.tmp 32], argTypes := #[117, 33] }) 50 (none) ?_ rfl (by kernel_rfl) (by kernel_rfl) (Tells.call 69 ?_ (by rfl) ?_ ?_) ?_
      rotate_left 2
      · (intro W; go_simp; first | done | with_reducible rfl)
      · exact T2.out
      try simp only [Act.put, List.setIfInBounds_toArray, List.set_cons_zero, List.set_cons_succ]
      refine Plan.take 8 (some 34) (Op.indexAddr 118 (Operand.tmp 6) (Operand.const (Value.int IntKind.i64 3))) 0 (none) ?_ rfl (by kernel_rfl) (by kernel_rfl) (Tells.val (by rfl) ?_) ?_
      rotate_left
      · (intro W hW; have hF := SF.out W hW; go_simp; first | done | with_reducible rfl)
      try simp only [Act.put, List.setIfInBounds_toArray, List.set_cons_zero, List.set_cons_succ]
      refine Plan.take 9 (some 35) (Op.load 117 (Operand.tmp 34)) 117 (none) ?_ rfl (by kernel_rfl) (by kernel_rfl) (Tells.val (by rfl) ?_) ?_
      rotate_left
      · (intro W hW; have hF := SF.out W hW; go_simp; first | done | with_reducible rfl)
      try simp only [Act.put, List.setIfInBounds_toArray, List.set_cons_zero, List.set_cons_succ]
      refine Plan.take 10 (some 36) (Op.move (Operand.tmp 0)) 33 (none) ?_ rfl (by kernel_rfl) (by kernel_rfl) (Tells.val (by rfl) ?_) ?_
      rotate_left
      · (intro W hW; go_simp; first | done | with_reducible rfl)
      try simp only [Act.put, List.setIfInBounds_toArray, List.set_cons_zero, List.set_cons_succ]
      refine Plan.take 11 (some 37) (Op.call { callee := Callee.value (Operand.func 69), args := #[Operand.tmp 35, Operand.tmp 36], argTypes := #[117, 33] }) 50 (none) ?_ rfl (by kernel_rfl) (by kernel_rfl) (Tells.call 69 ?_ (by rfl) ?_ ?_) ?_
      rotate_left 2
      · (intro W; go_simp; first | done | with_reducible rfl)
      · exact T3.out
      try simp only [Act.put, List.setIfInBounds_toArray, List.set_cons_zero, List.set_cons_succ]
      refine Plan.take 12 (some 7) (Op.assign (Operand.tmp 29)) 50 (none) ?_ rfl (by kernel_rfl) (by kernel_rfl) (Tells.val (by rfl) ?_) ?_
      rotate_left
      · (intro W hW; go_simp; first | done | with_reducible rfl)
      try simp only [Act.put, List.setIfInBounds_toArray, List.set_cons_zero, List.set_cons_succ]
      refine Plan.take 13 (some 8) (Op.assign (Operand.tmp 33)) 50 (none) ?_ rfl (by kernel_rfl) (by kernel_rfl) (Tells.val (by rfl) ?_) ?_
      rotate_left
      · (intro W hW; go_simp; first | done | with_reducible rfl)
      try simp only [Act.put, List.setIfInBounds_toArray, List.set_cons_zero, List.set_cons_succ]
      refine Plan.take 14 (some 9) (Op.assign (Operand.tmp 37)) 50 (none) ?_ rfl (by kernel_rfl) (by kernel_rfl) (Tells.val (by rfl) ?_) ?_
      rotate_left
      · (intro W hW; go_simp; first | done | with_reducible rfl)
      try simp only [Act.put, List.setIfInBounds_toArray, List.set_cons_zero, List.set_cons_succ]
      refine Plan.done _ (by kernel_rfl) ?_
      intro W hW
      have HI := Aside0.mk hW
      clear hW
      have hseg : ∀ lo hi : Nat, 0 ≤ segM l lo hi ∧ segM l lo hi < 256 ^ ((l.take hi).drop lo).length := fun lo hi => tolL_lt _ fun x hx => HBY.out x (List.mem_of_mem_take (List.mem_of_mem_drop hx))
      have hn1 : 0 ≤ q1 := by rw [HQ.out.1]; exact (hseg 8 12).1
      have hn2 : 0 ≤ q2 := by rw [HQ.out.2.1]; exact (hseg 12 20).1
      have hn3 : 0 ≤ q3 := by rw [HQ.out.2.2]; exact (hseg 20 24).1
      have HSEG := Aside0.mk hseg
      clear hseg
      by_cases g1 : 16384 < q1
      · have d2 : decide (16384 < q1) = true := decide_eq_true g1
        have HG : Aside0 (16384 < q1 ∨ 2147483647 < q2 ∨ 64 < q3) := ⟨.inl g1⟩
        obtain ⟨m0, m1, m2⟩ := SM.out _ HI.out
        have z0 := blk_cell m0 0; have z1 := blk_cell m0 1; have z2 := blk_cell m0 2; have z3 := blk_cell m0 3
        simp only [List.getElem?_toArray, List.getElem?_cons_zero, List.getElem?_cons_succ] at z0 z1 z2 z3
        have f0 := blk_frozen m0 0; have f1 := blk_frozen m0 1; have f2 := blk_frozen m0 2; have f3 := blk_frozen m0 3
        have HM2 := Aside0.mk m2
        clear m0 m1 m2
        go_wp2_with fail
        refine bodyPost_ret (v := .tuple #[.agg #[.int .u64 0, .int .i64 0, .int .i64 0, .int .i64 0], .int .i64 40]) (by simp [results, Try.results29, go_sem, z0, z1, z2, z3, f0, f1, f2, f3]) rfl ?_
        have e2 : getM2 l = (0, 0, 0, 0, 40) := by
          obtain ⟨hq1, hq2, hq3⟩ := HQ.out
          unfold getM2; rw [if_pos (by rw [← hq1, ← hq2, ← hq3]; have := HG.out; omega)]
        unfold GetPost
        rw [e1.out, e2]
        refine ⟨rfl, ?_⟩
        repeat (first | (with_reducible first | exact HM2.out | (refine below_set ?_ (Nat.le_refl _)) | apply below_alloc | apply pw_below_drewN | apply below_drew1) | exact HM2.out)
      have d2 : decide (16384 < q1) = false := decide_eq_false g1
      by_cases g2 : 2147483647 < q2
      · have d3 : decide (2147483647 < q2) = true := decide_eq_true g2
        have HG : Aside0 (16384 < q1 ∨ 2147483647 < q2 ∨ 64 < q3) := ⟨.inr (.inl g2)⟩
        obtain ⟨m0, m1, m2⟩ := SM.out _ HI.out
        have z0 := blk_cell m0 0; have z1 := blk_cell m0 1; have z2 := blk_cell m0 2; have z3 := blk_cell m0 3
        simp only [List.getElem?_toArray, List.getElem?_cons_zero, List.getElem?_cons_succ] at z0 z1 z2 z3
        have f0 := blk_frozen m0 0; have f1 := blk_frozen m0 1; have f2 := blk_frozen m0 2; have f3 := blk_frozen m0 3
        have HM2 := Aside0.mk m2
        clear m0 m1 m2
        go_wp2_with fail
        refine bodyPost_ret (v := .tuple #[.agg #[.int .u64 0, .int .i64 0, .int .i64 0, .int .i64 0], .int .i64 40]) (by simp [results, Try.results29, go_sem, z0, z1, z2, z3, f0, f1, f2, f3]) rfl ?_
        have e2 : getM2 l = (0, 0, 0, 0, 40) := by
          obtain ⟨hq1, hq2, hq3⟩ := HQ.out
          unfold getM2; rw [if_pos (by rw [← hq1, ← hq2, ← hq3]; have := HG.out; omega)]
        unfold GetPost
        rw [e1.out, e2]
        refine ⟨rfl, ?_⟩
        repeat (first | (with_reducible first | exact HM2.out | (refine below_set ?_ (Nat.le_refl _)) | apply below_alloc | apply pw_below_drewN | apply below_drew1) | exact HM2.out)
      have d3 : decide (2147483647 < q2) = false := decide_eq_false g2
      by_cases g3 : 64 < q3
      · have d4 : decide (64 < q3) = true := decide_eq_true g3
        have HG : Aside0 (16384 < q1 ∨ 2147483647 < q2 ∨ 64 < q3) := ⟨.inr (.inr g3)⟩
        obtain ⟨m0, m1, m2⟩ := SM.out _ HI.out
        have z0 := blk_cell m0 0; have z1 := blk_cell m0 1; have z2 := blk_cell m0 2; have z3 := blk_cell m0 3
        simp only [List.getElem?_toArray, List.getElem?_cons_zero, List.getElem?_cons_succ] at z0 z1 z2 z3
        have f0 := blk_frozen m0 0; have f1 := blk_frozen m0 1; have f2 := blk_frozen m0 2; have f3 := blk_frozen m0 3
        have HM2 := Aside0.mk m2
        clear m0 m1 m2
        go_wp2_with fail
        refine bodyPost_ret (v := .tuple #[.agg #[.int .u64 0, .int .i64 0, .int .i64 0, .int .i64 0], .int .i64 40]) (by simp [results, Try.results29, go_sem, z0, z1, z2, z3, f0, f1, f2, f3]) rfl ?_
        have e2 : getM2 l = (0, 0, 0, 0, 40) := by
          obtain ⟨hq1, hq2, hq3⟩ := HQ.out
          unfold getM2; rw [if_pos (by rw [← hq1, ← hq2, ← hq3]; have := HG.out; omega)]
        unfold GetPost
        rw [e1.out, e2]
        refine ⟨rfl, ?_⟩
        repeat (first | (with_reducible first | exact HM2.out | (refine below_set ?_ (Nat.le_refl _)) | apply below_alloc | apply pw_below_drewN | apply below_drew1) | exact HM2.out)
      have d4 : decide (64 < q3) = false := decide_eq_false g3
      obtain ⟨m0, m1, m2⟩ := SM.out _ HI.out
      obtain ⟨s0, s1, s2, s3, s4, s5, s6, s7⟩ := SF.out _ HI.out
      go_wp2_with fail
      refine (T0.out W HI.out).mono ?_
      rintro e w5 ⟨rfl, hI5⟩
      have HGN : Aside0 (¬ (16384 < q1 ∨ 2147483647 < q2 ∨ 64 < q3)) := ⟨by omega⟩
      clear m0 m1 m2 s0 s1 s2 s3 s4 s5 s6 s7
      obtain ⟨q0, hq0⟩ : ∃ q, q = segM l 0 8 := ⟨_, rfl⟩
      rw [← hq0]
      have HQ0 := Aside0.mk hq0
      have hn0 : 0 ≤ q0 ∧ q0 < 18446744073709551616 := by
        rw [hq0]; have := HSEG.out 0 8
        rw [show ((l.take 8).drop 0).length = 8 by rw [List.length_drop, List.length_take]; omega] at this
        exact ⟨this.1, Int.lt_of_lt_of_le this.2 (by decide)⟩
      have HN0 := Aside0.mk hn0
      clear hq0 hn0
      obtain ⟨m0, m1, m2⟩ := SM.out _ hI5
      have z0 := blk_cell m0 0; have z1 := blk_cell m0 1; have z2 := blk_cell m0 2; have z3 := blk_cell m0 3
      simp only [List.getElem?_toArray, List.getElem?_cons_zero, List.getElem?_cons_succ] at z0 z1 z2 z3
      have f0 := blk_frozen m0 0; have f1 := blk_frozen m0 1; have f2 := blk_frozen m0 2; have f3 := blk_frozen m0 3
      obtain ⟨W6, hW6⟩ : ∃ W, W = (((w5.setCell ⟨w.heap.size, 0, none⟩ (.int .u64 q0)).setCell ⟨w.heap.size, 1, none⟩ (.int .i64 q1)).setCell ⟨w.heap.size, 2, none⟩ (.int .i64 q2)).setCell ⟨w.heap.size, 3, none⟩ (.int .i64 q3) := ⟨_, rfl⟩
      have v0 : W6.heap[w.heap.size]? = some (.cells #[.int .u64 q0, .int .i64 q1, .int .i64 q2, .int .i64 q3] 52) := by rw [hW6]; exact blk_set (blk_set (blk_set (blk_set m0 0 _) 1 _) 2 _) 3 _
      have v2 : Below w.heap.size w W6 := by rw [hW6]; exact below_set (below_set (below_set (below_set m2 (Nat.le_refl _)) (Nat.le_refl _)) (Nat.le_refl _)) (Nat.le_refl _)
      obtain ⟨Jnv, hJnv⟩ : ∃ I : World → Prop, I = fun W => W.heap[w.heap.size]? = some (.cells #[.int .u64 q0, .int .i64 q1, .int .i64 q2, .int .i64 q3] 52) ∧ Kd.C (Kd.int .u8) W A l.length l ∧ Below w.heap.size w W := ⟨_, rfl⟩
      have HJ : Jnv W6 := by rw [hJnv]; exact ⟨v0, Kd.C_below HR.out v2, v2⟩
      have JB : ∀ W W', Jnv W → Below W.heap.size W W' → Jnv W' := by
        rw [hJnv]; rintro W W' ⟨a1, a3, a4⟩ hb; exact ⟨blk_below a1 hb, Kd.C_below a3 hb, below_step a4 hb⟩
      have JM : ∀ W, Jnv W → W.heap[w.heap.size]? = some (.cells #[.int .u64 q0, .int .i64 q1, .int .i64 q2, .int .i64 q3] 52) ∧ Kd.C (Kd.int .u8) W A l.length l ∧ Below w.heap.size w W := by
        rw [hJnv]; rintro W ⟨a1, a3, a4⟩; exact ⟨a1, a3, a4⟩
      have JF : ∀ W, Jnv W → W.cell? ⟨w.heap.size, 0, none⟩ = some (.int .u64 q0) ∧ W.cell? ⟨w.heap.size, 1, none⟩ = some (.int .i64 q1) ∧ W.cell? ⟨w.heap.size, 2, none⟩ = some (.int .i64 q2) ∧ W.cell? ⟨w.heap.size, 3, none⟩ = some (.int .i64 q3) := by
        rw [hJnv]; rintro W ⟨a1, a3, a4⟩
        refine ⟨?_, ?_, ?_, ?_⟩ <;> (rw [blk_cell a1]; rfl)
      have HJ := Aside0.mk HJ; have JB := Aside0.mk JB; have JM := Aside0.mk JM; have JF := Aside0.mk JF
      clear m0 m1 m2 v0 v2 hJnv hI5 T0 T1 T2 T3 SF SM IB HI
      go_wp2_with fail
      rw [← hW6]
      clear hW6 z0 z1 z2 z3 f0 f1 f2 f3
      by_cases hz : q0 = 0
      · have dz : (q0 == 0) = true := by simpa using hz
        have HZ0 := Aside0.mk hz
        have SF := JF
        clear hz
        refine wp_region_plan (by kernel_rfl) (by kernel_rfl) Jnv (JB.out _ _ HJ.out (below_drew1 (Below.refl _ _))) ?_
        refine Plan.take 0 (some 60) (Op.fieldAddr 52 (Operand.tmp 2) 0) 0 (none) ?_ rfl (by kernel_rfl) (by kernel_rfl) (Tells.val (by rfl) ?_) ?_
        rotate_left
        · (intro W hW; have hF := SF.out W hW; go_simp; first | done | with_reducible rfl)
        try simp only [Act.put, List.setIfInBounds_toArray, List.set_cons_zero, List.set_cons_succ]
        refine Plan.take 1 (some 61) (Op.load 50 (Operand.tmp 60)) 50 (none) ?_ rfl (by kernel_rfl) (by kernel_rfl) (Tells.val (by rfl) ?_) ?_
        rotate_left
        · (intro W hW; have hF := SF.out W hW; go_simp; first | done | with_reducible rfl)
        try simp only [Act.put, List.setIfInBounds_toArray, List.set_cons_zero, List.set_cons_succ]
        refine Plan.take 2 (some 62) (Op.binOp BinOp.eql 50 (Operand.tmp 61) (Operand.const (Value.int IntKind.u64 0)) 50) 4 (none) ?_ rfl (by kernel_rfl) (by kernel_rfl) (Tells.val (by rfl) ?_) ?_
        rotate_left
        · (intro W hW; go_simp; first | done | with_reducible rfl)
        try simp only [Act.put, List.setIfInBounds_toArray, List.set_cons_zero, List.set_cons_succ]
        refine Plan.take 3 (some 63) (Op.move (Operand.tmp 62)) 4 (none) ?_ rfl (by kernel_rfl) (by kernel_rfl) (Tells.val (by rfl) ?_) ?_
        rotate_left
        · (intro W hW; go_simp; first | done | with_reducible rfl)
        try simp only [Act.put, List.setIfInBounds_toArray, List.set_cons_zero, List.set_cons_succ]
        refine Plan.take 4 (some 64) (Op.load 52 (Operand.tmp 2)) 52 (some (3, false)) undef rfl (by kernel_rfl) (by kernel_rfl) (Tells.not (by rfl)) ?_
        try simp only [Act.put, List.setIfInBounds_toArray, List.set_cons_zero, List.set_cons_succ]
        refine Plan.take 5 (some 65) (Op.call { callee := Callee.value (Operand.func 31), args := #[Operand.tmp 64], argTypes := #[52] }) 33 (some (3, false)) undef rfl (by kernel_rfl) (by kernel_rfl) (Tells.not (by rfl)) ?_
        try simp only [Act.put, List.setIfInBounds_toArray, List.set_cons_zero, List.set_cons_succ]
        refine Plan.take 6 (some 66) (Op.convert 33 9 (Operand.tmp 65)) 9 (some (3, false)) undef rfl (by kernel_rfl) (by kernel_rfl) (Tells.not (by rfl)) ?_
        try simp only [Act.put, List.setIfInBounds_toArray, List.set_cons_zero, List.set_cons_succ]
        refine Plan.take 7 (some 67) (Op.move (Operand.tmp 0)) 33 (some (3, false)) undef rfl (by kernel_rfl) (by kernel_rfl) (Tells.not (by rfl)) ?_
        try simp only [Act.put, List.setIfInBounds_toArray, List.set_cons_zero, List.set_cons_succ]
        refine Plan.take 8 (some 68) (Op.slice 33 (Operand.tmp 67) none (some (Operand.const (Value.int IntKind.i64 36))) none) 33 (some (3, false)) undef rfl (by kernel_rfl) (by kernel_rfl) (Tells.not (by rfl)) ?_
        try simp only [Act.put, List.setIfInBounds_toArray, List.set_cons_zero, List.set_cons_succ]
        refine Plan.take 9 (some 69) (Op.convert 33 9 (Operand.tmp 68)) 9 (some (3, false)) undef rfl (by kernel_rfl) (by kernel_rfl) (Tells.not (by rfl)) ?_
        try simp only [Act.put, List.setIfInBounds_toArray, List.set_cons_zero, List.set_cons_succ]
        refine Plan.take 10 (some 70) (Op.binOp BinOp.neq 9 (Operand.tmp 66) (Operand.tmp 69) 9) 4 (some (3, false)) undef rfl (by kernel_rfl) (by kernel_rfl) (Tells.not (by rfl)) ?_
        try simp only [Act.put, List.setIfInBounds_toArray, List.set_cons_zero, List.set_cons_succ]
        refine Plan.take 11 (some 71) (Op.pick (Operand.tmp 63) (Operand.const (Value.bool true)) (Operand.tmp 70)) 4 (none) ?_ rfl (by kernel_rfl) (by kernel_rfl) (Tells.val (by rfl) ?_) ?_
        rotate_left
        · (intro W hW; go_simp; first | done | with_reducible rfl)
        try simp only [Act.put, List.setIfInBounds_toArray, List.set_cons_zero, List.set_cons_succ]
        refine Plan.done _ (by kernel_rfl) ?_
        intro W hW
        have HJ := Aside0.mk hW
        clear hW
        obtain ⟨m0, m1, m2⟩ := JM.out _ HJ.out
        have z0 := blk_cell m0 0; have z1 := blk_cell m0 1; have z2 := blk_cell m0 2; have z3 := blk_cell m0 3
        simp only [List.getElem?_toArray, List.getElem?_cons_zero, List.getElem?_cons_succ] at z0 z1 z2 z3
        have f0 := blk_frozen m0 0; have f1 := blk_frozen m0 1; have f2 := blk_frozen m0 2; have f3 := blk_frozen m0 3
        have HM2 := Aside0.mk m2
        clear m0 m1 m2
        go_wp2_with fail
        refine bodyPost_ret (v := .tuple #[.agg #[.int .u64 0, .int .i64 0, .int .i64 0, .int .i64 0], .int .i64 40]) (by simp [results, Try.results29, go_sem, z0, z1, z2, z3, f0, f1, f2, f3]) rfl ?_
        have e2 : getM2 l = (0, 0, 0, 0, 40) := by
          obtain ⟨hq1, hq2, hq3⟩ := HQ.out
          unfold getM2; rw [if_neg (by rw [← hq1, ← hq2, ← hq3]; have := HGN.out; omega)]; rw [if_pos (.inl (by rw [← HQ0.out]; exact HZ0.out))]
        unfold GetPost
        rw [e1.out, e2]
        refine ⟨rfl, ?_⟩
        repeat (first | (with_reducible first | exact HM2.out | (refine below_set ?_ (Nat.le_refl _)) | apply below_alloc | apply pw_below_drewN | apply below_drew1) | exact HM2.out)
      · have dz : (q0 == 0) = false := by simpa using hz
        have HZ0 := Aside0.mk hz
        clear hz
        have JS : Aside0 (∀ W, Jnv W → (convert 33 9 (.slice A 36 c)).run Try.prog W = .ok (.string (strOfNums (l.take 36))) W) := ⟨fun W hW => by
          have := Kd.C_take (m := 36) (JM.out W hW).2.1 (by omega)
          have h36l : (l.take 36).length = 36 := by rw [List.length_take]; omega
          have h2 := Kd.C_string (c := c) Try.underlying33 Try.underlying5 Try.underlying9 this
          rwa [h36l] at h2⟩
        have hR1 : IntKind.u64.wrap q1 = q1 := by rw [IntKind.wrap_u64]; omega
        have hR2 : IntKind.u64.wrap q2 = q2 := by rw [IntKind.wrap_u64]; omega
        have hR3 : IntKind.u64.wrap q3 = q3 := by rw [IntKind.wrap_u64]; omega
        have HRW := Aside0.mk (And.intro hR1 (And.intro hR2 hR3))
        clear hR1 hR2 hR3
        have hc36 : (36 : Int) ≤ (c : Int) := by omega
        obtain ⟨mb, hmb⟩ : ∃ b, b = decide (metaB q0 q1 q2 q3 = l.take 36) := ⟨_, rfl⟩
        have HMB := Aside0.mk hmb
        have hcmp : ((strOfNums (metaB q0 q1 q2 q3)).toList == (strOfNums (l.take 36)).toList) = mb := by rw [strOf_inj_ _ _ (metaB_bytes _ _ _ _) (fun x hx => HBY.out x (List.mem_of_mem_take hx)), hmb]
        clear hmb
        have SF := Aside0.mk (fun W hW => And.intro (JF.out W hW) (JS.out W hW))
        have HRF : Aside0 (∀ W : World, Below W.heap.size W W) := ⟨fun W => Below.refl _ _⟩
        refine' wp_region_flow (by kernel_rfl) (by kernel_rfl) Jnv (fun W W' => Below W.heap.size W W') HRF.out (JB.out _ _ HJ.out (below_drew1 (Below.refl _ _))) _ ?_
        rotate_left
        refine' Flow.val _ 0 (some 60) (Op.fieldAddr 52 (Operand.tmp 2) 0) 0 (none) [] _ rfl (by kernel_rfl) (by kernel_rfl) (by kernel_rfl) (by rfl) ?_ ?_ HRF.out
        rotate_left 2
        · (intro W hW hK; have hF := SF.out W hW; go_simp; first | done | with_reducible rfl)
        try simp only [Act.put, List.setIfInBounds_toArray, List.set_cons_zero, List.set_cons_succ]
        refine' Flow.val _ 1 (some 61) (Op.load 50 (Operand.tmp 60)) 50 (none) [] _ rfl (by kernel_rfl) (by kernel_rfl) (by kernel_rfl) (by rfl) ?_ ?_ HRF.out
        rotate_left 2
        · (intro W hW hK; have hF := SF.out W hW; go_simp; first | done | with_reducible rfl)
        try simp only [Act.put, List.setIfInBounds_toArray, List.set_cons_zero, List.set_cons_succ]
        refine' Flow.val _ 2 (some 62) (Op.binOp BinOp.eql 50 (Operand.tmp 61) (Operand.const (Value.int IntKind.u64 0)) 50) 4 (none) [] _ rfl (by kernel_rfl) (by kernel_rfl) (by kernel_rfl) (by rfl) ?_ ?_ HRF.out
        rotate_left 2
        · (intro W hW hK; go_simp; first | done | with_reducible rfl)
        try simp only [Act.put, List.setIfInBounds_toArray, List.set_cons_zero, List.set_cons_succ]
        refine' Flow.val _ 3 (some 63) (Op.move (Operand.tmp 62)) 4 (none) [] _ rfl (by kernel_rfl) (by kernel_rfl) (by kernel_rfl) (by rfl) ?_ ?_ HRF.out
        rotate_left 2
        · (intro W hW hK; go_simp; first | done | with_reducible rfl)
        try simp only [Act.put, List.setIfInBounds_toArray, List.set_cons_zero, List.set_cons_succ]
        refine' Flow.val _ 4 (some 64) (Op.load 52 (Operand.tmp 2)) 52 (some (3, false)) [] _ rfl (by kernel_rfl) (by kernel_rfl) (by kernel_rfl) (by rfl) ?_ ?_ HRF.out
        rotate_left 2
        · (intro W hW hK; have hF := SF.out W hW; go_simp; first | done | with_reducible rfl)
        try simp only [Act.put, List.setIfInBounds_toArray, List.set_cons_zero, List.set_cons_succ]
        refine' Flow.val _ 7 (some 67) (Op.move (Operand.tmp 0)) 33 (some (3, false)) [] _ rfl (by kernel_rfl) (by kernel_rfl) (by kernel_rfl) (by rfl) ?_ ?_ HRF.out
        rotate_left 2
        · (intro W hW hK; go_simp; first | done | with_reducible rfl)
        try simp only [Act.put, List.setIfInBounds_toArray, List.set_cons_zero, List.set_cons_succ]
        refine' Flow.val _ 8 (some 68) (Op.slice 33 (Operand.tmp 67) none (some (Operand.const (Value.int IntKind.i64 36))) none) 33 (some (3, false)) [] _ rfl (by kernel_rfl) (by kernel_rfl) (by kernel_rfl) (by rfl) ?_ ?_ HRF.out
        rotate_left 2
        · (intro W hW hK; have hF := SF.out W hW; go_simp; first | done | with_reducible rfl)
        try simp only [Act.put, List.setIfInBounds_toArray, List.set_cons_zero, List.set_cons_succ]
        refine' Flow.val _ 9 (some 69) (Op.convert 33 9 (Operand.tmp 68)) 9 (some (3, false)) [] _ rfl (by kernel_rfl) (by kernel_rfl) (by kernel_rfl) (by rfl) ?_ ?_ HRF.out
        rotate_left 2
        · (intro W hW hK; have hF := SF.out W hW; go_simp; first | done | with_reducible rfl)
        try simp only [Act.put, List.setIfInBounds_toArray, List.set_cons_zero, List.set_cons_succ]
        refine' Flow.op [(6, (fun u => u = (.string (strOfNums (metaB q0 q1 q2 q3)) : Value)), fun _ _ => True), (10, (fun u => u = (.bool (!mb) : Value)), fun _ _ => True), (11, (fun u => u = (.bool (!mb) : Value)), fun _ _ => True)] 5 (some 65) (Op.call { callee := Callee.value (Operand.func 31), args := #[Operand.tmp 64], argTypes := #[52] }) 33 (some (3, false)) [] (fun v => ∃ g : Nat, v = .slice (some ⟨g, 0, none⟩) 36 36) (fun v W => ∃ g : Nat, v = .slice (some ⟨g, 0, none⟩) 36 36 ∧ Blk W g (metaB q0 q1 q2 q3)) rfl (by kernel_rfl) (by kernel_rfl) (by kernel_rfl) ⟨_, 0, rfl⟩ (fun v W W' hb ⟨g, e, h⟩ => ⟨g, e, blk_below h hb⟩) (by rfl) ?_ ?_
        · intro W hW hK
          refine .inr ⟨31, #[.agg #[.int .u64 q0, .int .i64 q1, .int .i64 q2, .int .i64 q3]], by go_simp, (mput_calls q0 q1 q2 q3 W HN0.out).mono ?_⟩
          rintro e w' ⟨g, rfl, _, hbk, hb⟩
          rw [HRW.out.1, HRW.out.2.1, HRW.out.2.2] at hbk
          exact ⟨_, rfl, ⟨_, rfl⟩, JB.out _ _ hW hb, hb, ⟨g, rfl, hbk⟩⟩
        rintro v ⟨g5, rfl⟩
        try simp only [Act.put, List.setIfInBounds_toArray, List.set_cons_zero, List.set_cons_succ]
        refine' Flow.val _ 6 (some 66) (Op.convert 33 9 (Operand.tmp 65)) 9 (some (3, false)) [5] _ rfl (by kernel_rfl) (by kernel_rfl) (by kernel_rfl) (by rfl) ?_ ?_ HRF.out
        · intro W hW hK
          have h5 := hK 5 (by simp)
          simp only [updK, if_true, if_false, reduceIte] at h5
          obtain ⟨g', e, hC⟩ := h5
          obtain rfl : g5 = g' := by simpa using e
          have cvg : (convert 33 9 (.slice (some ⟨g5, 0, none⟩) 36 36)).run Try.prog W = .ok (.string (strOfNums (metaB q0 q1 q2 q3))) W := mconv g5 36 _ W hC (metaB_length _ _ _ _)
          go_simp; first | done | with_reducible rfl
        try simp only [Act.put, List.setIfInBounds_toArray, List.set_cons_zero, List.set_cons_succ]
        refine' Flow.val _ 10 (some 70) (Op.binOp BinOp.neq 9 (Operand.tmp 66) (Operand.tmp 69) 9) 4 (some (3, false)) [] _ rfl (by kernel_rfl) (by kernel_rfl) (by kernel_rfl) (by rfl) ?_ ?_ HRF.out
        · (intro W hW hK; go_simp; first | done | with_reducible rfl)
        try simp only [Act.put, List.setIfInBounds_toArray, List.set_cons_zero, List.set_cons_succ]
        refine' Flow.val _ 11 (some 71) (Op.pick (Operand.tmp 63) (Operand.const (Value.bool true)) (Operand.tmp 70)) 4 (none) [] _ rfl (by kernel_rfl) (by kernel_rfl) (by kernel_rfl) (by rfl) ?_ ?_ HRF.out
        · (intro W hW hK; go_simp; first | done | with_reducible rfl)
        try simp only [Act.put, List.setIfInBounds_toArray, List.set_cons_zero, List.set_cons_succ]
        refine Flow.done _ (by kernel_rfl) ?_
        intro W hW _
        have HJ7 := Aside0.mk hW
        clear hW
        rcases mb with _ | _
        · obtain ⟨m0, m1, m2⟩ := JM.out _ HJ7.out
          have z0 := blk_cell m0 0; have z1 := blk_cell m0 1; have z2 := blk_cell m0 2; have z3 := blk_cell m0 3
          simp only [List.getElem?_toArray, List.getElem?_cons_zero, List.getElem?_cons_succ] at z0 z1 z2 z3
          have f0 := blk_frozen m0 0; have f1 := blk_frozen m0 1; have f2 := blk_frozen m0 2; have f3 := blk_frozen m0 3
          have HM2 := Aside0.mk m2
          clear m0 m1 m2
          go_wp2_with fail
          refine bodyPost_ret (v := .tuple #[.agg #[.int .u64 0, .int .i64 0, .int .i64 0, .int .i64 0], .int .i64 40]) (by simp [results, Try.results29, go_sem, z0, z1, z2, z3, f0, f1, f2, f3]) rfl ?_
          have e2 : getM2 l = (0, 0, 0, 0, 40) := by
            obtain ⟨hq1, hq2, hq3⟩ := HQ.out
            unfold getM2; rw [if_neg (by rw [← hq1, ← hq2, ← hq3]; have := HGN.out; omega)]; rw [if_pos (.inr (by rw [← HQ0.out, ← hq1, ← hq2, ← hq3]; exact of_decide_eq_false HMB.out.symm))]
          unfold GetPost
          rw [e1.out, e2]
          refine ⟨rfl, ?_⟩
          repeat (first | (with_reducible first | exact HM2.out | (refine below_set ?_ (Nat.le_refl _)) | apply below_alloc | apply pw_below_drewN | apply below_drew1) | exact HM2.out)
        · obtain ⟨m0, m1, m2⟩ := JM.out _ HJ7.out
          have z0 := blk_cell m0 0; have z1 := blk_cell m0 1; have z2 := blk_cell m0 2; have z3 := blk_cell m0 3
          simp only [List.getElem?_toArray, List.getElem?_cons_zero, List.getElem?_cons_succ] at z0 z1 z2 z3
          have f0 := blk_frozen m0 0; have f1 := blk_frozen m0 1; have f2 := blk_frozen m0 2; have f3 := blk_frozen m0 3
          have HM2 := Aside0.mk m2
          clear m0 m1 m2
          go_wp2_with fail
          refine bodyPost_ret (v := .tuple #[.agg #[.int .u64 q0, .int .i64 q1, .int .i64 q2, .int .i64 q3], .int .i64 0]) (by simp [results, Try.results29, go_sem, z0, z1, z2, z3, f0, f1, f2, f3]) rfl ?_
          have e2 : getM2 l = (q0, q1, q2, q3, 0) := by
            obtain ⟨hq1, hq2, hq3⟩ := HQ.out
            unfold getM2; rw [if_neg (by rw [← hq1, ← hq2, ← hq3]; have := HGN.out; omega)]; rw [if_neg (by rw [← HQ0.out, ← hq1, ← hq2, ← hq3]; exact fun h => h.elim HZ0.out (fun h => h (of_decide_eq_true HMB.out.symm))), ← HQ0.out, ← hq1, ← hq2, ← hq3]
          unfold GetPost
          rw [e1.out, e2]
          refine ⟨rfl, ?_⟩
          repeat (first | (with_reducible first | exact HM2.out | (refine below_set ?_ (Nat.le_refl _)) | apply below_alloc | apply pw_below_drewN | apply below_drew1) | exact HM2.out)
set_option maxHeartbeats 4000000 in
set_option maxRecDepth 100000 in
theorem mget_calls (A : Option Addr) (c : Nat) (l : List Int) (w : World) (hr : Kd.C (Kd.int .u8) w A l.length l) (hc : l.length ≤ c) (hby : Bytes l) :
    Calls Try.prog 29 #[.slice A l.length c] w (GetPost l w) := by
  have hlm := hr.2.1
  have HR := Aside0.mk hr; have HBY := Aside0.mk hby
  clear hr hby
  by_cases h36 : l.length < 36
  · have d1 : decide (l.length < 36) = true := decide_eq_true h36
    have e1 : getM l = (0, 0, 0, 0, 40) := by unfold getM; rw [if_pos h36]
    go_enter Try.func29, Try.ntmps29
    go_wp2_with fail
    refine bodyPost_ret (v := .tuple #[.agg #[.int .u64 0, .int .i64 0, .int .i64 0, .int .i64 0], .int .i64 40]) (by simp [results, Try.results29, go_sem]) rfl ?_
    unfold GetPost
    rw [e1]
    exact ⟨rfl, by repeat (first | (with_reducible first | exact Below.refl _ _ | apply below_alloc | apply pw_below_drewN | apply below_drew1) | exact Below.refl _ _)⟩
  · exact mget_long A c l w HR.out hc HBY.out (by omega)
end Go.Proofs.YteimienhaodfcaaK
