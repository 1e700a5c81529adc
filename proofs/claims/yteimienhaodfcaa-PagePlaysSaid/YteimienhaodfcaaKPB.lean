import Derived.RangeFuncNested
import Derived.RangeFuncBound
import Derived.RangeFuncCalls
import Derived.RangeFuncLeaves
import Derived.Shelf.Abstract
import Derived.Shelf.RegionOpen
import Derived.WalkKit
import Derived.OwnWalkIn
import Derived.TacticsInMore
import Derived.LoopNIn
import Derived.LoopIn
import Derived.Test.YteimienhaodfcaaKPA
import Derived.Test.YteimienhaodfcaaKFlow2
import Derived.Test.YteimienhaodfcaaKRAG
import Derived.Test.YteimienhaodfcaaKPGt
import Derived.Test.YteimienhaodfcaaKPage
import Derived.Test.YteimienhaodfcaaKMetaP
import Derived.Test.YteimienhaodfcaaKMetaT
import Derived.Test.YteimienhaodfcaaKFlow
import Derived.Test.YteimienhaodfcaaKClone
import Derived.Deep.QuietTactic
import Derived.BigQuiet
import Derived.Deep.RegionHeld3
import Derived.Lib.AppendZerosOnto
import Derived.Lib.SliceRun
import Derived.Lib.Walk
import Derived.Test.YteimienhaodfcaaKOpen
/- The reference's page.Write (function 50), walked whole. -/
namespace Go.Proofs.YteimienhaodfcaaK
open Go.Shelf Go.RowKit Go.Proofs.YteimienhaodfcaaW.PrintWords Go.Proofs.YteimienhaodfcaaW.PrintLast Go.Proofs.YteimienhaodfcaaW.PrintMore Go.Crc
open Go.Proofs.YteimienhaodfcaaK.PgB Go.Proofs.YteimienhaodfcaaK.PgB.Back
open Go.ChangeMaps (setBlock)
attribute [local go_sem] max2_int min2_int max_two min_two Oper.semAt_some
set_option linter.unusedVariables false
set_option linter.unusedSimpArgs false
variable {w w' : World} {X X' S : Nat → Prop} {d sb mb clock : Nat} {es : Array MapEntry} {safe : List Int} {D : Dk}
section
variable {W W' : World} {Y : Nat → Prop} {f : Nat}
theorem RAt.write' (h : RAt W Y f D) (hwf : WfD D) (n : Int) (p : List Int) (hp : p.length ≤ 140737488351232) : Calls Try.prog 39 #[.pointer (some ⟨f, 0, none⟩), .int .i64 n, .string (strOfNums p)] W fun e w' => e = .returned (.int .i64 (D.writeE n p)) ∧ RAt w' Y f (D.written n p) ∧ Frm Y W w' := by
  obtain ⟨g1, g2, g3, c1, c2, c3, hq, y0, y1, y2, y3⟩ := h
  refine (rwrite_calls hq hwf n p hp).mono ?_
  rintro e w' ⟨he, h1, h2⟩
  exact ⟨he, ⟨g1, g2, g3, c1, c2, c3, h1, y0, y1, y2, y3⟩, h2.mono fun k hk => by rcases hk with rfl | rfl | rfl <;> assumption⟩
theorem RAt.countQ (h : RAt W Y f D) (hwf : WfD D) (per : Int) : Calls Try.prog 48 #[.pointer (some ⟨f, 0, none⟩), .int .i64 per] W fun e w' => e = .returned (.int .i64 (countD D per)) ∧ Drawn0 W w' := by
  obtain ⟨g1, g2, g3, c1, c2, c3, hq, _⟩ := h
  exact rcountQ_calls hq hwf per
theorem written_size (D : Dk) (n : Int) (p : List Int) : (D.written n p).size = D.size ∧ (D.written n p).sectors = D.sectors := by
  unfold Dk.written
  have h1 := D.begun_size; have h2 := D.begun_sectors
  split
  · exact ⟨rfl, rfl⟩
  · split
    · exact ⟨rfl, rfl⟩
    · split
      · exact ⟨h1, h2⟩
      · exact ⟨h1, h2⟩
theorem range_split {α : Type} (ch : Nat → α) {k n : Nat} (h : k < n) : (List.range n).map ch = (List.range k).map ch ++ (ch k :: ((List.range n).drop (k + 1)).map ch) := by
  have h1 : List.range n = List.range k ++ (k :: (List.range n).drop (k + 1)) := by
    have h1 := List.take_append_drop k (List.range n)
    rw [List.take_range, Nat.min_eq_left (by omega), List.drop_eq_getElem_cons (by simpa using h), List.getElem_range] at h1
    exact h1.symm
  conv => lhs; rw [h1]
  rw [List.map_append, List.map_cons]
set_option maxHeartbeats 4000000 in
set_option maxRecDepth 100000 in
theorem rpwrite_calls (h : RAt W Y f D) (hwf : WfD D) (hY : ∀ k, Y k → k < W.heap.size) (per kind id : Int) (A : Option Addr) (c : Nat) (l : List Int) (hr : Kd.C (Kd.int .u8) W A l.length l) (hc : l.length ≤ c) (hk : 0 ≤ kind ∧ kind < 256) (hi : 0 ≤ id ∧ id < 4294967296) (hL : Bytes l) :
    Calls Try.prog 50 #[.pointer (some ⟨f, 0, none⟩), .int .i64 per, .agg #[.int .u8 kind, .int .u32 id, .slice A l.length c]] W fun e w' => e = .returned (.int .i64 (D.pwr per kind id l).2) ∧ RAt w' Y f (D.pwr per kind id l).1 ∧ Frm Y W w' := by
  have H := Aside0.mk h; have HWF := Aside0.mk hwf; have HY := Aside0.mk hY; have HR := Aside0.mk hr; have HC := Aside0.mk hc; have HK := Aside0.mk hk; have HI := Aside0.mk hi; have HL := Aside0.mk hL
  clear h hwf hY hr hc hk hL
  obtain ⟨W3, hW3⟩ : ∃ W3, W3 = W.alloc (.cells #[.int .u8 kind, .int .u32 id, .slice A l.length c] 83) := ⟨_, rfl⟩
  obtain ⟨g, hg⟩ : ∃ g, g = W.heap.size := ⟨_, rfl⟩
  have hb3 : Below W.heap.size W W3 := by rw [hW3]; exact below_alloc (Below.refl _ _) _
  have q1 : W3.heap[g]? = some (.cells #[.int .u8 kind, .int .u32 id, .slice A l.length c] 83 (0, 0)) := by rw [hW3, hg]; exact blk_new W _
  have HG := Aside0.mk (show ∀ k, Y k → k ≠ g from fun k hk e => by have := HY.out k hk; omega)
  have HB3 := Aside0.mk hb3; have HQ := Aside0.mk q1; have H3 := Aside0.mk (H.out.below hb3)
  have HW3 := Aside0.mk hW3; have HGE := Aside0.mk hg
  clear hb3 hg hW3
  go_enter Try.func50, Try.ntmps50
  go_upto_region 3 with (fail)
  rw [← HW3.out, ← HGE.out]
  clear HW3
  have HCQ := Aside0.mk (fun W' (hd : Drawn0 W3 W') => (H3.out.below hd.below).countQ HWF.out per)
  have k1 := blk_cell q1 0; have k2 := blk_cell q1 1; have k3 := blk_cell q1 2
  simp only [List.getElem?_toArray, List.getElem?_cons_zero, List.getElem?_cons_succ] at k1 k2 k3
  clear q1
  go_quiet (first | (go_at_call 48; (refine (HCQ.out _ ⟨⟨_, rfl⟩⟩).mono ?_); rintro e w' ⟨rfl, ⟨nd, rfl⟩⟩; exact ⟨rfl, _, World.drewN_drewN _ _ _⟩))
  obtain ⟨W4, hW4⟩ : ∃ W4, W4 = W3.drewN nq := ⟨_, rfl⟩
  have hb4 : Below W3.heap.size W3 W4 := by rw [hW4]; exact pw_below_drewN (Below.refl _ _) _
  rw [← hW4]
  clear hW4 k1 k2 k3
  have H4 := Aside0.mk (H3.out.below hb4)
  have HB4 := Aside0.mk (below_step HB3.out hb4)
  have q1 := blk_below HQ.out hb4
  have HQ4 := Aside0.mk q1
  have k1 := blk_cell q1 0; have k2 := blk_cell q1 1; have k3 := blk_cell q1 2
  simp only [List.getElem?_toArray, List.getElem?_cons_zero, List.getElem?_cons_succ] at k1 k2 k3
  clear hb4 q1 HQ HCQ
  by_cases hcnt : countD D per ≤ id
  · have d1 : decide (countD D per ≤ id) = true := decide_eq_true hcnt
    have HCN := Aside0.mk hcnt
    go_wp2_with fail
    go_ret
    have e0 : D.pwr per kind id l = (D, 2) := by rw [Dk.pwr, if_pos HCN.out]
    rw [e0]
    exact ⟨rfl, H4.out, Frm.of_below HB4.out⟩
  have d1 : decide (countD D per ≤ id) = false := decide_eq_false hcnt
  have HCN := Aside0.mk hcnt
  have hcp := countD_pos hcnt hi.1
  have hdb : 64 ≤ D.size ∧ D.size ≤ 1024 := ⟨HWF.out.b3, HWF.out.b4⟩
  have hp0 : 0 ≤ per * (D.size : Int) ∧ per * (D.size : Int) ≤ 8192 * 1024 := ⟨Int.mul_nonneg (by omega) (by omega), Int.mul_le_mul (by omega) (by omega) (by omega) (by omega)⟩
  have hw : IntKind.i64.wrap (per * (D.size : Int)) = per * (D.size : Int) := IntWalk.i64_in _ (by omega)
  have hw2 : wrap64 (per * (D.size : Int)) = per * (D.size : Int) := by unfold wrap64; omega
  have HCP := Aside0.mk (And.intro hcp hdb)
  obtain ⟨pe, hpe⟩ : ∃ v, v = (putF (per * (D.size : Int)) kind id l).2 := ⟨_, rfl⟩
  obtain ⟨pb, hpb⟩ : ∃ v, v = (putF (per * (D.size : Int)) kind id l).1 := ⟨_, rfl⟩
  have HPE := Aside0.mk hpe; have HPB := Aside0.mk hpb
  obtain ⟨Jnv, hJnv⟩ : ∃ J : World → Prop, J = fun W' => Below W4.heap.size W4 W' := ⟨_, rfl⟩
  have HJD : Aside0 (∀ W', Jnv W' → Below W4.heap.size W4 W') := ⟨fun W' h => by rw [hJnv] at h; exact h⟩
  have HDJ : Aside0 (∀ W', Below W4.heap.size W4 W' → Jnv W') := ⟨fun W' h => by rw [hJnv]; exact h⟩
  obtain ⟨z0, hz0⟩ : ∃ S, S = strOfNums pb := ⟨_, rfl⟩
  have HZ0 := Aside0.mk hz0
  have HPT : Aside0 (∀ W', Jnv W' → Calls Try.prog 82 #[.int .i64 (per * (D.size : Int)), .agg #[.int .u8 kind, .int .u32 id, .slice A l.length c]] W' fun e w' => e = .returned (.tuple #[.string z0, .int .i64 pe]) ∧ Jnv w' ∧ Below W'.heap.size W' w') := ⟨fun W' hW => by
    rw [hpe, hz0, hpb]
    refine (rput3_calls A c _ kind id l W' (Kd.C_below HR.out (below_step HB4.out (HJD.out _ hW))) HC.out HK.out HI.out HL.out (by omega)).mono ?_
    rintro e w' ⟨he, hb'⟩
    exact ⟨he, HDJ.out _ (below_step (HJD.out _ hW) hb'), hb'⟩⟩
  obtain ⟨g1, g2, g3, c1, c2, c3, hq, yy⟩ := H4.out
  have x0 := hq.cells.1
  have SF : Aside0 (∀ W', Jnv W' → W'.cell? ⟨g, 0, none⟩ = some (.int .u8 kind) ∧ W'.cell? ⟨g, 1, none⟩ = some (.int .u32 id) ∧ W'.cell? ⟨g, 2, none⟩ = some (.slice A l.length c) ∧ W'.cell? ⟨f, 0, none⟩ = some (.int .i64 (D.size : Int))) := ⟨fun W' hW => by
    have hb := HJD.out W' hW
    exact ⟨pw_cell_below hb k1, pw_cell_below hb k2, pw_cell_below hb k3, pw_cell_below hb x0⟩⟩
  have HRF : Aside0 (∀ W : World, Below W.heap.size W W) := ⟨fun W => Below.refl _ _⟩
  clear hq yy hpe hpb hz0 hJnv x0 k1 k2 k3
  go_upto_region 5 with (fail)
  refine' wp_region_flow (by kernel_rfl) (by kernel_rfl) Jnv (fun W W' => Below W.heap.size W W') HRF.out (HDJ.out _ (below_drew1 (Below.refl _ _))) _ ?_
  rotate_left
  refine' Flow.val _ 0 (some 21) (Op.move (Operand.tmp 1)) 3 (none) [] _ rfl (by kernel_rfl) (by kernel_rfl) (by kernel_rfl) (by rfl) ?_ ?_ HRF.out
  rotate_left 2
  · (intro W hW hK; go_simp; first | done | with_reducible rfl)
  try simp only [Act.put, List.setIfInBounds_toArray, List.set_cons_zero, List.set_cons_succ]
  refine' Flow.val _ 1 (some 22) (Op.move (Operand.tmp 0)) 67 (none) [] _ rfl (by kernel_rfl) (by kernel_rfl) (by kernel_rfl) (by rfl) ?_ ?_ HRF.out
  rotate_left 2
  · (intro W hW hK; go_simp; first | done | with_reducible rfl)
  try simp only [Act.put, List.setIfInBounds_toArray, List.set_cons_zero, List.set_cons_succ]
  refine' Flow.val _ 2 (some 23) (Op.nilCheck (Operand.tmp 22)) 0 (none) [] _ rfl (by kernel_rfl) (by kernel_rfl) (by kernel_rfl) (by rfl) ?_ ?_ HRF.out
  rotate_left 2
  · (intro W hW hK; go_simp; first | done | with_reducible rfl)
  try simp only [Act.put, List.setIfInBounds_toArray, List.set_cons_zero, List.set_cons_succ]
  refine' Flow.val _ 3 (some 24) (Op.fieldAddr 95 (Operand.tmp 23) 0) 0 (none) [] _ rfl (by kernel_rfl) (by kernel_rfl) (by kernel_rfl) (by rfl) ?_ ?_ HRF.out
  rotate_left 2
  · (intro W hW hK; have hF := SF.out W hW; go_simp; first | done | with_reducible rfl)
  try simp only [Act.put, List.setIfInBounds_toArray, List.set_cons_zero, List.set_cons_succ]
  refine' Flow.val _ 4 (some 25) (Op.load 3 (Operand.tmp 24)) 3 (none) [] _ rfl (by kernel_rfl) (by kernel_rfl) (by kernel_rfl) (by rfl) ?_ ?_ HRF.out
  rotate_left 2
  · (intro W hW hK; have hF := SF.out W hW; go_simp; first | done | with_reducible rfl)
  try simp only [Act.put, List.setIfInBounds_toArray, List.set_cons_zero, List.set_cons_succ]
  refine' Flow.val _ 5 (some 26) (Op.binOp BinOp.mul 3 (Operand.tmp 21) (Operand.tmp 25) 3) 3 (none) [] _ rfl (by kernel_rfl) (by kernel_rfl) (by kernel_rfl) (by rfl) ?_ ?_ HRF.out
  rotate_left 2
  · (intro W hW hK; go_simp; first | done | with_reducible rfl)
  try simp only [Act.put, List.setIfInBounds_toArray, List.set_cons_zero, List.set_cons_succ]
  refine' Flow.val _ 6 (some 27) (Op.load 83 (Operand.tmp 5)) 83 (none) [] _ rfl (by kernel_rfl) (by kernel_rfl) (by kernel_rfl) (by rfl) ?_ ?_ HRF.out
  rotate_left 2
  · (intro W hW hK; have hF := SF.out W hW; go_simp; first | done | with_reducible rfl)
  try simp only [Act.put, List.setIfInBounds_toArray, List.set_cons_zero, List.set_cons_succ]
  refine' Flow.call _ 7 (some 28) (Op.call { callee := Callee.value (Operand.func 82), args := #[Operand.tmp 26, Operand.tmp 27], argTypes := #[3, 83] }) 127 (none) [] _ 82 _ rfl (by kernel_rfl) (by kernel_rfl) (by kernel_rfl) (by rfl) ?_ ?_ ?_
  rotate_left 3
  · (intro W; go_simp; first | done | with_reducible rfl)
  · (intro W hW hK; refine (HPT.out W hW).mono ?_; intro e w' h; exact h)
  try simp only [Act.put, List.setIfInBounds_toArray, List.set_cons_zero, List.set_cons_succ]
  refine' Flow.val _ 8 (some 20) (Op.move (Operand.tmp 28)) 127 (none) [] _ rfl (by kernel_rfl) (by kernel_rfl) (by kernel_rfl) (by rfl) ?_ ?_ HRF.out
  rotate_left 2
  · (intro W hW hK; go_simp; first | done | with_reducible rfl)
  try simp only [Act.put, List.setIfInBounds_toArray, List.set_cons_zero, List.set_cons_succ]
  refine' Flow.val _ 9 (some 29) (Op.extract (Operand.tmp 20) 0) 9 (none) [] _ rfl (by kernel_rfl) (by kernel_rfl) (by kernel_rfl) (by rfl) ?_ ?_ HRF.out
  rotate_left 2
  · (intro W hW hK; go_simp; first | done | with_reducible rfl)
  try simp only [Act.put, List.setIfInBounds_toArray, List.set_cons_zero, List.set_cons_succ]
  refine' Flow.val _ 10 (some 30) (Op.extract (Operand.tmp 20) 1) 3 (none) [] _ rfl (by kernel_rfl) (by kernel_rfl) (by kernel_rfl) (by rfl) ?_ ?_ HRF.out
  rotate_left 2
  · (intro W hW hK; go_simp; first | done | with_reducible rfl)
  try simp only [Act.put, List.setIfInBounds_toArray, List.set_cons_zero, List.set_cons_succ]
  refine' Flow.val _ 11 (some 7) (Op.assign (Operand.tmp 29)) 9 (none) [] _ rfl (by kernel_rfl) (by kernel_rfl) (by kernel_rfl) (by rfl) ?_ ?_ HRF.out
  rotate_left 2
  · (intro W hW hK; go_simp; first | done | with_reducible rfl)
  try simp only [Act.put, List.setIfInBounds_toArray, List.set_cons_zero, List.set_cons_succ]
  refine' Flow.val _ 12 (some 8) (Op.assign (Operand.tmp 30)) 3 (none) [] _ rfl (by kernel_rfl) (by kernel_rfl) (by kernel_rfl) (by rfl) ?_ ?_ HRF.out
  rotate_left 2
  · (intro W hW hK; go_simp; first | done | with_reducible rfl)
  try simp only [Act.put, List.setIfInBounds_toArray, List.set_cons_zero, List.set_cons_succ]
  refine Flow.done _ (by kernel_rfl) ?_
  intro w5 hW hK
  have HB5 := Aside0.mk (HJD.out _ hW)
  clear hW hK SF HPT HJD HDJ HRF Jnv
  (
    have H5 := Aside0.mk (H4.out.below HB5.out)
    have q1 := blk_below HQ4.out HB5.out
    have HQ5 := Aside0.mk q1
    have HBB := Aside0.mk (below_step HB4.out HB5.out)
    clear q1
    by_cases hpe : pe = 0
    case neg =>
      have de : (pe == 0) = false := by simpa using hpe
      have HPN := Aside0.mk hpe
      clear hpe
      go_wp2_with fail
      go_ret
      have e0 : D.pwr per kind id l = (D, pe) := by rw [Dk.pwr, if_neg (by have := HCN.out; omega), if_pos (by have h1 := HPE.out; have h2 := HPN.out; rw [h1] at h2; exact h2), HPE.out]; rfl
      rw [e0]
      exact ⟨rfl, H5.out, Frm.of_below HBB.out⟩
    subst hpe
    have hpz : putE (per * (D.size : Int)) kind l = 0 := HPE.out.symm
    have hpb : pb = putB (per * (D.size : Int)).toNat kind id l := by rw [HPB.out]; unfold putF; rw [if_pos hpz]
    obtain ⟨pn, hpn⟩ : ∃ n : Nat, per = n := ⟨per.toNat, by omega⟩
    subst hpn
    have hs2 : ((pn : Int) * (D.size : Int)).toNat = pn * D.size := by rw [← Int.natCast_mul, Int.toNat_natCast]
    have hpl : pb.length = pn * D.size := by
      rw [hpb, putB_length _ _ _ _ (by have := putE_zero hpz; omega), hs2]
    have hpbb : Bytes pb := by rw [hpb]; exact putB_bytes _ _ _ _ (by have := putE_zero hpz; omega) HK.out HL.out
    obtain ⟨ch, hch⟩ : ∃ ch : Nat → List Int, ch = fun j => secOf pb D.size j := ⟨_, rfl⟩
    have hcx : ∀ j, ch j = secOf pb D.size j := fun j => by rw [hch]
    have hpw : D.pwr pn kind id l = Dk.pages ((List.range pn).map ch) (id * pn) D := by
      rw [Dk.pwr, if_neg (by have := HCN.out; omega), if_neg (by rw [hpz]; decide), hch, hpb]; rfl
    have HPW := Aside0.mk hpw; have HCX := Aside0.mk hcx; have HPL := Aside0.mk hpl; have HPBB := Aside0.mk hpbb
    have hc16 : countD D pn ≤ 16384 := by unfold countD; split <;> (try split) <;> omega
    have hid : id < 16384 := by omega
    have hidp : 0 ≤ id * (pn : Int) ∧ id * (pn : Int) ≤ 16384 * 8192 := ⟨Int.mul_nonneg (by omega) (by omega), Int.mul_le_mul (by omega) (by omega) (by omega) (by omega)⟩
    have ew0 : IntKind.i64.wrap (id * (pn : Int)) = id * (pn : Int) := IntWalk.i64_in _ (by omega)
    have HIDP := Aside0.mk hidp
    clear hpz hpb hs2 hpl hpbb hch hcx hpw hw hw2 hp0
    go_wp2
    go_loopw [9] (fun i wr => ∃ (k : Nat) (Dn : Dk), k ≤ pn ∧ i = .int .i64 k ∧ Aside0 (RAt wr Y f Dn ∧ WfD Dn ∧ Dn.size = D.size) ∧ Aside0 (Frm Y w5 wr) ∧ Aside0 (∀ cs, Dk.pages ((List.range k).map ch ++ cs) (id * pn) D = Dk.pages cs (id * pn + k) Dn)) (fun i _ => pn - (intOf i).toNat)
    case atStart => exact ⟨0, D, Nat.zero_le _, rfl, ⟨H5.out, HWF.out, rfl⟩, ⟨Frm.refl _ _⟩, ⟨fun cs => by simp⟩⟩
    case round =>
      obtain ⟨k, Dn, hk, rfl, HRn, HF, HPG⟩ := hrel
      by_cases hlt : k < pn
      case neg =>
        obtain rfl : k = pn := by omega
        have hkf : ¬ ((k : Int) < (k : Int)) := by omega
        have e0 : Dk.pages ((List.range k).map ch) (id * k) D = (Dn, 0) := by have := HPG.out []; rwa [List.append_nil] at this
        have HE := Aside0.mk e0
        clear e0 hlt
        go_wp2_with fail
        go_ret
        rw [HPW.out, HE.out]
        exact ⟨rfl, HRn.out.1, (Frm.of_below HBB.out).then_ HF.out (fun k hk => .inl hk)⟩
      have hlti : (k : Int) < (pn : Int) := by omega
      have hx5 := HF.out.blk HQ5.out (fun hy => HG.out _ hy rfl)
      have x1 := blk_cell hx5 1
      simp only [List.getElem?_toArray, List.getElem?_cons_zero, List.getElem?_cons_succ] at x1
      obtain ⟨g1, g2, g3, c1, c2, c3, hq, yy⟩ := HRn.out.1
      have y0 := hq.cells.1
      rw [HRn.out.2.2] at y0
      obtain ⟨a, ha⟩ : ∃ a : Nat, a = k * D.size := ⟨_, rfl⟩
      obtain ⟨b, hb⟩ : ∃ b : Nat, b = a + D.size := ⟨_, rfl⟩
      have hk1 : (k + 1) * D.size ≤ pn * D.size := Nat.mul_le_mul_right _ hlt
      have hb2 : b = (k + 1) * D.size := by rw [hb, ha, Nat.add_mul, Nat.one_mul]
      have hk2 : pn * D.size ≤ 8192 * 1024 := Nat.mul_le_mul (by omega) (by omega)
      have e1 : IntKind.i64.wrap ((k : Int) * (D.size : Int)) = (a : Int) := by rw [ha, Int.natCast_mul]; exact IntWalk.i64_in _ (by rw [← Int.natCast_mul]; omega)
      have e2 : IntKind.i64.wrap ((k : Int) + 1) = (k : Int) + 1 := IntWalk.i64_in _ (by omega)
      have e3 : IntKind.i64.wrap (((k : Int) + 1) * (D.size : Int)) = (b : Int) := by
        have : ((k : Int) + 1) * (D.size : Int) = (b : Int) := by rw [hb2, Int.natCast_mul]; rfl
        rw [this]; exact IntWalk.i64_in _ (by omega)
      obtain ⟨nn, hnn⟩ : ∃ n, n = id * (pn : Int) + (k : Int) := ⟨_, rfl⟩
      have e4 : IntKind.i64.wrap (id * (pn : Int) + (k : Int)) = nn := by rw [hnn]; exact IntWalk.i64_in _ (by have := HIDP.out; omega)
      have EARG : Aside0 (IntKind.i64.wrap (IntKind.i64.wrap (IntKind.i64.wrap id * (pn : Int)) + (k : Int)) = nn) := ⟨by
        have hi := HI.out
        rw [IntWalk.i64_in id (by omega), ew0, e4]⟩
      have hchk : (pb.take b).drop a = ch k := by rw [HCX.out, secOf, hb, ← ha, List.drop_take, Nat.add_sub_cancel_left]
      have hsl : ∀ W : World, (Instr.slice 9 (.string z0) (some (.int .i64 (a : Int))) (some (.int .i64 (b : Int))) none).run Try.prog W = .ok (.string (strOfNums (ch k))) W := fun W => by
        rw [HZ0.out, ← hchk]; exact slice_str pb a b (by omega) (by rw [HPL.out]; omega) W
      have hcl : (ch k).length ≤ 140737488351232 := by rw [← hchk, List.length_drop, List.length_take]; omega
      have hcb : Bytes (ch k) := by rw [← hchk]; exact fun x hx => HPBB.out x (List.mem_of_mem_take (List.mem_of_mem_drop hx))
      have hsz3 := written_size Dn nn (ch k)
      have HWF2 := Aside0.mk (HRn.out.2.1.written nn (ch k) hcb)
      have HSZ2 := Aside0.mk (show (Dn.written nn (ch k)).size = D.size from hsz3.1.trans HRn.out.2.2)
      obtain ⟨er, her⟩ : ∃ v, v = Dn.writeE nn (ch k) := ⟨_, rfl⟩
      obtain ⟨ck, hck⟩ : ∃ s, s = strOfNums (ch k) := ⟨_, rfl⟩
      have HWR : Aside0 (∀ W', Below wr.heap.size wr W' → Calls Try.prog 39 #[.pointer (some ⟨f, 0, none⟩), .int .i64 nn, .string ck] W' fun e w' => e = .returned (.int .i64 er) ∧ RAt w' Y f (Dn.written nn (ch k)) ∧ Frm Y w5 w') := ⟨fun W' hb => by
        rw [hck, her]
        refine ((HRn.out.1.below hb).write' HRn.out.2.1 nn (ch k) hcl).mono ?_
        rintro e w' ⟨he, h1, h2⟩
        exact ⟨he, h1, (HF.out.then_ (Frm.of_below hb) (fun k hk => .inl hk)).then_ h2 (fun k hk => .inl hk)⟩⟩
      rw [← hck] at hsl
      have HER := Aside0.mk her; have HNN := Aside0.mk hnn
      clear hx5 hq yy ha hb hb2 hchk hcl hcb hsz3 her hck hnn hlt
      obtain ⟨Jnv, hJnv⟩ : ∃ J : World → Prop, J = fun W' => Below wr.heap.size wr W' := ⟨_, rfl⟩
      have HJD : Aside0 (∀ W', Jnv W' → Below wr.heap.size wr W') := ⟨fun W' h => by rw [hJnv] at h; exact h⟩
      have HDJ : Aside0 (∀ W', Below wr.heap.size wr W' → Jnv W') := ⟨fun W' h => by rw [hJnv]; exact h⟩
      have SF : Aside0 (∀ W', Jnv W' → W'.cell? ⟨g, 1, none⟩ = some (.int .u32 id) ∧ W'.cell? ⟨f, 0, none⟩ = some (.int .i64 (D.size : Int))) := ⟨fun W' hW => by
        have hb := HJD.out W' hW
        exact ⟨pw_cell_below hb x1, pw_cell_below hb y0⟩⟩
      have HRF : Aside0 (∀ W : World, Below W.heap.size W W) := ⟨fun W => Below.refl _ _⟩
      clear hJnv x1 y0
      go_upto_region 11 with (fail)
      refine' wp_region_flow2 (by kernel_rfl) (by kernel_rfl) Jnv (fun W W' => Below W.heap.size W W') HRF.out (HDJ.out _ (below_drew1 (Below.refl _ _))) _ ?_
      rotate_left
      refine' Flow2.val _ 0 (some 39) (Op.move (Operand.tmp 0)) 67 (none) [] _ rfl (by kernel_rfl) (by kernel_rfl) (by kernel_rfl) (by rfl) ?_ ?_ HRF.out
      rotate_left 2
      · (intro W hW hK; go_simp; first | done | with_reducible rfl)
      try simp only [Act.put, List.setIfInBounds_toArray, List.set_cons_zero, List.set_cons_succ]
      refine' Flow2.val _ 1 (some 40) (Op.fieldAddr 83 (Operand.tmp 5) 1) 0 (none) [] _ rfl (by kernel_rfl) (by kernel_rfl) (by kernel_rfl) (by rfl) ?_ ?_ HRF.out
      rotate_left 2
      · (intro W hW hK; have hF := SF.out W hW; go_simp; first | done | with_reducible rfl)
      try simp only [Act.put, List.setIfInBounds_toArray, List.set_cons_zero, List.set_cons_succ]
      refine' Flow2.val _ 2 (some 41) (Op.load 81 (Operand.tmp 40)) 81 (none) [] _ rfl (by kernel_rfl) (by kernel_rfl) (by kernel_rfl) (by rfl) ?_ ?_ HRF.out
      rotate_left 2
      · (intro W hW hK; have hF := SF.out W hW; go_simp; first | done | with_reducible rfl)
      try simp only [Act.put, List.setIfInBounds_toArray, List.set_cons_zero, List.set_cons_succ]
      refine' Flow2.val _ 3 (some 42) (Op.convert 81 3 (Operand.tmp 41)) 3 (none) [] _ rfl (by kernel_rfl) (by kernel_rfl) (by kernel_rfl) (by rfl) ?_ ?_ HRF.out
      rotate_left 2
      · (intro W hW hK; have hF := SF.out W hW; go_simp; first | done | with_reducible rfl)
      try simp only [Act.put, List.setIfInBounds_toArray, List.set_cons_zero, List.set_cons_succ]
      refine' Flow2.val _ 4 (some 43) (Op.move (Operand.tmp 1)) 3 (none) [] _ rfl (by kernel_rfl) (by kernel_rfl) (by kernel_rfl) (by rfl) ?_ ?_ HRF.out
      rotate_left 2
      · (intro W hW hK; go_simp; first | done | with_reducible rfl)
      try simp only [Act.put, List.setIfInBounds_toArray, List.set_cons_zero, List.set_cons_succ]
      refine' Flow2.val _ 5 (some 44) (Op.binOp BinOp.mul 3 (Operand.tmp 42) (Operand.tmp 43) 3) 3 (none) [] _ rfl (by kernel_rfl) (by kernel_rfl) (by kernel_rfl) (by rfl) ?_ ?_ HRF.out
      rotate_left 2
      · (intro W hW hK; go_simp; first | done | with_reducible rfl)
      try simp only [Act.put, List.setIfInBounds_toArray, List.set_cons_zero, List.set_cons_succ]
      refine' Flow2.val _ 6 (some 45) (Op.move (Operand.tmp 9)) 3 (none) [] _ rfl (by kernel_rfl) (by kernel_rfl) (by kernel_rfl) (by rfl) ?_ ?_ HRF.out
      rotate_left 2
      · (intro W hW hK; go_simp; first | done | with_reducible rfl)
      try simp only [Act.put, List.setIfInBounds_toArray, List.set_cons_zero, List.set_cons_succ]
      refine' Flow2.val _ 7 (some 46) (Op.binOp BinOp.add 3 (Operand.tmp 44) (Operand.tmp 45) 3) 3 (none) [] _ rfl (by kernel_rfl) (by kernel_rfl) (by kernel_rfl) (by rfl) ?_ ?_ HRF.out
      rotate_left 2
      · (intro W hW hK; go_simp; first | done | with_reducible rfl)
      try simp only [Act.put, List.setIfInBounds_toArray, List.set_cons_zero, List.set_cons_succ]
      refine' Flow2.val _ 8 (some 47) (Op.move (Operand.tmp 7)) 9 (none) [] _ rfl (by kernel_rfl) (by kernel_rfl) (by kernel_rfl) (by rfl) ?_ ?_ HRF.out
      rotate_left 2
      · (intro W hW hK; go_simp; first | done | with_reducible rfl)
      try simp only [Act.put, List.setIfInBounds_toArray, List.set_cons_zero, List.set_cons_succ]
      refine' Flow2.val _ 9 (some 48) (Op.move (Operand.tmp 9)) 3 (none) [] _ rfl (by kernel_rfl) (by kernel_rfl) (by kernel_rfl) (by rfl) ?_ ?_ HRF.out
      rotate_left 2
      · (intro W hW hK; go_simp; first | done | with_reducible rfl)
      try simp only [Act.put, List.setIfInBounds_toArray, List.set_cons_zero, List.set_cons_succ]
      refine' Flow2.val _ 10 (some 49) (Op.move (Operand.tmp 0)) 67 (none) [] _ rfl (by kernel_rfl) (by kernel_rfl) (by kernel_rfl) (by rfl) ?_ ?_ HRF.out
      rotate_left 2
      · (intro W hW hK; go_simp; first | done | with_reducible rfl)
      try simp only [Act.put, List.setIfInBounds_toArray, List.set_cons_zero, List.set_cons_succ]
      refine' Flow2.val _ 11 (some 50) (Op.nilCheck (Operand.tmp 49)) 0 (none) [] _ rfl (by kernel_rfl) (by kernel_rfl) (by kernel_rfl) (by rfl) ?_ ?_ HRF.out
      rotate_left 2
      · (intro W hW hK; go_simp; first | done | with_reducible rfl)
      try simp only [Act.put, List.setIfInBounds_toArray, List.set_cons_zero, List.set_cons_succ]
      refine' Flow2.val _ 12 (some 51) (Op.fieldAddr 95 (Operand.tmp 50) 0) 0 (none) [] _ rfl (by kernel_rfl) (by kernel_rfl) (by kernel_rfl) (by rfl) ?_ ?_ HRF.out
      rotate_left 2
      · (intro W hW hK; have hF := SF.out W hW; go_simp; first | done | with_reducible rfl)
      try simp only [Act.put, List.setIfInBounds_toArray, List.set_cons_zero, List.set_cons_succ]
      refine' Flow2.val _ 13 (some 52) (Op.load 3 (Operand.tmp 51)) 3 (none) [] _ rfl (by kernel_rfl) (by kernel_rfl) (by kernel_rfl) (by rfl) ?_ ?_ HRF.out
      rotate_left 2
      · (intro W hW hK; have hF := SF.out W hW; go_simp; first | done | with_reducible rfl)
      try simp only [Act.put, List.setIfInBounds_toArray, List.set_cons_zero, List.set_cons_succ]
      refine' Flow2.val _ 14 (some 53) (Op.binOp BinOp.mul 3 (Operand.tmp 48) (Operand.tmp 52) 3) 3 (none) [] _ rfl (by kernel_rfl) (by kernel_rfl) (by kernel_rfl) (by rfl) ?_ ?_ HRF.out
      rotate_left 2
      · (intro W hW hK; go_simp; first | done | with_reducible rfl)
      try simp only [Act.put, List.setIfInBounds_toArray, List.set_cons_zero, List.set_cons_succ]
      refine' Flow2.val _ 15 (some 54) (Op.move (Operand.tmp 9)) 3 (none) [] _ rfl (by kernel_rfl) (by kernel_rfl) (by kernel_rfl) (by rfl) ?_ ?_ HRF.out
      rotate_left 2
      · (intro W hW hK; go_simp; first | done | with_reducible rfl)
      try simp only [Act.put, List.setIfInBounds_toArray, List.set_cons_zero, List.set_cons_succ]
      refine' Flow2.val _ 16 (some 55) (Op.binOp BinOp.add 3 (Operand.tmp 54) (Operand.const (Value.int IntKind.i64 1)) 3) 3 (none) [] _ rfl (by kernel_rfl) (by kernel_rfl) (by kernel_rfl) (by rfl) ?_ ?_ HRF.out
      rotate_left 2
      · (intro W hW hK; go_simp; first | done | with_reducible rfl)
      try simp only [Act.put, List.setIfInBounds_toArray, List.set_cons_zero, List.set_cons_succ]
      refine' Flow2.val _ 17 (some 56) (Op.move (Operand.tmp 0)) 67 (none) [] _ rfl (by kernel_rfl) (by kernel_rfl) (by kernel_rfl) (by rfl) ?_ ?_ HRF.out
      rotate_left 2
      · (intro W hW hK; go_simp; first | done | with_reducible rfl)
      try simp only [Act.put, List.setIfInBounds_toArray, List.set_cons_zero, List.set_cons_succ]
      refine' Flow2.val _ 18 (some 57) (Op.nilCheck (Operand.tmp 56)) 0 (none) [] _ rfl (by kernel_rfl) (by kernel_rfl) (by kernel_rfl) (by rfl) ?_ ?_ HRF.out
      rotate_left 2
      · (intro W hW hK; go_simp; first | done | with_reducible rfl)
      try simp only [Act.put, List.setIfInBounds_toArray, List.set_cons_zero, List.set_cons_succ]
      refine' Flow2.val _ 19 (some 58) (Op.fieldAddr 95 (Operand.tmp 57) 0) 0 (none) [] _ rfl (by kernel_rfl) (by kernel_rfl) (by kernel_rfl) (by rfl) ?_ ?_ HRF.out
      rotate_left 2
      · (intro W hW hK; have hF := SF.out W hW; go_simp; first | done | with_reducible rfl)
      try simp only [Act.put, List.setIfInBounds_toArray, List.set_cons_zero, List.set_cons_succ]
      refine' Flow2.val _ 20 (some 59) (Op.load 3 (Operand.tmp 58)) 3 (none) [] _ rfl (by kernel_rfl) (by kernel_rfl) (by kernel_rfl) (by rfl) ?_ ?_ HRF.out
      rotate_left 2
      · (intro W hW hK; have hF := SF.out W hW; go_simp; first | done | with_reducible rfl)
      try simp only [Act.put, List.setIfInBounds_toArray, List.set_cons_zero, List.set_cons_succ]
      refine' Flow2.val _ 21 (some 60) (Op.binOp BinOp.mul 3 (Operand.tmp 55) (Operand.tmp 59) 3) 3 (none) [] _ rfl (by kernel_rfl) (by kernel_rfl) (by kernel_rfl) (by rfl) ?_ ?_ HRF.out
      rotate_left 2
      · (intro W hW hK; go_simp; first | done | with_reducible rfl)
      try simp only [Act.put, List.setIfInBounds_toArray, List.set_cons_zero, List.set_cons_succ]
      refine' Flow2.val _ 22 (some 61) (Op.slice 9 (Operand.tmp 47) (some (Operand.tmp 53)) (some (Operand.tmp 60)) none) 9 (none) [] _ rfl (by kernel_rfl) (by kernel_rfl) (by kernel_rfl) (by rfl) ?_ ?_ HRF.out
      rotate_left 2
      · (intro W hW hK; have hF := SF.out W hW; go_simp; first | done | with_reducible rfl)
      try simp only [Act.put, List.setIfInBounds_toArray, List.set_cons_zero, List.set_cons_succ]
      refine' Flow2.end2 _ 23 24 (some 62) (Op.call { callee := Callee.value (Operand.func 39), args := #[Operand.tmp 39, Operand.tmp 46, Operand.tmp 61], argTypes := #[67, 3, 9] }) 3 none (some 10) (Op.assign (Operand.tmp 62)) 3 none 39 _ (by kernel_rfl) (by kernel_rfl) 8 (by kernel_rfl) (by kernel_rfl) (by kernel_rfl) (by kernel_rfl) (by rfl) ?_ ?_
      rotate_left
      · (intro W; go_simp; first | done | with_reducible rfl)
      intro W hW
      rw [EARG.out]
      refine (HWR.out W (HJD.out W hW)).mono ?_
      rintro e w6 ⟨rfl, h6, hf6⟩
      refine ⟨.int .i64 er, .int .i64 er, rfl, by rfl, rfl, ?_⟩
      try simp only [Act.put, List.setIfInBounds_toArray, List.set_cons_zero, List.set_cons_succ]
      have H6 := Aside0.mk h6; have HF6 := Aside0.mk hf6
      clear h6 hf6 hW SF HJD HDJ HRF HWR e4 e1 e2 e3 ew0 hsl
      by_cases he : er = 0
      · have HE := Aside0.mk he
        subst he
        go_wp2_with fail
        go_roundw
        case rel =>
          refine ⟨k + 1, Dn.written nn (ch k), by omega, by go_num, ⟨H6.out, HWF2.out, HSZ2.out⟩, HF6, ⟨fun cs => ?_⟩⟩
          rw [List.range_succ, List.map_append, List.append_assoc, HPG.out]
          show Dk.pages (ch k :: cs) _ _ = _
          rw [Dk.pages, if_pos (by rw [← HNN.out]; exact HER.out.symm), ← HNN.out]
          congr 1
          have := HNN.out
          omega
        case measure => (simp [intOf]; try omega)
      · have HE := Aside0.mk he
        have de : (er == 0) = false := by simpa using he
        clear he
        go_wp2_with fail
        go_ret
        have hlk : k < pn := by omega
        have ht := range_split ch hlk
        rw [HPW.out, ht, HPG.out, Dk.pages, ← HNN.out, if_neg (by rw [← HER.out]; exact HE.out), ← HER.out]
        exact ⟨rfl, H6.out, (Frm.of_below HBB.out).then_ HF6.out (fun k hk => .inl hk)⟩)
end
end Go.Proofs.YteimienhaodfcaaK
/- page.Read (function 51), walked whole. -/
namespace Go.Proofs.YteimienhaodfcaaK
open Go.Shelf Go.RowKit Go.Proofs.YteimienhaodfcaaW.PrintWords Go.Proofs.YteimienhaodfcaaW.PrintLast Go.Proofs.YteimienhaodfcaaW.PrintMore Go.Crc
open Go.Proofs.YteimienhaodfcaaK.PgB Go.Proofs.YteimienhaodfcaaK.PgB.Back
open Go.ChangeMaps (setBlock)
attribute [local go_sem] max2_int min2_int max_two min_two Oper.semAt_some
set_option linter.unusedVariables false
set_option linter.unusedSimpArgs false
variable {w w' : World} {X X' S : Nat → Prop} {d sb mb clock : Nat} {es : Array MapEntry} {safe : List Int} {D : Dk}
/-- Sectors, read one behind the other. -/
def Dk.rd (D : Dk) : Nat → Int → List Int → List Int × Int
  | 0, _, acc => (acc, 0)
  | k + 1, n, acc => if D.readE n = 0 then Dk.rd D k (n + 1) (acc ++ D.readB n) else ([], D.readE n)
def Dk.prd (D : Dk) (per id : Int) : Int × Int × List Int × Int :=
  if id < 0 ∨ countD D per ≤ id then (0, 0, [], 2) else if (D.rd per.toNat (id * per) []).2 ≠ 0 then (0, 0, [], (D.rd per.toNat (id * per) []).2)
  else if (getP (D.rd per.toNat (id * per) []).1).2.2.2 ≠ 0 ∨ (getP (D.rd per.toNat (id * per) []).1).2.1 ≠ id then (0, 0, [], 30) else getP (D.rd per.toNat (id * per) []).1
theorem readB_in {D : Dk} (h : WfD D) (n : Int) : (D.readB n).length ≤ D.size ∧ Bytes (D.readB n) := by
  unfold Dk.readB
  by_cases e : D.readE n = 0
  · rw [if_pos e]
    have hh : D.has n = true := by
      unfold Dk.readE at e
      by_cases h1 : D.has n = false
      · rw [if_pos h1] at e; exact absurd e (by decide)
      · simpa using h1
    unfold Dk.has at hh
    rw [Bool.and_eq_true] at hh
    have h1 := of_decide_eq_true hh.1; have h2 := of_decide_eq_true hh.2
    have := h.now n.toNat (by omega)
    exact ⟨by omega, this.2⟩
  · rw [if_neg e]
    exact ⟨Nat.zero_le _, fun x hx => by cases hx⟩
theorem getP_id (l : List Int) (hl : Bytes l) : 0 ≤ (getP l).2.1 ∧ (getP l).2.1 < 4294967296 := by
  have hz : (0 : Int) ≤ 0 ∧ (0 : Int) < 4294967296 := by decide
  unfold getP
  split
  · exact hz
  · split
    · exact hz
    · split
      · exact told_lt4 _ (bytes_part hl 5 1) (by simp only [List.length_drop, List.length_take]; omega)
      · exact hz
def PrdPost (D : Dk) (per id : Int) (W : World) (e : Ending) (w' : World) : Prop := ∃ (y1 y2 y4 : Int) (y3 : List Int) (B : Option Addr) (c : Nat), e = .returned (.tuple #[.agg #[.int .u8 y1, .int .u32 y2, .slice B y3.length c], .int .i64 y4]) ∧ D.prd per id = (y1, y2, y3, y4) ∧ Kd.C (Kd.int .u8) w' B y3.length y3 ∧ y3.length ≤ c ∧ Below W.heap.size W w'
theorem PrdPost.bad {D : Dk} {per id y : Int} {W w' : World} (h : D.prd per id = (0, 0, [], y)) (hb : Below W.heap.size W w') : PrdPost D per id W (.returned (.tuple #[.agg #[.int .u8 0, .int .u32 0, .slice none 0 0], .int .i64 y])) w' :=
  ⟨0, 0, y, [], none, 0, rfl, h, ⟨rfl, by decide, fun h => absurd h (by decide)⟩, Nat.le_refl _, hb⟩
set_option maxHeartbeats 4000000 in
set_option maxRecDepth 100000 in
theorem pread_calls {w W : World} {X : Nat → Prop} {d : Nat} {D : Dk} (h : LX w W X d D) (hwf : WfD D) (per id : Int) : Calls Try.prog 51 #[.pointer (some ⟨d, 0, none⟩), .int .i64 per, .int .i64 id] W (PrdPost D per id W) := by
  obtain ⟨W1, hW1⟩ : ∃ W1, W1 = W.alloc (.cells #[.int .u8 0, .int .u32 0, .slice none 0 0] 83) := ⟨_, rfl⟩
  obtain ⟨g, hg⟩ : ∃ g, g = W.heap.size := ⟨_, rfl⟩
  have hb1 : Below W.heap.size W W1 := by rw [hW1]; exact below_alloc (Below.refl _ _) _
  have q1 : W1.heap[g]? = some (.cells #[.int .u8 0, .int .u32 0, .slice none 0 0] 83 (0, 0)) := by rw [hW1, hg]; exact blk_new W _
  have HWF := Aside0.mk hwf; have H1 := Aside0.mk (h.step hb1)
  have HB1 := Aside0.mk hb1; have HQ1 := Aside0.mk q1; have HW1 := Aside0.mk hW1; have HGE := Aside0.mk hg
  have HGL : Aside0 (W.heap.size ≤ g) := ⟨by omega⟩
  have g0 := blk_cell q1 0; have g1 := blk_cell q1 1; have g2 := blk_cell q1 2; have f0 := blk_frozen q1 0; have f1 := blk_frozen q1 1; have f2 := blk_frozen q1 2
  simp only [List.getElem?_toArray, List.getElem?_cons_zero, List.getElem?_cons_succ] at g0 g1 g2
  clear h hwf hb1 hg hW1 q1
  by_cases hn : id < 0
  · have d1 : decide (id < 0) = true := decide_eq_true hn
    have HN := Aside0.mk hn
    clear hn
    go_enter Try.func51, Try.ntmps51
    go_upto_region 1 with (fail)
    rw [← HW1.out, ← HGE.out]
    go_wp2_with fail
    refine bodyPost_ret (by exact results_ct rfl _ _ g 83 #[.int .u8 0, .int .u32 0, .slice none 0 0] (0, 0) _ rfl (three_put HQ1.out _ _ _) Try.underlying83 rfl (by kernel_rfl)) rfl ?_
    exact PrdPost.bad (by rw [Dk.prd, if_pos (.inl HN.out)]) (three_below HB1.out HGL.out _ _ _)
  have d1 : decide (id < 0) = false := decide_eq_false hn
  go_enter Try.func51, Try.ntmps51
  go_upto_region 1 with (fail)
  rw [← HW1.out, ← HGE.out]
  obtain ⟨sb, mb, es, clock, safe, hp⟩ := H1.out.at_
  have HP := Aside0.mk hp
  clear hp
  go_wp2_with fail
  refine (countQ_calls HP.out per).mono ?_
  rintro e w2 ⟨rfl, hd2⟩
  have hb2 := hd2.below
  have HB2 := Aside0.mk (below_step HB1.out hb2); have H2 := Aside0.mk (H1.out.step hb2); have HB12 := Aside0.mk hb2
  have q2 := blk_below HQ1.out hb2
  have HQ2 := Aside0.mk q2
  clear g0 g1 g2 f0 f1 f2 hd2 hb2 HP
  by_cases hcnt : countD D per ≤ id
  · have d2 : decide (countD D per ≤ id) = true := decide_eq_true hcnt
    have HC := Aside0.mk hcnt
    have g0 := blk_cell q2 0; have g1 := blk_cell q2 1; have g2 := blk_cell q2 2; have f0 := blk_frozen q2 0; have f1 := blk_frozen q2 1; have f2 := blk_frozen q2 2
    simp only [List.getElem?_toArray, List.getElem?_cons_zero, List.getElem?_cons_succ] at g0 g1 g2
    clear hcnt q2
    go_wp2_with fail
    refine bodyPost_ret (by exact results_ct rfl _ _ g 83 #[.int .u8 0, .int .u32 0, .slice none 0 0] (0, 0) _ rfl (three_put HQ2.out _ _ _) Try.underlying83 rfl (by kernel_rfl)) rfl ?_
    exact PrdPost.bad (by rw [Dk.prd, if_pos (.inr HC.out)]) (three_below HB2.out HGL.out _ _ _)
  have d2 : decide (countD D per ≤ id) = false := decide_eq_false hcnt
  have hcp := countD_pos hcnt (by omega)
  have hdb : 64 ≤ D.size ∧ D.size ≤ 1024 := ⟨HWF.out.b3, HWF.out.b4⟩
  have hc16 : countD D per ≤ 16384 := by unfold countD; split <;> (try split) <;> omega
  obtain ⟨pn, hpn⟩ : ∃ n : Nat, per = n := ⟨per.toNat, by omega⟩
  subst hpn
  have hrm : pn * D.size ≤ 8192 := by
    have h3 := hcp.2.2
    unfold room at h3
    by_cases h4 : (pn : Int) * (D.size : Int) < 64 ∨ 8192 < (pn : Int) * (D.size : Int)
    · rw [if_pos h4] at h3; exact absurd rfl h3
    · rw [← Int.natCast_mul] at h4; omega
  have hidp : 0 ≤ id * (pn : Int) ∧ id * (pn : Int) ≤ 16384 * 8192 := ⟨Int.mul_nonneg (by omega) (by omega), Int.mul_le_mul (by omega) (by omega) (by omega) (by omega)⟩
  have ew0 : IntKind.i64.wrap (id * (pn : Int)) = id * (pn : Int) := IntWalk.i64_in _ (by omega)
  have HIDP := Aside0.mk hidp; have HRM := Aside0.mk hrm
  have HNC : Aside0 (¬ (id < 0 ∨ countD D pn ≤ id)) := ⟨by omega⟩
  clear hrm q2
  go_wp2_with fail
  go_loopw [8, 28] (fun v i wr => ∃ (k : Nat) (acc : List Int), k ≤ pn ∧ i = .int .i64 k ∧ Aside0 (Kd.R (Kd.int .u8) 5 wr w2.heap.size (fun _ => True) v acc) ∧ Aside0 (Below w2.heap.size w2 wr) ∧ Aside0 (acc.length ≤ k * D.size ∧ Bytes acc) ∧ Aside0 (D.rd pn (id * pn) [] = D.rd (pn - k) (id * pn + k) acc)) (fun _ i _ => pn - (intOf i).toNat)
  case atStart => exact ⟨0, [], Nat.zero_le _, rfl, ⟨Kd.R_nil _ _ _ _ _⟩, ⟨Below.refl _ _⟩, ⟨by simp, fun x hx => by cases hx⟩, ⟨by simp⟩⟩
  case round =>
    obtain ⟨k, acc, hk, rfl, HRk, HBk, HA, HRD⟩ := hrel
    obtain ⟨B, dd, hv⟩ := Kd.R_slice HRk.out
    by_cases hlt : k < pn
    · have hlti : (k : Int) < (pn : Int) := by omega
      obtain ⟨nn, hnn⟩ : ∃ n, n = id * (pn : Int) + (k : Int) := ⟨_, rfl⟩
      have e4 : IntKind.i64.wrap (id * (pn : Int) + (k : Int)) = nn := by rw [hnn]; exact IntWalk.i64_in _ (by have := HIDP.out; omega)
      have hrd : D.rd pn (id * pn) [] = if D.readE nn = 0 then D.rd (pn - (k + 1)) (nn + 1) (acc ++ D.readB nn) else ([], D.readE nn) := by
        rw [HRD.out, hnn, show pn - k = (pn - (k + 1)) + 1 by omega]; rfl
      have hrb := readB_in HWF.out nn
      have HRD2 := Aside0.mk hrd; have HRB := Aside0.mk hrb
      have hc := (H2.out.step HBk.out).read nn
      obtain ⟨er, her⟩ : ∃ v, v = D.readE nn := ⟨_, rfl⟩
      obtain ⟨rb, hrb2⟩ : ∃ v, v = D.readB nn := ⟨_, rfl⟩
      rw [← her, ← hrb2] at hc HRD2
      rw [← hrb2] at HRB
      have HC := Aside0.mk hc; have HNN := Aside0.mk hnn
      clear hc hrd hrb hnn her hrb2 HRD
      go_wp2_with fail
      refine (HC.out).mono ?_
      rintro e w3 ⟨v1, rfl, hR1, hb3⟩
      obtain ⟨A1, c1, hv1⟩ := Kd.R_slice hR1
      obtain ⟨_, hcr, hC1⟩ := Kd.R_reads' (by rw [hv1] at hR1; exact hR1)
      subst hv1
      have HC1 := Aside0.mk hC1; have HB3 := Aside0.mk (below_step HBk.out hb3); have HR3 := Aside0.mk (Kd.R_below HRk.out hb3)
      clear hR1 hb3 hC1 hcr HC
      by_cases he : er = 0
      · subst he
        have hal := HA.out.1; have hbl := HRB.out.1
        have hkd : (k + 1) * D.size ≤ pn * D.size := Nat.mul_le_mul_right _ hlt
        rw [Nat.add_mul, Nat.one_mul] at hkd
        have hrm := HRM.out
        subst hv
        clear HRk
        go_wp2_with ((with_reducible refine gate_builtin (b := .append) (xs := #[.tmp 45, .tmp 46]) rfl ?_); at_builtin; refine Kd.R_append_rows (Kd.int .u8) (Rr := fun (x : Int) (c : List Value) => c = [.int .u8 x]) (w0 := w2) w2.heap.size rfl (.tmp 45) (.tmp 46) 33 5 (.int .u8 0) 1 rfl Try.underlying33 infoByte rfl (by decide) (by omega) (.slice B acc.length dd) acc rb A1 rb.length c1 (fun _ => True) (fun _ => False) rfl rfl HR3.out HC1.out (fun _ _ h => h) (fun _ hk => hk.elim) (fun _ _ => trivial) HB3.out HB3.out.size (by omega) ?_; intro v1 w4 hr2 hb2 hg hat; have HR4 := Aside0.mk hr2; have HB4 := Aside0.mk hb2; clear hr2 hb2 hg hat)
        go_roundw
        case rel =>
          refine ⟨k + 1, acc ++ rb, by omega, by go_num, HR4, HB4, ⟨?_, Bytes.append HA.out.2 HRB.out.2⟩, ⟨?_⟩⟩
          · rw [List.length_append, Nat.add_mul, Nat.one_mul]; omega
          · rw [HRD2.out, if_pos (by trivial), HNN.out]; congr 1; omega
        case measure => (simp [intOf]; try omega)
      · have de : (er == 0) = false := by simpa using he
        have HE := Aside0.mk he
        have q3 := blk_below HQ2.out HB3.out
        have HQ3 := Aside0.mk q3
        have g0 := blk_cell q3 0; have g1 := blk_cell q3 1; have g2 := blk_cell q3 2; have f0 := blk_frozen q3 0; have f1 := blk_frozen q3 1; have f2 := blk_frozen q3 2
        simp only [List.getElem?_toArray, List.getElem?_cons_zero, List.getElem?_cons_succ] at g0 g1 g2
        clear he q3 hv
        go_wp2_with fail
        refine bodyPost_ret (by exact results_ct rfl _ _ g 83 #[.int .u8 0, .int .u32 0, .slice none 0 0] (0, 0) _ rfl (three_put HQ3.out _ _ _) Try.underlying83 rfl (by kernel_rfl)) rfl ?_
        refine PrdPost.bad ?_ (three_below (below_step HB2.out HB3.out) HGL.out _ _ _)
        rw [Dk.prd, if_neg HNC.out, Int.toNat_natCast, HRD2.out, if_neg HE.out, if_pos HE.out]
    · obtain rfl : k = pn := by omega
      have hkf : ¬ ((k : Int) < (k : Int)) := by omega
      have hrd : D.rd k (id * k) [] = (acc, 0) := by rw [HRD.out, Nat.sub_self]; rfl
      have HRD2 := Aside0.mk hrd
      obtain ⟨_, hcr, hC1⟩ := Kd.R_reads' (by rw [hv] at HRk; exact HRk.out)
      have HC1 := Aside0.mk hC1; have HCR := Aside0.mk hcr
      subst hv
      clear hlt hrd HRD hC1 hcr
      go_wp2_with fail
      refine (pget3_calls B dd acc wr HC1.out HCR.out HA.out.2 (by have h1 := HA.out.1; have h2 := HRM.out; omega)).mono ?_
      rintro e w5 ⟨y1, y2, y4, y3, v5, rfl, hy, hR5, hb5⟩
      obtain ⟨B5, c5, hv5⟩ := Kd.R_slice hR5
      obtain ⟨_, hcr5, hC5⟩ := Kd.R_reads' (by rw [hv5] at hR5; exact hR5)
      subst hv5
      have HB5 := Aside0.mk (below_step HBk.out hb5)
      have HC5 := Aside0.mk hC5; have HCR5 := Aside0.mk hcr5; have HY := Aside0.mk hy
      have hid := getP_id acc HA.out.2
      rw [hy] at hid
      have q3 := blk_below HQ2.out HB5.out
      have HQ3 := Aside0.mk q3
      have hq4 := three_put q3 (.int .u8 y1) (.int .u32 y2) (.slice B5 y3.length c5)
      have HQ4 := Aside0.mk hq4
      have g0 := blk_cell q3 0; have g1 := blk_cell q3 1; have g2 := blk_cell q3 2; have f0 := blk_frozen q3 0; have f1 := blk_frozen q3 1; have f2 := blk_frozen q3 2
      simp only [List.getElem?_toArray, List.getElem?_cons_zero, List.getElem?_cons_succ] at g0 g1 g2
      have ew : IntKind.i64.wrap y2 = y2 := IntWalk.i64_in _ (by simp only at hid; omega)
      obtain ⟨W6, hW6⟩ : ∃ W6, W6 = ((w5.setCell ⟨g, 0, none⟩ (.int .u8 y1)).setCell ⟨g, 1, none⟩ (.int .u32 y2)).setCell ⟨g, 2, none⟩ (.slice B5 y3.length c5) := ⟨_, rfl⟩
      have hb6 : Below W.heap.size W W6 := by rw [hW6]; exact three_below (below_step HB2.out HB5.out) HGL.out _ _ _
      have hne : ∀ q, q ∈ 5 :: (Kd.int .u8).E → q ≠ 83 := fun q hq => by
        rcases List.mem_cons.1 hq with rfl | hq
        · decide
        · cases hq
      have H3S : Aside0 (∀ {W0 : World} {a0 a1 a2 : Value}, Kd.R (Kd.int .u8) 5 W0 wr.heap.size (fun _ => True) (.slice B5 y3.length c5) y3 → W0.heap[g]? = some (.cells #[a0, a1, a2] 83 (0, 0)) → Kd.R (Kd.int .u8) 5 (((W0.setCell ⟨g, 0, none⟩ (.int .u8 y1)).setCell ⟨g, 1, none⟩ (.int .u32 y2)).setCell ⟨g, 2, none⟩ (.slice B5 y3.length c5)) wr.heap.size (fun _ => True) (.slice B5 y3.length c5) y3) := ⟨fun hr hq => by
        have b1 := blk_set hq 0 (.int .u8 y1)
        have b2 := blk_set b1 1 (.int .u32 y2)
        exact Kd.R_set (Kd.R_set (Kd.R_set hr hq hne 0 (.int .u8 y1)) b1 hne 1 (.int .u32 y2)) b2 hne 2 (.slice B5 y3.length c5)⟩
      have hr6 := H3S.out hR5 q3
      rw [← hW6] at hr6
      rw [← hW6] at hq4 HQ4
      have HB6 := Aside0.mk hb6; have HR6 := Aside0.mk hr6; have HW6 := Aside0.mk hW6
      clear hy hR5 hb5 hcr5 hC5 q3 hid hb6 hr6 hW6
      go_upto_region 15 with (fail)
      rw [← HW6.out]
      clear g0 g1 g2 f0 f1 f2 HW6
      have g0 := blk_cell hq4 0; have g1 := blk_cell hq4 1; have g2 := blk_cell hq4 2; have f0 := blk_frozen hq4 0; have f1 := blk_frozen hq4 1; have f2 := blk_frozen hq4 2
      simp only [List.getElem?_toArray, List.getElem?_cons_zero, List.getElem?_cons_succ] at g0 g1 g2
      clear hq4
      have BAD : Aside0 ((y4 ≠ 0 ∨ y2 ≠ id) → D.prd k id = (0, 0, [], 30)) := ⟨fun e => by
        rw [Dk.prd, if_neg HNC.out, Int.toNat_natCast, HRD2.out, if_neg (fun h => h rfl), if_pos (by rw [HY.out]; exact e)]⟩
      by_cases h4 : y4 = 0
      · by_cases h2 : y2 = id
        · have GOOD : Aside0 (D.prd k id = (y1, y2, y3, 0)) := ⟨by
            rw [Dk.prd, if_neg HNC.out, Int.toNat_natCast, HRD2.out, if_neg (fun h => h rfl), if_neg (by rw [HY.out]; simp [h4, h2]), HY.out, h4]⟩
          subst h4 h2
          go_wp2_with fail
          refine bodyPost_ret (by exact results_ct rfl _ _ g 83 #[.int .u8 y1, .int .u32 y2, .slice B5 y3.length c5] (0, 0) _ rfl (three_put HQ4.out _ _ _) Try.underlying83 rfl (by kernel_rfl)) rfl ?_
          exact ⟨y1, y2, 0, y3, B5, c5, rfl, GOOD.out, (Kd.R_reads' (H3S.out HR6.out HQ4.out)).2.2, HCR5.out, three_below HB6.out HGL.out _ _ _⟩
        · have d5 : (y2 == id) = false := by simpa using h2
          have H2 := Aside0.mk h2
          subst h4
          clear h2
          go_wp2_with fail
          refine bodyPost_ret (by exact results_ct rfl _ _ g 83 #[.int .u8 0, .int .u32 0, .slice none 0 0] (0, 0) _ rfl (three_put HQ4.out _ _ _) Try.underlying83 rfl (by kernel_rfl)) rfl ?_
          exact PrdPost.bad (BAD.out (.inr H2.out)) (three_below HB6.out HGL.out _ _ _)
      · have d6 : (y4 == 0) = false := by simpa using h4
        have H4 := Aside0.mk h4
        clear h4
        go_wp2_with fail
        refine bodyPost_ret (by exact results_ct rfl _ _ g 83 #[.int .u8 0, .int .u32 0, .slice none 0 0] (0, 0) _ rfl (three_put HQ4.out _ _ _) Try.underlying83 rfl (by kernel_rfl)) rfl ?_
        exact PrdPost.bad (BAD.out (.inl H4.out)) (three_below HB6.out HGL.out _ _ _)
end Go.Proofs.YteimienhaodfcaaK
/- The reference's page.Read (function 52), walked whole. -/
namespace Go.Proofs.YteimienhaodfcaaK
open Go.Shelf Go.RowKit Go.Proofs.YteimienhaodfcaaW.PrintWords Go.Proofs.YteimienhaodfcaaW.PrintLast Go.Proofs.YteimienhaodfcaaW.PrintMore Go.Crc
open Go.Proofs.YteimienhaodfcaaK.PgB Go.Proofs.YteimienhaodfcaaK.PgB.Back
open Go.ChangeMaps (setBlock)
attribute [local go_sem] max2_int min2_int max_two min_two Oper.semAt_some
set_option linter.unusedVariables false
set_option linter.unusedSimpArgs false
variable {w w' : World} {X X' S : Nat → Prop} {d sb mb clock : Nat} {es : Array MapEntry} {safe : List Int} {D : Dk}
theorem RAt.read {W : World} {Y : Nat → Prop} {f : Nat} {D : Dk} (h : RAt W Y f D) (n : Int) : Calls Try.prog 76 #[.pointer (some ⟨f, 0, none⟩), .int .i64 n] W fun e w' => e = .returned (.tuple #[.string (strOfNums (D.readB n)), .int .i64 (D.readE n)]) ∧ Drawn0 W w' := by
  obtain ⟨g1, g2, g3, c1, c2, c3, hq, _⟩ := h
  exact rread_calls hq n
set_option maxHeartbeats 4000000 in
set_option maxRecDepth 100000 in
theorem rpread_calls {W : World} {Y : Nat → Prop} {f : Nat} {D : Dk} (h : RAt W Y f D) (hwf : WfD D) (per id : Int) : Calls Try.prog 52 #[.pointer (some ⟨f, 0, none⟩), .int .i64 per, .int .i64 id] W (PrdPost D per id W) := by
  obtain ⟨W1, hW1⟩ : ∃ W1, W1 = W.alloc (.cells #[.int .u8 0, .int .u32 0, .slice none 0 0] 83) := ⟨_, rfl⟩
  obtain ⟨g, hg⟩ : ∃ g, g = W.heap.size := ⟨_, rfl⟩
  have hb1 : Below W.heap.size W W1 := by rw [hW1]; exact below_alloc (Below.refl _ _) _
  have q1 : W1.heap[g]? = some (.cells #[.int .u8 0, .int .u32 0, .slice none 0 0] 83 (0, 0)) := by rw [hW1, hg]; exact blk_new W _
  have HWF := Aside0.mk hwf; have H1 := Aside0.mk (h.below hb1)
  have HB1 := Aside0.mk hb1; have HQ1 := Aside0.mk q1; have HW1 := Aside0.mk hW1; have HGE := Aside0.mk hg
  have HGL : Aside0 (W.heap.size ≤ g) := ⟨by omega⟩
  have g0 := blk_cell q1 0; have g1 := blk_cell q1 1; have g2 := blk_cell q1 2; have f0 := blk_frozen q1 0; have f1 := blk_frozen q1 1; have f2 := blk_frozen q1 2
  simp only [List.getElem?_toArray, List.getElem?_cons_zero, List.getElem?_cons_succ] at g0 g1 g2
  clear h hwf hb1 hg hW1 q1
  by_cases hn : id < 0
  · have d1 : decide (id < 0) = true := decide_eq_true hn
    have HN := Aside0.mk hn
    clear hn
    go_enter Try.func52, Try.ntmps52
    go_upto_region 1 with (fail)
    rw [← HW1.out, ← HGE.out]
    go_wp2_with fail
    refine bodyPost_ret (by exact results_ct rfl _ _ g 83 #[.int .u8 0, .int .u32 0, .slice none 0 0] (0, 0) _ rfl (three_put HQ1.out _ _ _) Try.underlying83 rfl (by kernel_rfl)) rfl ?_
    exact PrdPost.bad (by rw [Dk.prd, if_pos (.inl HN.out)]) (three_below HB1.out HGL.out _ _ _)
  have d1 : decide (id < 0) = false := decide_eq_false hn
  go_enter Try.func52, Try.ntmps52
  go_upto_region 1 with (fail)
  rw [← HW1.out, ← HGE.out]
  go_wp2_with fail
  refine (H1.out.countQ HWF.out per).mono ?_
  rintro e w2 ⟨rfl, hd2⟩
  have hb2 := hd2.below
  have HB2 := Aside0.mk (below_step HB1.out hb2); have H2 := Aside0.mk (H1.out.below hb2)
  have q2 := blk_below HQ1.out hb2
  have HQ2 := Aside0.mk q2
  clear g0 g1 g2 f0 f1 f2 hd2 hb2
  by_cases hcnt : countD D per ≤ id
  · have d2 : decide (countD D per ≤ id) = true := decide_eq_true hcnt
    have HC := Aside0.mk hcnt
    have g0 := blk_cell q2 0; have g1 := blk_cell q2 1; have g2 := blk_cell q2 2; have f0 := blk_frozen q2 0; have f1 := blk_frozen q2 1; have f2 := blk_frozen q2 2
    simp only [List.getElem?_toArray, List.getElem?_cons_zero, List.getElem?_cons_succ] at g0 g1 g2
    clear hcnt q2
    go_wp2_with fail
    refine bodyPost_ret (by exact results_ct rfl _ _ g 83 #[.int .u8 0, .int .u32 0, .slice none 0 0] (0, 0) _ rfl (three_put HQ2.out _ _ _) Try.underlying83 rfl (by kernel_rfl)) rfl ?_
    exact PrdPost.bad (by rw [Dk.prd, if_pos (.inr HC.out)]) (three_below HB2.out HGL.out _ _ _)
  have d2 : decide (countD D per ≤ id) = false := decide_eq_false hcnt
  have hcp := countD_pos hcnt (by omega)
  have hdb : 64 ≤ D.size ∧ D.size ≤ 1024 := ⟨HWF.out.b3, HWF.out.b4⟩
  have hc16 : countD D per ≤ 16384 := by unfold countD; split <;> (try split) <;> omega
  obtain ⟨pn, hpn⟩ : ∃ n : Nat, per = n := ⟨per.toNat, by omega⟩
  subst hpn
  have hrm : pn * D.size ≤ 8192 := by
    have h3 := hcp.2.2
    unfold room at h3
    by_cases h4 : (pn : Int) * (D.size : Int) < 64 ∨ 8192 < (pn : Int) * (D.size : Int)
    · rw [if_pos h4] at h3; exact absurd rfl h3
    · rw [← Int.natCast_mul] at h4; omega
  have hidp : 0 ≤ id * (pn : Int) ∧ id * (pn : Int) ≤ 16384 * 8192 := ⟨Int.mul_nonneg (by omega) (by omega), Int.mul_le_mul (by omega) (by omega) (by omega) (by omega)⟩
  have ew0 : IntKind.i64.wrap (id * (pn : Int)) = id * (pn : Int) := IntWalk.i64_in _ (by omega)
  have HIDP := Aside0.mk hidp; have HRM := Aside0.mk hrm
  have HNC : Aside0 (¬ (id < 0 ∨ countD D pn ≤ id)) := ⟨by omega⟩
  have hnil : (⟨#[]⟩ : ByteArray) = strOfNums [] := rfl
  have HNIL := Aside0.mk hnil
  clear hrm q2 hnil
  go_wp2_with fail
  go_loopw [8, 9] (fun v i wr => ∃ (k : Nat) (acc : List Int), k ≤ pn ∧ i = .int .i64 k ∧ v = .string (strOfNums acc) ∧ Aside0 (Below w2.heap.size w2 wr) ∧ Aside0 (acc.length ≤ k * D.size ∧ Bytes acc) ∧ Aside0 (D.rd pn (id * pn) [] = D.rd (pn - k) (id * pn + k) acc)) (fun _ i _ => pn - (intOf i).toNat)
  case atStart => exact ⟨0, [], Nat.zero_le _, rfl, rfl, ⟨Below.refl _ _⟩, ⟨by simp, fun x hx => by cases hx⟩, ⟨by simp⟩⟩
  case round =>
    obtain ⟨k, acc, hk, rfl, rfl, HBk, HA, HRD⟩ := hrel
    obtain ⟨sa, hsa⟩ : ∃ s, s = strOfNums acc := ⟨_, rfl⟩
    rw [← hsa]
    have HSA := Aside0.mk hsa
    have hsz : sa.size = acc.length := by rw [hsa, strNums_size]
    by_cases hlt : k < pn
    · have hlti : (k : Int) < (pn : Int) := by omega
      obtain ⟨nn, hnn⟩ : ∃ n, n = id * (pn : Int) + (k : Int) := ⟨_, rfl⟩
      have e4 : IntKind.i64.wrap (id * (pn : Int) + (k : Int)) = nn := by rw [hnn]; exact IntWalk.i64_in _ (by have := HIDP.out; omega)
      have hrd : D.rd pn (id * pn) [] = if D.readE nn = 0 then D.rd (pn - (k + 1)) (nn + 1) (acc ++ D.readB nn) else ([], D.readE nn) := by
        rw [HRD.out, hnn, show pn - k = (pn - (k + 1)) + 1 by omega]; rfl
      have hrb := readB_in HWF.out nn
      have HRD2 := Aside0.mk hrd; have HRB := Aside0.mk hrb
      have hc := (H2.out.below HBk.out).read nn
      obtain ⟨er, her⟩ : ∃ v, v = D.readE nn := ⟨_, rfl⟩
      obtain ⟨rb, hrb2⟩ : ∃ v, v = D.readB nn := ⟨_, rfl⟩
      rw [← her, ← hrb2] at hc HRD2
      rw [← hrb2] at HRB
      obtain ⟨sb, hsb⟩ : ∃ s, s = strOfNums rb := ⟨_, rfl⟩
      rw [← hsb] at hc
      have HSB := Aside0.mk hsb
      have hadd : ¬ (9223372036854775807 < sa.size + sb.size) := by
        have hkd : k * D.size ≤ pn * D.size := Nat.mul_le_mul_right _ hk
        rw [hsz, hsb, strNums_size]
        have h1 := HA.out.1; have h2 := HRB.out.1; have h3 := HRM.out
        omega
      have HC := Aside0.mk hc; have HNN := Aside0.mk hnn
      clear hc hrd hrb hnn her hrb2 HRD hsa hsb hsz
      go_wp2_with fail
      refine (HC.out).mono ?_
      rintro e w3 ⟨rfl, hd3⟩
      have HB3 := Aside0.mk (below_step HBk.out hd3.below)
      clear hd3 HC
      by_cases he : er = 0
      · subst he
        have hal := HA.out.1; have hbl := HRB.out.1
        go_wp2_with fail
        go_roundw
        case rel =>
          refine ⟨k + 1, acc ++ rb, by omega, by go_num, ?_, HB3, ⟨?_, Bytes.append HA.out.2 HRB.out.2⟩, ⟨?_⟩⟩
          · rw [strNums_append, ← HSA.out, ← HSB.out]
          · rw [List.length_append, Nat.add_mul, Nat.one_mul]; omega
          · rw [HRD2.out, if_pos (by trivial), HNN.out]; congr 1; omega
        case measure => (simp [intOf]; try omega)
      · have de : (er == 0) = false := by simpa using he
        have HE := Aside0.mk he
        have q3 := blk_below HQ2.out HB3.out
        have HQ3 := Aside0.mk q3
        have g0 := blk_cell q3 0; have g1 := blk_cell q3 1; have g2 := blk_cell q3 2; have f0 := blk_frozen q3 0; have f1 := blk_frozen q3 1; have f2 := blk_frozen q3 2
        simp only [List.getElem?_toArray, List.getElem?_cons_zero, List.getElem?_cons_succ] at g0 g1 g2
        clear he q3 hadd
        go_wp2_with fail
        refine bodyPost_ret (by exact results_ct rfl _ _ g 83 #[.int .u8 0, .int .u32 0, .slice none 0 0] (0, 0) _ rfl (three_put HQ3.out _ _ _) Try.underlying83 rfl (by kernel_rfl)) rfl ?_
        refine PrdPost.bad ?_ (three_below (below_step HB2.out HB3.out) HGL.out _ _ _)
        rw [Dk.prd, if_neg HNC.out, Int.toNat_natCast, HRD2.out, if_neg HE.out, if_pos HE.out]
    · obtain rfl : k = pn := by omega
      have hkf : ¬ ((k : Int) < (k : Int)) := by omega
      have hrd : D.rd k (id * k) [] = (acc, 0) := by rw [HRD.out, Nat.sub_self]; rfl
      have HRD2 := Aside0.mk hrd
      clear hlt hrd HRD hsz
      have hgl : g < wr.heap.size := blk_lt (blk_below HQ2.out HBk.out)
      have HGW := Aside0.mk hgl
      have hcg := rget_calls acc HA.out.2 (by have h1 := HA.out.1; have h2 := HRM.out; omega) wr
      rw [← hsa] at hcg
      have HCG := Aside0.mk hcg
      clear hgl hcg hsa
      go_wp2_with fail
      refine (HCG.out).mono ?_
      rintro e w5 ⟨y1, y2, y4, y3, B5, c5, rfl, hy, hC5, hcr5, hbb5, hb5⟩
      have HB5 := Aside0.mk (below_step HBk.out hb5)
      have HC5 := Aside0.mk hC5; have HCR5 := Aside0.mk hcr5; have HY := Aside0.mk hy; have HBB5 := Aside0.mk hbb5
      have hid := getP_id acc HA.out.2
      rw [hy] at hid
      have ew : IntKind.i64.wrap y2 = y2 := IntWalk.i64_in _ (by simp only at hid; omega)
      obtain ⟨W6, hW6⟩ : ∃ W6, W6 = w5.alloc (.cells #[.int .u8 y1, .int .u32 y2, .slice B5 y3.length c5] 83) := ⟨_, rfl⟩
      obtain ⟨bx, hbx⟩ : ∃ b, b = w5.heap.size := ⟨_, rfl⟩
      have hb56 : Below w5.heap.size w5 W6 := by rw [hW6]; exact below_alloc (Below.refl _ _) _
      have hx6 : W6.heap[bx]? = some (.cells #[.int .u8 y1, .int .u32 y2, .slice B5 y3.length c5] 83 (0, 0)) := by rw [hW6, hbx]; exact blk_new w5 _
      have hq6 : W6.heap[g]? = some (.cells #[.int .u8 0, .int .u32 0, .slice none 0 0] 83 (0, 0)) := blk_below (blk_below HQ2.out HB5.out) hb56
      have hb6 : Below W.heap.size W W6 := below_step (below_step HB2.out HB5.out) hb56
      have hc6 : Kd.C (Kd.int .u8) W6 B5 y3.length y3 := Kd.C_below hC5 hb56
      have HB6 := Aside0.mk hb6; have HC6 := Aside0.mk hc6; have HW6 := Aside0.mk hW6; have HQ6 := Aside0.mk hq6; have HBX := Aside0.mk hbx; have HX6 := Aside0.mk hx6
      clear hy hC5 hcr5 hbb5 hid hb5 hb56 hb6 hc6 hW6 hbx
      go_upto_region 14 with (fail)
      rw [← HW6.out, ← HBX.out]
      have g0 := blk_cell hq6 0; have g1 := blk_cell hq6 1; have g2 := blk_cell hq6 2; have f0 := blk_frozen hq6 0; have f1 := blk_frozen hq6 1; have f2 := blk_frozen hq6 2
      have x0 := blk_cell hx6 0; have x1 := blk_cell hx6 1; have x2 := blk_cell hx6 2
      simp only [List.getElem?_toArray, List.getElem?_cons_zero, List.getElem?_cons_succ] at g0 g1 g2 x0 x1 x2
      clear hq6 hx6 HBX HW6
      have BAD : Aside0 ((y4 ≠ 0 ∨ y2 ≠ id) → D.prd k id = (0, 0, [], 30)) := ⟨fun e => by
        rw [Dk.prd, if_neg HNC.out, Int.toNat_natCast, HRD2.out, if_neg (fun h => h rfl), if_pos (by rw [HY.out]; exact e)]⟩
      by_cases h4 : y4 = 0
      · by_cases h2 : y2 = id
        · have GOOD : Aside0 (D.prd k id = (y1, y2, y3, 0)) := ⟨by
            rw [Dk.prd, if_neg HNC.out, Int.toNat_natCast, HRD2.out, if_neg (fun h => h rfl), if_neg (by rw [HY.out]; simp [h4, h2]), HY.out, h4]⟩
          subst h4 h2
          go_wp2_with fail
          refine bodyPost_ret (by exact results_ct rfl _ _ g 83 #[.int .u8 y1, .int .u32 y2, .slice B5 y3.length c5] (0, 0) _ rfl (three_put HQ6.out _ _ _) Try.underlying83 rfl (by kernel_rfl)) rfl ?_
          refine ⟨y1, y2, 0, y3, B5, c5, rfl, GOOD.out, ?_, HCR5.out, three_below HB6.out HGL.out _ _ _⟩
          exact Kd.C_foot_neS (S := fun k => k = g) (fun h => h) HC6.out (fun ad e _ h => by have h1 := HBB5.out ad e; have h2 := HGW.out; omega) _ (Kept.setCell (S := fun k => k = g) (Kept.setCell (S := fun k => k = g) (Kept.setCell (S := fun k => k = g) (Kept.refl _ _) (p := ⟨g, 0, none⟩) (.inl rfl) _) (p := ⟨g, 1, none⟩) (.inl rfl) _) (p := ⟨g, 2, none⟩) (.inl rfl) _)
        · have d5 : (y2 == id) = false := by simpa using h2
          have H2' := Aside0.mk h2
          subst h4
          clear h2
          go_wp2_with fail
          refine bodyPost_ret (by exact results_ct rfl _ _ g 83 #[.int .u8 0, .int .u32 0, .slice none 0 0] (0, 0) _ rfl (three_put HQ6.out _ _ _) Try.underlying83 rfl (by kernel_rfl)) rfl ?_
          exact PrdPost.bad (BAD.out (.inr H2'.out)) (three_below HB6.out HGL.out _ _ _)
      · have d6 : (y4 == 0) = false := by simpa using h4
        have H4 := Aside0.mk h4
        clear h4
        go_wp2_with fail
        refine bodyPost_ret (by exact results_ct rfl _ _ g 83 #[.int .u8 0, .int .u32 0, .slice none 0 0] (0, 0) _ rfl (three_put HQ6.out _ _ _) Try.underlying83 rfl (by kernel_rfl)) rfl ?_
        exact PrdPost.bad (BAD.out (.inl H4.out)) (three_below HB6.out HGL.out _ _ _)
end Go.Proofs.YteimienhaodfcaaK
/- Acts of PagePlays: kinds, huge, openers. -/
namespace Go.Proofs.YteimienhaodfcaaK
open Go.Shelf Go.RowKit Go.Proofs.YteimienhaodfcaaW.PrintWords Go.Proofs.YteimienhaodfcaaW.PrintLast Go.Proofs.YteimienhaodfcaaW.PrintMore Go.Crc
open Go.Proofs.YteimienhaodfcaaK.PgB Go.Proofs.YteimienhaodfcaaK.PgB.Back
open Go.ChangeMaps (setBlock)
attribute [local go_sem] max2_int min2_int max_two min_two Oper.semAt_some
set_option linter.unusedVariables false
set_option linter.unusedSimpArgs false
variable {w w' : World} {X X' S : Nat → Prop} {d sb mb clock : Nat} {es : Array MapEntry} {safe : List Int} {D : Dk}
abbrev KP3 : Kd (Int × Int × List Int) := Kd.iso (Kd.pair (Kd.int .u8) (Kd.pair (Kd.int .u32) (Kd.slice 5 (Kd.int .u8)))) id
abbrev A3 := Int × Int × (Int × Int × List Int) × List Int × List (Int × Int)
abbrev KA3 : Kd A3 := Kd.iso (Kd.pair (Kd.int .i64) (Kd.pair (Kd.int .i64) (Kd.pair KP3 (Kd.pair (Kd.slice 3 (Kd.int .i64)) (Kd.slice 44 (Kd.iso KT id)))))) id
/-- An act's cells. -/
theorem act3_get {w : World} {A : Option Addr} {n : Nat} {l : List A3} (h : Kd.C KA3 w A n l) {i : Nat} (hi : i < l.length) : ∃ ad, A = some ad ∧ ∃ Ap cp Ak ck At ct,
    w.cell? (ad.add (i * 7)) = some (.int .i64 l[i].1) ∧ w.cell? ⟨(ad.add (i * 7)).block, (ad.add (i * 7)).off + 1, none⟩ = some (.int .i64 l[i].2.1) ∧ w.cell? ⟨(ad.add (i * 7)).block, (ad.add (i * 7)).off + 2, none⟩ = some (.int .u8 l[i].2.2.1.1) ∧ w.cell? ⟨(ad.add (i * 7)).block, (ad.add (i * 7)).off + 3, none⟩ = some (.int .u32 l[i].2.2.1.2.1) ∧
    w.cell? ⟨(ad.add (i * 7)).block, (ad.add (i * 7)).off + 4, none⟩ = some (.slice Ap l[i].2.2.1.2.2.length cp) ∧ w.cell? ⟨(ad.add (i * 7)).block, (ad.add (i * 7)).off + 5, none⟩ = some (.slice Ak l[i].2.2.2.1.length ck) ∧ w.cell? ⟨(ad.add (i * 7)).block, (ad.add (i * 7)).off + 6, none⟩ = some (.slice At l[i].2.2.2.2.length ct) ∧
    (l[i].2.2.1.2.2.length ≤ cp ∧ Kd.C (Kd.int .u8) w Ap l[i].2.2.1.2.2.length l[i].2.2.1.2.2) ∧ (l[i].2.2.2.1.length ≤ ck ∧ Kd.C (Kd.int .i64) w Ak l[i].2.2.2.1.length l[i].2.2.2.1) ∧ (l[i].2.2.2.2.length ≤ ct ∧ KT.C w At l[i].2.2.2.2.length l[i].2.2.2.2) := by
  have hn := h.1
  obtain ⟨ad, cs, hA, hlen, hK, hcell⟩ := Kd.C_get h (0, 0, (0, 0, []), [], []) (i : Int) (by omega) (by omega)
  rw [Int.toNat_natCast, List.getD_eq_getElem?_getD, List.getElem?_eq_getElem hi, Option.getD_some] at hK
  obtain ⟨c0, c1, rfl, rfl, c2, c3, rfl, rfl, c4, c5, rfl, hm, c6, c7, rfl, ⟨Ak, ck, rfl, hk1, hk2⟩, ⟨At, ct, rfl, ht1, ht2⟩⟩ := hK
  obtain ⟨d0, d1, rfl, rfl, d2, d3, rfl, rfl, ⟨Ap, cp, rfl, hp1, hp2⟩⟩ := hm
  rw [Int.toNat_natCast] at hcell
  have e : ∀ (j : Nat) (hj : 0 < j) u, _ → w.cell? ⟨(ad.add (i * 7)).block, (ad.add (i * 7)).off + j, none⟩ = some u := fun j hj u h => by
    have := hcell j u h
    rw [← add_field ad (i * 7) j hj]; exact this
  refine ⟨ad, hA, Ap, cp, Ak, ck, At, ct, hcell 0 _ rfl, e 1 (by decide) _ rfl, e 2 (by decide) _ rfl, e 3 (by decide) _ rfl, e 4 (by decide) _ rfl, e 5 (by decide) _ rfl, e 6 (by decide) _ rfl, ⟨hp1, hp2⟩, ⟨hk1, hk2⟩, ⟨ht1, ht2⟩⟩
def Small3 (l : List A3) : Prop := l.length ≤ 80 ∧ ∀ a ∈ l, a.2.2.1.2.2.length ≤ 20000
def BoolIf3 (p : Prop) (e : Ending) : Prop := ∃ b, e = .returned (.bool b) ∧ (b = false → p)
theorem heap3_KT : Kd.Heap KT := Kd.heap_pair (Kd.heap_int _) (Kd.heap_int _)
set_option maxHeartbeats 1000000 in
theorem huge3_calls (A : Option Addr) (c : Nat) (l : List A3) (w : World) (hr : Kd.C KA3 w A l.length l) (hs : ∀ a ∈ l, a.2.2.1.2.2.length ≤ 140737488351232 ∧ a.2.2.2.1.length ≤ 140737488351232 ∧ a.2.2.2.2.length ≤ 140737488351232) :
    Calls Try.prog 44 #[.slice A l.length c] w fun e w' => BoolIf3 (Small3 l) e ∧ Drawn0 w w' := by
  have hlm : l.length ≤ 9223372036854775807 := hr.2.1
  have HR := Aside0.mk hr
  have HS := Aside0.mk hs
  clear hr hs
  go_enter Try.func44, Try.ntmps44
  go_wp2
  go_loopw [3, 4] (fun x i wr => ∃ (y : Int) (k : Nat), k ≤ l.length ∧ x = .int .i64 y ∧ i = .int .i64 k ∧ Aside0 (Drawn0 w wr) ∧ Aside0 (k ≤ 81 ∧ 0 ≤ y ∧ y ≤ k * 422212465053696 ∧ ∀ a ∈ l.take k, (a.2.2.1.2.2.length : Int) ≤ y)) (fun _ i _ => l.length - (intOf i).toNat)
  case atStart => exact ⟨0, 0, Nat.zero_le _, rfl, rfl, ⟨by repeat (first | exact Drawn0.refl _ | apply Drawn0.step)⟩, ⟨by decide, by decide, by decide, by simp⟩⟩
  case round =>
    obtain ⟨y, k, hk, rfl, rfl, HD, HY⟩ := hrel
    by_cases hlt : k < l.length
    · by_cases h80 : k ≤ 80
      · obtain ⟨ad, hA, Ap, cp, Ak, ck, At, ct, x0, x1, x2, x3, x6, x7, x8, _⟩ := act3_get (Kd.C_below HR.out HD.out.below) hlt
        subst hA
        have hsz := HS.out _ (List.getElem_mem hlt)
        have HT : Aside0 (l.take (k + 1) = l.take k ++ [l[k]]) := ⟨List.take_succ_eq_append_getElem hlt⟩
        obtain ⟨n6, hn6⟩ : ∃ n, n = l[k].2.2.1.2.2.length := ⟨_, rfl⟩
        obtain ⟨n7, hn7⟩ : ∃ n, n = l[k].2.2.2.1.length := ⟨_, rfl⟩
        obtain ⟨n8, hn8⟩ : ∃ n, n = l[k].2.2.2.2.length := ⟨_, rfl⟩
        have HN6 := Aside0.mk hn6
        rw [← hn6] at x6 hsz; rw [← hn7] at x7 hsz; rw [← hn8] at x8 hsz
        have hy := HY.out
        have hky : ((k : Int)) * 422212465053696 ≤ 33777017236357120 := by omega
        have e1 : IntKind.i64.wrap (y + (n6 : Int)) = y + n6 := IntWalk.i64_in _ (by omega)
        have e2 : IntKind.i64.wrap (y + (n6 : Int) + (n7 : Int)) = y + n6 + n7 := IntWalk.i64_in _ (by omega)
        have e3 : IntKind.i64.wrap (y + (n6 : Int) + (n7 : Int) + (n8 : Int)) = y + n6 + n7 + n8 := IntWalk.i64_in _ (by omega)
        have HY2 : Aside0 (k + 1 ≤ 81 ∧ 0 ≤ y + n6 + n7 + n8 ∧ y + n6 + n7 + n8 ≤ ((k + 1 : Nat) : Int) * 422212465053696 ∧ ∀ a ∈ l.take (k + 1), (a.2.2.1.2.2.length : Int) ≤ y + n6 + n7 + n8) := ⟨by
          refine ⟨by omega, by omega, by omega, fun a ha => ?_⟩
          rw [HT.out] at ha
          rcases List.mem_append.1 ha with ha | ha
          · have := hy.2.2.2 a ha; omega
          · rw [List.mem_singleton.1 ha, ← HN6.out]; omega⟩
        clear x0 x1 x2 x3 hn6 hn7 hn8 hy hky hsz
        go_wp2_with fail
        go_quiet (fail)
        go_wp2_with fail
        go_roundw
        case rel => exact ⟨_, k + 1, by omega, rfl, by go_num, ⟨by repeat (first | exact HD.out | apply Drawn0.step)⟩, HY2⟩
        case measure => simp [intOf]; omega
      · go_wp2_with fail
        all_goals go_ret
        all_goals exact ⟨⟨true, rfl, fun hb => absurd hb (by decide)⟩, by repeat (first | exact HD.out | apply Drawn0.step)⟩
    · have HE : Aside0 (∀ a ∈ l, (a.2.2.1.2.2.length : Int) ≤ y) := ⟨by
        have := HY.out.2.2.2
        rwa [List.take_of_length_le (by omega)] at this⟩
      by_cases h80b : 80 < (l.length : Int)
      · have d1 : decide (80 < (l.length : Int)) = true := decide_eq_true h80b
        go_wp2_with fail
        all_goals go_ret
        all_goals exact ⟨⟨true, rfl, fun hb => absurd hb (by decide)⟩, by repeat (first | exact HD.out | apply Drawn0.step)⟩
      · have d1 : decide (80 < (l.length : Int)) = false := decide_eq_false h80b
        by_cases hn : 20000 < y
        · have d2 : decide (20000 < y) = true := decide_eq_true hn
          go_wp2_with fail
          all_goals go_ret
          all_goals exact ⟨⟨true, rfl, fun hb => absurd hb (by decide)⟩, by repeat (first | exact HD.out | apply Drawn0.step)⟩
        · have d2 : decide (20000 < y) = false := decide_eq_false hn
          have HF := Aside0.mk (show Small3 l from ⟨by omega, fun a ha => by have := HE.out a ha; omega⟩)
          go_wp2_with fail
          all_goals go_ret
          all_goals exact ⟨⟨_, rfl, fun _ => HF.out⟩, by repeat (first | exact HD.out | apply Drawn0.step)⟩
def WfA3 (a : A3) : Prop := (Lit.int .i64 a.2.1).wf = true ∧ (Lit.int .u8 a.2.2.1.1).wf = true ∧ (Lit.int .u32 a.2.2.1.2.1).wf = true ∧ (a.2.2.1.2.2.length * 1 ≤ 140737488351232 ∧ ∀ y ∈ a.2.2.1.2.2, (Lit.int .u8 y).wf = true) ∧ a.2.2.2.1.length * 8 ≤ 140737488351232 ∧ (a.2.2.2.2.length * 16 ≤ 140737488351232 ∧ ∀ t ∈ a.2.2.2.2, (Lit.int .i64 t.2).wf = true)
theorem opens3_KT : Opens Try.prog (Kd.iso KT id) (fun t => (Lit.int .i64 t.1).wf = true ∧ (Lit.int .i64 t.2).wf = true) 44 :=
  (opens_struct id id (fun _ => rfl) (opensL_cons 3 0 1 (opens_int Try.underlying3 (by kernel_rfl)) rfl (opensL_one 3 1 (opens_int Try.underlying3 (by kernel_rfl)))) Try.underlying44 (by kernel_rfl) rfl).as (fun _ h => h)
theorem opens3_P : Opens Try.prog KP3 (fun m => (Lit.int .u8 m.1).wf = true ∧ (Lit.int .u32 m.2.1).wf = true ∧ (m.2.2.length * 1 ≤ 140737488351232 ∧ ∀ y ∈ m.2.2, (Lit.int .u8 y).wf = true)) 83 :=
  (opens_struct id id (fun _ => rfl) (opensL_cons 5 0 1 (opens_int Try.underlying5 (by kernel_rfl)) rfl (opensL_cons 81 1 2 (opens_int Try.underlying81 (by kernel_rfl)) rfl (opensL_one 33 2 (opens_slice (B := 1) Try.underlying33 (by kernel_rfl) (by kernel_rfl) (opens_int Try.underlying5 (by kernel_rfl)))))) Try.underlying83 (by kernel_rfl) rfl).as (fun _ h => h)
theorem opens_A3 : Opens Try.prog KA3 WfA3 85 := by
  have h0 := opens_struct (id : A3 → A3) id (fun _ => rfl) (opensL_cons 3 0 1 (opens_int Try.underlying3 (by kernel_rfl)) rfl (opensL_cons 3 1 2 (opens_int Try.underlying3 (by kernel_rfl)) rfl (opensL_cons 83 2 5 opens3_P rfl
    (opensL_cons 23 5 6 (opens_slice (B := 8) Try.underlying23 (by kernel_rfl) (by kernel_rfl) (opens_int Try.underlying3 (by kernel_rfl))) rfl
      (opensL_one 24 6 (opens_slice (B := 16) Try.underlying24 (by kernel_rfl) (by kernel_rfl) opens3_KT)))))) Try.underlying85 (by kernel_rfl) rfl
  exact h0.as (fun y h => ⟨h.2.1, h.2.2.1.1, h.2.2.1.2.1, h.2.2.1.2.2, h.2.2.2.1.1, h.2.2.2.2.1, fun t ht => (h.2.2.2.2.2 t ht).2⟩)
theorem wf3_i64 {y : Int} (h : (Lit.int .i64 y).wf = true) : -9223372036854775808 ≤ y ∧ y ≤ 9223372036854775807 := by
  simp [Lit.wf, IntKind.min, IntKind.max, IntKind.bits, IntKind.signed] at h; omega
theorem wf3_u32 {y : Int} (h : (Lit.int .u32 y).wf = true) : 0 ≤ y ∧ y < 4294967296 := by
  simp [Lit.wf, IntKind.min, IntKind.max, IntKind.bits, IntKind.signed] at h; omega
theorem wf3_u8 {y : Int} (h : (Lit.int .u8 y).wf = true) : 0 ≤ y ∧ y < 256 := by
  simp [Lit.wf, IntKind.min, IntKind.max, IntKind.bits, IntKind.signed] at h; omega
end Go.Proofs.YteimienhaodfcaaK
/- PagePlays: both disks, act by act. -/
namespace Go.Proofs.YteimienhaodfcaaK
open Go.Shelf Go.RowKit Go.Proofs.YteimienhaodfcaaW.PrintWords Go.Proofs.YteimienhaodfcaaW.PrintLast Go.Proofs.YteimienhaodfcaaW.PrintMore Go.Crc
open Go.Proofs.YteimienhaodfcaaK.PgB Go.Proofs.YteimienhaodfcaaK.PgB.Back
open Go.ChangeMaps (setBlock)
attribute [local go_sem] max2_int min2_int max_two min_two Oper.semAt_some
set_option linter.unusedVariables false
set_option linter.unusedSimpArgs false
variable {w w' : World} {X X' S : Nat → Prop} {d sb mb clock : Nat} {es : Array MapEntry} {safe : List Int} {D : Dk}

def PlI3 (w : World) (d f : Nat) (wr : World) : Prop := ∃ X Y D, PR w wr X Y d f D D
theorem prd_bytes {D : Dk} (h : WfD D) {per id y1 y2 y4 : Int} {y3 : List Int} (he : D.prd per id = (y1, y2, y3, y4)) : Bytes y3 := by
  have hacc : ∀ (k : Nat) (n : Int) (acc : List Int), Bytes acc → Bytes (D.rd k n acc).1 := fun k => by
    induction k with
    | zero => intro n acc ha; exact ha
    | succ k ih =>
      intro n acc ha
      rw [Dk.rd]
      split
      · exact ih _ _ (Bytes.append ha (readB_in h n).2)
      · exact fun x hx => by cases hx
  unfold Dk.prd at he
  split at he
  · cases he; exact fun x hx => by cases hx
  · split at he
    · cases he; exact fun x hx => by cases hx
    · split at he
      · cases he; exact fun x hx => by cases hx
      · exact getP_bytes _ (hacc _ _ _ (fun x hx => by cases hx)) he
theorem LX.opsC {w W : World} {X : Nat → Prop} {d : Nat} {D : Dk} (h : LX w W X d D) : Calls Try.prog 25 #[.pointer (some ⟨d, 0, none⟩)] W fun e w' => e = .returned (.int .i64 D.ops) ∧ Drawn0 W w' := by
  obtain ⟨sb, mb, es, clock, safe, hp⟩ := h.at_
  exact ops_calls hp
theorem LX.countC {w W : World} {X : Nat → Prop} {d : Nat} {D : Dk} (h : LX w W X d D) (per : Int) : Calls Try.prog 47 #[.pointer (some ⟨d, 0, none⟩), .int .i64 per] W fun e w' => e = .returned (.int .i64 (countD D per)) ∧ Drawn0 W w' := by
  obtain ⟨sb, mb, es, clock, safe, hp⟩ := h.at_
  exact countQ_calls hp per
theorem PR.opsD {w W W' : World} {X Y : Nat → Prop} {d f : Nat} {DR DF : Dk} (h : PR w W X Y d f DR DF) (hd : Drawn0 W W') : Calls Try.prog 25 #[.pointer (some ⟨d, 0, none⟩)] W' fun e w' => e = .returned (.int .i64 DR.ops) ∧ Drawn0 W' w' := (h.lx.step hd.below).opsC
theorem RAt.opsC {W : World} {Y : Nat → Prop} {f : Nat} {D : Dk} (h : RAt W Y f D) : W.cell? ⟨f, 4, none⟩ = some (.int .i64 D.ops) := by
  obtain ⟨g1, g2, g3, c1, c2, c3, hq, _⟩ := h
  exact hq.cells.2.2.2.2.1
theorem PR.pwrite {w W : World} {X Y : Nat → Prop} {d f : Nat} {DR DF : Dk} (h : PR w W X Y d f DR DF) (per kind id : Int) (A : Option Addr) (c : Nat) (l : List Int) (hr : Kd.C (Kd.int .u8) W A l.length l) (hc : l.length ≤ c) (hk : 0 ≤ kind ∧ kind < 256) (hi : 0 ≤ id ∧ id < 4294967296) (hL : Bytes l) :
    Calls Try.prog 49 #[.pointer (some ⟨d, 0, none⟩), .int .i64 per, .agg #[.int .u8 kind, .int .u32 id, .slice A l.length c]] W fun e w' => e = .returned (.int .i64 (DR.pwr per kind id l).2) ∧ Nxt w W X w' d (DR.pwr per kind id l).1 := pwrite_calls h.lx per kind id A c l hr hc hk hi hL
theorem PR.rpwrite {w W : World} {X Y : Nat → Prop} {d f : Nat} {DR DF : Dk} (h : PR w W X Y d f DR DF) (hwf : WfD DF) (per kind id : Int) (A : Option Addr) (c : Nat) (l : List Int) (hr : Kd.C (Kd.int .u8) W A l.length l) (hc : l.length ≤ c) (hk : 0 ≤ kind ∧ kind < 256) (hi : 0 ≤ id ∧ id < 4294967296) (hL : Bytes l) :
    Calls Try.prog 50 #[.pointer (some ⟨f, 0, none⟩), .int .i64 per, .agg #[.int .u8 kind, .int .u32 id, .slice A l.length c]] W fun e w' => e = .returned (.int .i64 (DF.pwr per kind id l).2) ∧ RNxt W Y w' f (DF.pwr per kind id l).1 := by
  refine (rpwrite_calls h.ra hwf h.yhi per kind id A c l hr hc hk hi hL).mono ?_
  rintro e w' ⟨he, h1, h2⟩
  exact ⟨he, Y, h1, fun k hk => .inl hk, h2⟩
set_option maxHeartbeats 8000000 in
set_option maxRecDepth 100000 in
theorem plays3_good (s z : Nat) (hs1 : 1 ≤ s) (hs2 : s ≤ 200) (hz1 : 64 ≤ z) (hz2 : z ≤ 200) (per : Int) (A : Option Addr) (c : Nat) (l : List A3) (w : World) (hr : Kd.C KA3 w A l.length l)
    (hz : ∀ a ∈ l, a.2.2.1.2.2.length ≤ 140737488351232 ∧ a.2.2.2.1.length ≤ 140737488351232 ∧ a.2.2.2.2.length ≤ 140737488351232)
    (hl : ∀ a ∈ l, (-9223372036854775808 ≤ a.2.1 ∧ a.2.1 ≤ 9223372036854775807) ∧ (0 ≤ a.2.2.1.1 ∧ a.2.2.1.1 < 256) ∧ (0 ≤ a.2.2.1.2.1 ∧ a.2.2.1.2.1 < 4294967296) ∧ Bytes a.2.2.1.2.2 ∧ ∀ t ∈ a.2.2.2.2, -9223372036854775808 ≤ t.2 ∧ t.2 ≤ 9223372036854775807) :
    Calls Try.prog 13 #[.int .i64 (s : Int), .int .i64 (z : Int), .int .i64 per, .slice A l.length c] w fun e w' => e = .returned (.bool true) ∧ Below w.heap.size w w' := by
  have hlm : l.length ≤ 9223372036854775807 := hr.2.1
  have d1 : decide (200 < (s : Int)) = false := decide_eq_false (by omega)
  have d2 : decide (200 < (z : Int)) = false := decide_eq_false (by omega)
  have HR := Aside0.mk hr; have HL1 := Aside0.mk hl; have HZ := Aside0.mk hz
  have HSZ := Aside0.mk (And.intro hs1 (And.intro hs2 (And.intro hz1 hz2)))
  clear hr hl hz hs1 hs2 hz1 hz2
  go_enter Try.func13, Try.ntmps13
  go_wp2_with fail
  refine (huge3_calls A c l w HR.out HZ.out).mono ?_
  rintro e w1 ⟨⟨b, rfl, hsm⟩, hd1⟩
  have HS1 := Aside0.mk hsm
  clear hsm
  cases b with
  | true =>
    have HB1 := Aside0.mk hd1.below
    clear hd1
    go_wp2_with fail
    refine (live3_calls _).mono ?_
    rintro e w2 ⟨rfl, hb2⟩
    have HB2 := Aside0.mk (below_step HB1.out hb2)
    clear hb2
    go_wp2_with fail
    go_ret
    exact ⟨rfl, HB2.out⟩
  | false =>
  have HL0 : Aside0 (∀ a ∈ l, (-9223372036854775808 ≤ a.2.1 ∧ a.2.1 ≤ 9223372036854775807) ∧ (0 ≤ a.2.2.1.1 ∧ a.2.2.1.1 < 256) ∧ (0 ≤ a.2.2.1.2.1 ∧ a.2.2.1.2.1 < 4294967296) ∧ (a.2.2.1.2.2.length ≤ 1099511627776 ∧ Bytes a.2.2.1.2.2) ∧ ∀ t ∈ a.2.2.2.2, -9223372036854775808 ≤ t.2 ∧ t.2 ≤ 9223372036854775807) :=
    ⟨fun a ha => by
      have h1 := HL1.out a ha
      have h2 := (HS1.out rfl).2 a ha
      exact ⟨h1.1, h1.2.1, h1.2.2.1, ⟨by omega, h1.2.2.2.1⟩, h1.2.2.2.2⟩⟩
  clear HL1 HS1
  have HB1 := Aside0.mk hd1.below
  clear hd1
  go_wp2_with fail
  refine (LS.new_at HB1.out s z (by have := HSZ.out; omega) (by have := HSZ.out; omega) (by have := HSZ.out; omega) (by have := HSZ.out; omega)).mono ?_
  rintro e w2 ⟨d, rfl, h2, _⟩
  have H2 := Aside0.mk (show LX w w2 _ d (Dk.made s z) from h2.lx)
  clear h2 d1 d2
  go_wp2_with fail
  refine (rnew_ok s z (by have := HSZ.out; omega) (by have := HSZ.out; omega) (by have := HSZ.out; omega) (by have := HSZ.out; omega) w2).mono ?_
  rintro e w3 ⟨f, rfl, hra, hb3⟩
  obtain ⟨X0, Y0, D0, hP0⟩ : PlI3 w d f w3 := ⟨_, _, _, H2.out.step hb3, hra.bound, fun k hk hx => by have := hk.1; have := hx.2; omega, fun k hk => Nat.le_trans H2.out.bel.size hk.1, fun k hk => hk.2⟩
  have H3 := Aside0.mk hP0
  clear hra hb3 hP0
  go_wp2_with fail
  refine (num3_calls 0 w3).mono ?_
  rintro e w4 ⟨rfl, hd4⟩
  have H4 := Aside0.mk (H3.out.step hd4.below)
  clear hd4
  go_wp2_with fail
  refine (H4.out.lx.countC per).mono ?_
  rintro e w5 ⟨rfl, hd5⟩
  have H5 := Aside0.mk (H4.out.step hd5.below)
  clear hd5
  go_wp2_with fail
  refine (H5.out.ra.countQ H5.out.wf per).mono ?_
  rintro e w6 ⟨rfl, hd6⟩
  have H6 : Aside0 (PlI3 w d f w6) := ⟨⟨_, _, _, H5.out.step hd6.below⟩⟩
  clear hd6
  go_wp2_with fail
  go_loopw [13] (fun i wr => ∃ k : Nat, k ≤ l.length ∧ i = .int .i64 (k : Int) ∧ Aside0 (PlI3 w d f wr)) (fun i _ => l.length - (intOf i).toNat)
  case atStart => exact ⟨0, Nat.zero_le _, rfl, H6⟩
  case round =>
    obtain ⟨k, hk, rfl, HI⟩ := hrel
    by_cases hlt : k < l.length
    · obtain ⟨X, Y, D, hP⟩ := HI.out
      have HP := Aside0.mk hP
      obtain ⟨ad, hA, Ap, cp, Ak, ck, At, ct, x0, x1, x2, x3, x4, x5, x6, ⟨cp1, kp1⟩, ⟨ck1, kk1⟩, ⟨ct1, kt1⟩⟩ := act3_get HR.out hlt
      subst hA
      have HLk := HL0.out _ (List.getElem_mem hlt)
      obtain ⟨y, hy⟩ : ∃ y, y = l[k] := ⟨_, rfl⟩
      rw [← hy] at x0 x1 x2 x3 x4 x5 x6 cp1 kp1 ck1 kk1 ct1 kt1 HLk
      obtain ⟨y0, yn, ⟨xk, xi, xl⟩, yK, yT⟩ := y
      simp only at x0 x1 x2 x3 x4 x5 x6 cp1 kp1 ck1 kk1 ct1 kt1 HLk
      have HLL := Aside0.mk HLk
      have HK1 := Aside0.mk (And.intro (And.intro cp1 kp1) (And.intro (And.intro ck1 kk1) (And.intro ct1 kt1)))
      have a0 := pw_cell_below hP.lx.bel x0; have a1 := pw_cell_below hP.lx.bel x1; have a2 := pw_cell_below hP.lx.bel x2; have a3 := pw_cell_below hP.lx.bel x3; have a4 := pw_cell_below hP.lx.bel x4
      have a5 := pw_cell_below hP.lx.bel x5; have a6 := pw_cell_below hP.lx.bel x6
      clear hy HLk cp1 kp1 ck1 kk1 ct1 kt1 x0 x1 x2 x3 x4 x5 x6 hP
      have hki : (k : Int) < (l.length : Int) := by omega
      obtain ⟨ga, hga⟩ : ∃ g, g = wr.heap.size := ⟨_, rfl⟩
      obtain ⟨W1, hW1⟩ : ∃ W, W = wr.alloc (.cells #[.int .i64 y0, .int .i64 yn, .int .u8 xk, .int .u32 xi, .slice Ap xl.length cp, .slice Ak yK.length ck, .slice At yT.length ct] 85) := ⟨_, rfl⟩
      have HA := Aside0.mk (show Own W1 X Y ga (.cells #[.int .i64 y0, .int .i64 yn, .int .u8 xk, .int .u32 xi, .slice Ap xl.length cp, .slice Ak yK.length ck, .slice At yT.length ct] 85 (0, 0)) by rw [hW1, hga]; exact HP.out.own _ _)
      have HP1 : Aside0 (PR w W1 X Y d f D D) := ⟨by rw [hW1]; exact HP.out.step (below_alloc (Below.refl _ _) _)⟩
      go_upto_region 15 with (fail)
      rw [← hW1, ← hga]
      clear hW1 hga a0 a1 a2 a3 a4 a5 a6 HP
      have m0 := blk_cell HA.out.2.2 0; have m1 := blk_cell HA.out.2.2 1; have m2 := blk_cell HA.out.2.2 2; have m3 := blk_cell HA.out.2.2 3; have m4 := blk_cell HA.out.2.2 4; have m5 := blk_cell HA.out.2.2 5; have m6 := blk_cell HA.out.2.2 6
      simp only [List.getElem?_toArray, List.getElem?_cons_zero, List.getElem?_cons_succ] at m0 m1 m2 m3 m4 m5 m6
      go_upto_region 17 with (fail)
      have HWF := Aside0.mk HP1.out.wf
      have HPc := HP1
      by_cases e0 : y0 = 0
      · subst e0
        have HPc := Aside0.mk (HP1.out.step (below_drew (Below.refl W1.heap.size W1)))
        go_wp2_with fail
        go_region_law (first
          | (go_simp; go_at_call 49; refine (HPc.out.pwrite per xk xi Ap cp xl (Kd.C_below HK1.out.1.2 HPc.out.lx.bel) HK1.out.1.1 HLL.out.2.1 HLL.out.2.2.1 HLL.out.2.2.2.1.2).mono ?_; rintro e w5 ⟨rfl, hN⟩; obtain ⟨XN, hpN, hoN⟩ := HPc.out.real hN; have HPc := Aside0.mk hpN; have HA := Aside0.mk (hoN _ _ HA.out); have m1 := blk_cell HA.out.2.2 1; have m2 := blk_cell HA.out.2.2 2; have m3 := blk_cell HA.out.2.2 3; have m4 := blk_cell HA.out.2.2 4; have m5 := blk_cell HA.out.2.2 5; have m6 := blk_cell HA.out.2.2 6; simp only [List.getElem?_toArray, List.getElem?_cons_zero, List.getElem?_cons_succ] at m1 m2 m3 m4 m5 m6; clear hpN hoN hN)
          | (go_simp; go_at_call 46; refine (num3_calls _ _).mono ?_; rintro e w6 ⟨rfl, hN⟩; have HPc := Aside0.mk (HPc.out.step hN.below); have HA := Aside0.mk (HA.out.step hN.below); have m1 := blk_cell HA.out.2.2 1; have m2 := blk_cell HA.out.2.2 2; have m3 := blk_cell HA.out.2.2 3; have m4 := blk_cell HA.out.2.2 4; have m5 := blk_cell HA.out.2.2 5; have m6 := blk_cell HA.out.2.2 6; simp only [List.getElem?_toArray, List.getElem?_cons_zero, List.getElem?_cons_succ] at m1 m2 m3 m4 m5 m6; clear hN)
          | (go_simp; go_at_call 50; refine (HPc.out.rpwrite HWF.out per xk xi Ap cp xl (Kd.C_below HK1.out.1.2 HPc.out.lx.bel) HK1.out.1.1 HLL.out.2.1 HLL.out.2.2.1 HLL.out.2.2.2.1.2).mono ?_; rintro e w7 ⟨rfl, hN⟩; obtain ⟨YN, hpN, hoN⟩ := HPc.out.ref hN; have HPc := Aside0.mk hpN; have HA := Aside0.mk (hoN _ _ HA.out); have m1 := blk_cell HA.out.2.2 1; have m2 := blk_cell HA.out.2.2 2; have m3 := blk_cell HA.out.2.2 3; have m4 := blk_cell HA.out.2.2 4; have m5 := blk_cell HA.out.2.2 5; have m6 := blk_cell HA.out.2.2 6; simp only [List.getElem?_toArray, List.getElem?_cons_zero, List.getElem?_cons_succ] at m1 m2 m3 m4 m5 m6; clear hpN hoN hN))
        all_goals (
          obtain ⟨Xn, Yn, DN, hPN⟩ : PlI3 w d f _ := ⟨_, _, _, HPc.out⟩
          have HPN := Aside0.mk hPN
          have n0 := hPN.ra.opsC
          clear hPN m1 m2 m3 m4 m5 m6
          go_upto_region 35 with (fail)
          go_quiet (first | (go_at_call 25; (refine (HPN.out.opsD ⟨⟨_, rfl⟩⟩).mono ?_); rintro e w' ⟨rfl, ⟨nd, rfl⟩⟩; exact ⟨rfl, _, World.drewN_drewN _ _ _⟩))
          clear n0
          go_wp2_with fail
          go_roundw
          case rel => exact ⟨k + 1, by omega, by go_num, ⟨⟨_, _, _, HPN.out.step (pw_below_drewN (Below.refl _ _) _)⟩⟩⟩
          case measure => (simp [intOf]; try omega)
        )
      have q0 : (y0 == 0) = false := by simpa using e0
      by_cases e1 : y0 = 1
      · subst e1
        clear e0 q0
        go_wp2_with fail
        refine (pread_calls HPc.out.lx HWF.out per yn).mono ?_
        rintro e w5 ⟨p1, p2, p4, p3, B1, c1, rfl, hp, hc1, hl1, hN⟩
        have hpb := prd_bytes HWF.out hp
        have HPB := Aside0.mk hpb; have HPP := Aside0.mk hp; have HC1 := Aside0.mk hc1; have HL1 := Aside0.mk hl1
        clear hp hc1 hl1 hpb
        have HPc := Aside0.mk (HPc.out.step hN); have HA := Aside0.mk (HA.out.step hN); have m1 := blk_cell HA.out.2.2 1; have m2 := blk_cell HA.out.2.2 2; have m3 := blk_cell HA.out.2.2 3; have m4 := blk_cell HA.out.2.2 4; have m5 := blk_cell HA.out.2.2 5; have m6 := blk_cell HA.out.2.2 6; simp only [List.getElem?_toArray, List.getElem?_cons_zero, List.getElem?_cons_succ] at m1 m2 m3 m4 m5 m6; clear hN
        obtain ⟨bx, hbx⟩ : ∃ g, g = w5.heap.size := ⟨_, rfl⟩
        obtain ⟨W6, hW6⟩ : ∃ W, W = w5.alloc (.cells #[.int .u8 p1, .int .u32 p2, .slice B1 p3.length c1] 83) := ⟨_, rfl⟩
        have hN : Below w5.heap.size w5 W6 := by rw [hW6]; exact below_alloc (Below.refl _ _) _
        have hx6 : W6.heap[bx]? = some (.cells #[.int .u8 p1, .int .u32 p2, .slice B1 p3.length c1] 83 (0, 0)) := by rw [hW6, hbx]; exact blk_new w5 _
        have HX6 := Aside0.mk hx6; have HC6 := Aside0.mk (Kd.C_below HC1.out hN)
        have HPc := Aside0.mk (HPc.out.step hN); have HA := Aside0.mk (HA.out.step hN); have m1 := blk_cell HA.out.2.2 1; have m2 := blk_cell HA.out.2.2 2; have m3 := blk_cell HA.out.2.2 3; have m4 := blk_cell HA.out.2.2 4; have m5 := blk_cell HA.out.2.2 5; have m6 := blk_cell HA.out.2.2 6; simp only [List.getElem?_toArray, List.getElem?_cons_zero, List.getElem?_cons_succ] at m1 m2 m3 m4 m5 m6; clear hN
        clear hx6
        go_upto_region 21 with (fail)
        rw [← hW6, ← hbx]
        clear hW6 hbx
        go_wp2_with fail
        refine (rpread_calls HPc.out.ra HWF.out per yn).mono ?_
        rintro e w7 ⟨r1, r2, r4, r3, B2, c2, rfl, hp, hc2, hl2, hN⟩
        rw [HPP.out] at hp
        simp only [Prod.mk.injEq] at hp
        obtain ⟨rfl, rfl, rfl, rfl⟩ := hp
        have HC2 := Aside0.mk hc2; have HL2 := Aside0.mk hl2
        have HX7 := Aside0.mk (blk_below HX6.out hN); have HC7 := Aside0.mk (Kd.C_below HC6.out hN)
        clear hc2 hl2
        have HPc := Aside0.mk (HPc.out.step hN); have HA := Aside0.mk (HA.out.step hN); have m1 := blk_cell HA.out.2.2 1; have m2 := blk_cell HA.out.2.2 2; have m3 := blk_cell HA.out.2.2 3; have m4 := blk_cell HA.out.2.2 4; have m5 := blk_cell HA.out.2.2 5; have m6 := blk_cell HA.out.2.2 6; simp only [List.getElem?_toArray, List.getElem?_cons_zero, List.getElem?_cons_succ] at m1 m2 m3 m4 m5 m6; clear hN
        obtain ⟨by_, hby⟩ : ∃ g, g = w7.heap.size := ⟨_, rfl⟩
        obtain ⟨W8, hW8⟩ : ∃ W, W = w7.alloc (.cells #[.int .u8 p1, .int .u32 p2, .slice B2 p3.length c2] 83) := ⟨_, rfl⟩
        have hN : Below w7.heap.size w7 W8 := by rw [hW8]; exact below_alloc (Below.refl _ _) _
        have hy8 : W8.heap[by_]? = some (.cells #[.int .u8 p1, .int .u32 p2, .slice B2 p3.length c2] 83 (0, 0)) := by rw [hW8, hby]; exact blk_new w7 _
        have hx8 := blk_below HX7.out hN
        have HC8 := Aside0.mk (Kd.C_below HC7.out hN); have HC82 := Aside0.mk (Kd.C_below HC2.out hN)
        have HPc := Aside0.mk (HPc.out.step hN); have HA := Aside0.mk (HA.out.step hN); have m1 := blk_cell HA.out.2.2 1; have m2 := blk_cell HA.out.2.2 2; have m3 := blk_cell HA.out.2.2 3; have m4 := blk_cell HA.out.2.2 4; have m5 := blk_cell HA.out.2.2 5; have m6 := blk_cell HA.out.2.2 6; simp only [List.getElem?_toArray, List.getElem?_cons_zero, List.getElem?_cons_succ] at m1 m2 m3 m4 m5 m6; clear hN
        have z0 := blk_cell hx8 0; have z1 := blk_cell hx8 1; have z2 := blk_cell hx8 2
        have n0 := blk_cell hy8 0; have n1 := blk_cell hy8 1; have n2 := blk_cell hy8 2
        simp only [List.getElem?_toArray, List.getElem?_cons_zero, List.getElem?_cons_succ] at z0 z1 z2 n0 n1 n2
        clear hx8 hy8
        go_upto_region 22 with (fail)
        rw [← hW8, ← hby]
        clear hW8 hby
        go_wp2_with fail
        refine (same3_calls p1 p2 B1 c1 p3 p1 p2 B2 c2 p3 W8 HC8.out HL1.out HC82.out HL2.out HPB.out HPB.out).mono ?_
        rintro e w9 ⟨rfl, hN⟩
        have HPc := Aside0.mk (HPc.out.step hN); have HA := Aside0.mk (HA.out.step hN); have m1 := blk_cell HA.out.2.2 1; have m2 := blk_cell HA.out.2.2 2; have m3 := blk_cell HA.out.2.2 3; have m4 := blk_cell HA.out.2.2 4; have m5 := blk_cell HA.out.2.2 5; have m6 := blk_cell HA.out.2.2 6; simp only [List.getElem?_toArray, List.getElem?_cons_zero, List.getElem?_cons_succ] at m1 m2 m3 m4 m5 m6; clear hN
        clear z0 z1 z2 n0 n1 n2
        have dS : decide (p1 = p1 ∧ p2 = p2 ∧ p3 = p3) = true := by simp
        rw [dS]
        go_wp2_with fail
        refine (num3_calls _ _).mono ?_
        rintro e w10 ⟨rfl, hN⟩
        have HPc := Aside0.mk (HPc.out.step hN.below); have HA := Aside0.mk (HA.out.step hN.below); have m1 := blk_cell HA.out.2.2 1; have m2 := blk_cell HA.out.2.2 2; have m3 := blk_cell HA.out.2.2 3; have m4 := blk_cell HA.out.2.2 4; have m5 := blk_cell HA.out.2.2 5; have m6 := blk_cell HA.out.2.2 6; simp only [List.getElem?_toArray, List.getElem?_cons_zero, List.getElem?_cons_succ] at m1 m2 m3 m4 m5 m6; clear hN
        all_goals (
          obtain ⟨Xn, Yn, DN, hPN⟩ : PlI3 w d f _ := ⟨_, _, _, HPc.out⟩
          have HPN := Aside0.mk hPN
          have n0 := hPN.ra.opsC
          clear hPN m1 m2 m3 m4 m5 m6
          go_upto_region 35 with (fail)
          go_quiet (first | (go_at_call 25; (refine (HPN.out.opsD ⟨⟨_, rfl⟩⟩).mono ?_); rintro e w' ⟨rfl, ⟨nd, rfl⟩⟩; exact ⟨rfl, _, World.drewN_drewN _ _ _⟩))
          clear n0
          go_wp2_with fail
          go_roundw
          case rel => exact ⟨k + 1, by omega, by go_num, ⟨⟨_, _, _, HPN.out.step (pw_below_drewN (Below.refl _ _) _)⟩⟩⟩
          case measure => (simp [intOf]; try omega)
        )
      have q1 : (y0 == 1) = false := by simpa using e1
      by_cases e2 : y0 = 2
      · subst e2
        clear e0 q0 e1 q1
        go_wp2_with fail
        refine (HPc.out.lx.sync).mono ?_
        rintro e w5 ⟨rfl, hN⟩
        obtain ⟨XN, hpN, hoN⟩ := HPc.out.real hN; have HPc := Aside0.mk hpN; have HA := Aside0.mk (hoN _ _ HA.out); have m1 := blk_cell HA.out.2.2 1; have m2 := blk_cell HA.out.2.2 2; have m3 := blk_cell HA.out.2.2 3; have m4 := blk_cell HA.out.2.2 4; have m5 := blk_cell HA.out.2.2 5; have m6 := blk_cell HA.out.2.2 6; simp only [List.getElem?_toArray, List.getElem?_cons_zero, List.getElem?_cons_succ] at m1 m2 m3 m4 m5 m6; clear hpN hoN hN
        go_wp2_with fail
        refine (rsync_calls HPc.out.ra HWF.out).mono ?_
        rintro e w6 ⟨rfl, hN⟩
        obtain ⟨YN, hpN, hoN⟩ := HPc.out.ref hN; have HPc := Aside0.mk hpN; have HA := Aside0.mk (hoN _ _ HA.out); have m1 := blk_cell HA.out.2.2 1; have m2 := blk_cell HA.out.2.2 2; have m3 := blk_cell HA.out.2.2 3; have m4 := blk_cell HA.out.2.2 4; have m5 := blk_cell HA.out.2.2 5; have m6 := blk_cell HA.out.2.2 6; simp only [List.getElem?_toArray, List.getElem?_cons_zero, List.getElem?_cons_succ] at m1 m2 m3 m4 m5 m6; clear hpN hoN hN
        all_goals (
          obtain ⟨Xn, Yn, DN, hPN⟩ : PlI3 w d f _ := ⟨_, _, _, HPc.out⟩
          have HPN := Aside0.mk hPN
          have n0 := hPN.ra.opsC
          clear hPN m1 m2 m3 m4 m5 m6
          go_upto_region 35 with (fail)
          go_quiet (first | (go_at_call 25; (refine (HPN.out.opsD ⟨⟨_, rfl⟩⟩).mono ?_); rintro e w' ⟨rfl, ⟨nd, rfl⟩⟩; exact ⟨rfl, _, World.drewN_drewN _ _ _⟩))
          clear n0
          go_wp2_with fail
          go_roundw
          case rel => exact ⟨k + 1, by omega, by go_num, ⟨⟨_, _, _, HPN.out.step (pw_below_drewN (Below.refl _ _) _)⟩⟩⟩
          case measure => (simp [intOf]; try omega)
        )
      have q2 : (y0 == 2) = false := by simpa using e2
      by_cases e3 : y0 = 3
      · subst e3
        clear e0 q0 e1 q1 e2 q2
        go_wp2_with fail
        refine (HPc.out.lx.arm yn HLL.out.1).mono ?_
        rintro e w5 ⟨rfl, hN⟩
        obtain ⟨XN, hpN, hoN⟩ := HPc.out.real hN; have HPc := Aside0.mk hpN; have HA := Aside0.mk (hoN _ _ HA.out); have m1 := blk_cell HA.out.2.2 1; have m2 := blk_cell HA.out.2.2 2; have m3 := blk_cell HA.out.2.2 3; have m4 := blk_cell HA.out.2.2 4; have m5 := blk_cell HA.out.2.2 5; have m6 := blk_cell HA.out.2.2 6; simp only [List.getElem?_toArray, List.getElem?_cons_zero, List.getElem?_cons_succ] at m1 m2 m3 m4 m5 m6; clear hpN hoN hN
        go_wp2_with fail
        refine (HPc.out.ra.rarm yn).mono ?_
        rintro e w6 ⟨rfl, hN⟩
        obtain ⟨YN, hpN, hoN⟩ := HPc.out.ref hN; have HPc := Aside0.mk hpN; have HA := Aside0.mk (hoN _ _ HA.out); have m1 := blk_cell HA.out.2.2 1; have m2 := blk_cell HA.out.2.2 2; have m3 := blk_cell HA.out.2.2 3; have m4 := blk_cell HA.out.2.2 4; have m5 := blk_cell HA.out.2.2 5; have m6 := blk_cell HA.out.2.2 6; simp only [List.getElem?_toArray, List.getElem?_cons_zero, List.getElem?_cons_succ] at m1 m2 m3 m4 m5 m6; clear hpN hoN hN
        all_goals (
          obtain ⟨Xn, Yn, DN, hPN⟩ : PlI3 w d f _ := ⟨_, _, _, HPc.out⟩
          have HPN := Aside0.mk hPN
          have n0 := hPN.ra.opsC
          clear hPN m1 m2 m3 m4 m5 m6
          go_upto_region 35 with (fail)
          go_quiet (first | (go_at_call 25; (refine (HPN.out.opsD ⟨⟨_, rfl⟩⟩).mono ?_); rintro e w' ⟨rfl, ⟨nd, rfl⟩⟩; exact ⟨rfl, _, World.drewN_drewN _ _ _⟩))
          clear n0
          go_wp2_with fail
          go_roundw
          case rel => exact ⟨k + 1, by omega, by go_num, ⟨⟨_, _, _, HPN.out.step (pw_below_drewN (Below.refl _ _) _)⟩⟩⟩
          case measure => (simp [intOf]; try omega)
        )
      have q3 : (y0 == 3) = false := by simpa using e3
      by_cases e4 : y0 = 4
      · subst e4
        clear e0 q0 e1 q1 e2 q2 e3 q3
        go_wp2_with fail
        refine (HPc.out.lx.crash yK yT Ak At ck ct (Kd.C_kept_came (Kd.heap_int _) HK1.out.2.1.2 HPc.out.lx.bel HPc.out.lx.lo) (Kd.C_kept_came heap3_KT HK1.out.2.2.2 HPc.out.lx.bel HPc.out.lx.lo) HLL.out.2.2.2.2).mono ?_
        rintro e w5 ⟨rfl, hN⟩
        obtain ⟨XN, hpN, hoN⟩ := HPc.out.real hN; have HPc := Aside0.mk hpN; have HA := Aside0.mk (hoN _ _ HA.out); have m1 := blk_cell HA.out.2.2 1; have m2 := blk_cell HA.out.2.2 2; have m3 := blk_cell HA.out.2.2 3; have m4 := blk_cell HA.out.2.2 4; have m5 := blk_cell HA.out.2.2 5; have m6 := blk_cell HA.out.2.2 6; simp only [List.getElem?_toArray, List.getElem?_cons_zero, List.getElem?_cons_succ] at m1 m2 m3 m4 m5 m6; clear hpN hoN hN
        go_wp2_with fail
        refine (HPc.out.ra.rcrash HWF.out yK yT Ak At ck ct (Kd.C_kept_came (Kd.heap_int _) HK1.out.2.1.2 HPc.out.lx.bel HPc.out.ylo) (Kd.C_kept_came heap3_KT HK1.out.2.2.2 HPc.out.lx.bel HPc.out.ylo) HLL.out.2.2.2.2).mono ?_
        rintro e w6 ⟨rfl, hN⟩
        obtain ⟨YN, hpN, hoN⟩ := HPc.out.ref hN; have HPc := Aside0.mk hpN; have HA := Aside0.mk (hoN _ _ HA.out); have m1 := blk_cell HA.out.2.2 1; have m2 := blk_cell HA.out.2.2 2; have m3 := blk_cell HA.out.2.2 3; have m4 := blk_cell HA.out.2.2 4; have m5 := blk_cell HA.out.2.2 5; have m6 := blk_cell HA.out.2.2 6; simp only [List.getElem?_toArray, List.getElem?_cons_zero, List.getElem?_cons_succ] at m1 m2 m3 m4 m5 m6; clear hpN hoN hN
        all_goals (
          obtain ⟨Xn, Yn, DN, hPN⟩ : PlI3 w d f _ := ⟨_, _, _, HPc.out⟩
          have HPN := Aside0.mk hPN
          have n0 := hPN.ra.opsC
          clear hPN m1 m2 m3 m4 m5 m6
          go_upto_region 35 with (fail)
          go_quiet (first | (go_at_call 25; (refine (HPN.out.opsD ⟨⟨_, rfl⟩⟩).mono ?_); rintro e w' ⟨rfl, ⟨nd, rfl⟩⟩; exact ⟨rfl, _, World.drewN_drewN _ _ _⟩))
          clear n0
          go_wp2_with fail
          go_roundw
          case rel => exact ⟨k + 1, by omega, by go_num, ⟨⟨_, _, _, HPN.out.step (pw_below_drewN (Below.refl _ _) _)⟩⟩⟩
          case measure => (simp [intOf]; try omega)
        )
      have q4 : (y0 == 4) = false := by simpa using e4
      by_cases e5 : y0 = 5
      · subst e5
        clear e0 q0 e1 q1 e2 q2 e3 q3 e4 q4
        obtain ⟨W2, hW2⟩ : ∃ W, W = W1.alloc (.cells #[.slice Ap xl.length cp] 33) := ⟨_, rfl⟩
        obtain ⟨b2, hb2⟩ : ∃ b, b = W1.heap.size := ⟨_, rfl⟩
        have hbl : Below W1.heap.size W1 W2 := by rw [hW2]; exact below_alloc (Below.refl _ _) _
        have hr2 : Kd.C (Kd.slice 5 (Kd.int .u8)) W2 (some ⟨b2, 0, none⟩) 1 [xl] := rows1w (Kd.C_below HK1.out.1.2 (below_step HP1.out.lx.bel hbl)) HK1.out.1.1 (by rw [hW2, hb2]; exact blk_new W1 _)
        have HPc := Aside0.mk (HP1.out.step hbl)
        have HA := Aside0.mk (HA.out.step hbl)
        have hcw := HPc.out.lx.write yn (some ⟨b2, 0, none⟩) 1 [xl] hr2 (by simpa using HLL.out.2.2.2.1.1) (by simpa using HLL.out.2.2.2.1.2)
        have efl : ([xl] : List (List Int)).flatten = xl := by simp
        rw [efl] at hcw
        have HCW := Aside0.mk hcw
        clear hbl hr2 efl hcw
        go_wp2_with fail
        rw [← hW2, ← hb2]
        clear hW2 hb2
        refine HCW.out.mono ?_
        rintro e w5 ⟨rfl, hN⟩
        obtain ⟨XN, hpN, hoN⟩ := HPc.out.real hN; have HPc := Aside0.mk hpN; have HA := Aside0.mk (hoN _ _ HA.out); have m1 := blk_cell HA.out.2.2 1; have m2 := blk_cell HA.out.2.2 2; have m3 := blk_cell HA.out.2.2 3; have m4 := blk_cell HA.out.2.2 4; have m5 := blk_cell HA.out.2.2 5; have m6 := blk_cell HA.out.2.2 6; simp only [List.getElem?_toArray, List.getElem?_cons_zero, List.getElem?_cons_succ] at m1 m2 m3 m4 m5 m6; clear hpN hoN hN
        have hcv : (convert 33 9 (.slice Ap xl.length cp)).run Try.prog w5 = .ok (.string (strOfNums xl)) w5 := Kd.C_string (c := cp) Try.underlying33 Try.underlying5 Try.underlying9 (Kd.C_below HK1.out.1.2 HPc.out.lx.bel)
        go_wp2_with fail
        clear hcv
        refine (HPc.out.ra.rwrite HWF.out yn xl (by have := HLL.out.2.2.2.1.1; omega)).mono ?_
        rintro e w6 ⟨rfl, hN⟩
        obtain ⟨YN, hpN, hoN⟩ := HPc.out.ref hN; have HPc := Aside0.mk hpN; have HA := Aside0.mk (hoN _ _ HA.out); have m1 := blk_cell HA.out.2.2 1; have m2 := blk_cell HA.out.2.2 2; have m3 := blk_cell HA.out.2.2 3; have m4 := blk_cell HA.out.2.2 4; have m5 := blk_cell HA.out.2.2 5; have m6 := blk_cell HA.out.2.2 6; simp only [List.getElem?_toArray, List.getElem?_cons_zero, List.getElem?_cons_succ] at m1 m2 m3 m4 m5 m6; clear hpN hoN hN
        all_goals (
          obtain ⟨Xn, Yn, DN, hPN⟩ : PlI3 w d f _ := ⟨_, _, _, HPc.out⟩
          have HPN := Aside0.mk hPN
          have n0 := hPN.ra.opsC
          clear hPN m1 m2 m3 m4 m5 m6
          go_upto_region 35 with (fail)
          go_quiet (first | (go_at_call 25; (refine (HPN.out.opsD ⟨⟨_, rfl⟩⟩).mono ?_); rintro e w' ⟨rfl, ⟨nd, rfl⟩⟩; exact ⟨rfl, _, World.drewN_drewN _ _ _⟩))
          clear n0
          go_wp2_with fail
          go_roundw
          case rel => exact ⟨k + 1, by omega, by go_num, ⟨⟨_, _, _, HPN.out.step (pw_below_drewN (Below.refl _ _) _)⟩⟩⟩
          case measure => (simp [intOf]; try omega)
        )
      have q5 : (y0 == 5) = false := by simpa using e5
      clear e0 e1 e2 e3 e4 e5
      all_goals (
        obtain ⟨Xn, Yn, DN, hPN⟩ : PlI3 w d f _ := ⟨_, _, _, HPc.out⟩
        have HPN := Aside0.mk hPN
        have n0 := hPN.ra.opsC
        clear hPN m1 m2 m3 m4 m5 m6
        go_upto_region 35 with (fail)
        go_quiet (first | (go_at_call 25; (refine (HPN.out.opsD ⟨⟨_, rfl⟩⟩).mono ?_); rintro e w' ⟨rfl, ⟨nd, rfl⟩⟩; exact ⟨rfl, _, World.drewN_drewN _ _ _⟩))
        clear n0
        go_wp2_with fail
        go_roundw
        case rel => exact ⟨k + 1, by omega, by go_num, ⟨⟨_, _, _, HPN.out.step (pw_below_drewN (Below.refl _ _) _)⟩⟩⟩
        case measure => (simp [intOf]; try omega)
      )
    · obtain ⟨X, Y, D, hP⟩ := HI.out
      have HB := Aside0.mk hP.lx.bel
      have hkf : ¬ ((k : Int) < (l.length : Int)) := by omega
      clear hP hk hlt
      go_wp2_with fail
      refine (live3_calls _).mono ?_
      rintro e w2 ⟨rfl, hb2⟩
      have HB2 := Aside0.mk (below_step HB.out hb2)
      clear hb2
      go_wp2_with fail
      go_ret
      exact ⟨rfl, HB2.out⟩
end Go.Proofs.YteimienhaodfcaaK
/- PagePlays: every input. -/
namespace Go.Proofs.YteimienhaodfcaaK
open Go.Shelf Go.RowKit Go.Proofs.YteimienhaodfcaaW.PrintWords Go.Proofs.YteimienhaodfcaaW.PrintLast Go.Proofs.YteimienhaodfcaaW.PrintMore Go.Crc
open Go.Proofs.YteimienhaodfcaaK.PgB Go.Proofs.YteimienhaodfcaaK.PgB.Back
open Go.ChangeMaps (setBlock)
attribute [local go_sem] max2_int min2_int max_two min_two Oper.semAt_some
set_option linter.unusedVariables false
set_option linter.unusedSimpArgs false
variable {w w' : World} {X X' S : Nat → Prop} {d sb mb clock : Nat} {es : Array MapEntry} {safe : List Int} {D : Dk}
set_option maxHeartbeats 4000000 in
set_option maxRecDepth 100000 in
theorem plays3_big (s z per : Int) (hb : 200 < s ∨ 200 < z) (A : Option Addr) (c : Nat) (l : List A3) (w : World) (hr : Kd.C KA3 w A l.length l)
    (hz : ∀ a ∈ l, a.2.2.1.2.2.length ≤ 140737488351232 ∧ a.2.2.2.1.length ≤ 140737488351232 ∧ a.2.2.2.2.length ≤ 140737488351232) :
    Calls Try.prog 13 #[.int .i64 s, .int .i64 z, .int .i64 per, .slice A l.length c] w fun e w' => e = .returned (.bool true) ∧ Below w.heap.size w w' := by
  have HR := Aside0.mk hr; have HZ := Aside0.mk hz
  clear hr hz
  by_cases h200 : 200 < s
  · have d1 : decide (200 < s) = true := decide_eq_true h200
    go_enter Try.func13, Try.ntmps13
    go_wp2_with fail
    refine (huge3_calls A c l w HR.out HZ.out).mono ?_
    rintro e w1 ⟨⟨b, rfl, _⟩, hd1⟩
    have HB1 := Aside0.mk hd1.below
    clear hd1
    cases b
    all_goals go_wp2_with fail
    all_goals refine (live3_calls _).mono ?_
    all_goals rintro e w2 ⟨rfl, hb2⟩
    all_goals have HB2 := Aside0.mk (below_step HB1.out hb2)
    all_goals clear hb2
    all_goals go_wp2_with fail
    all_goals go_ret
    all_goals exact ⟨rfl, HB2.out⟩
  · have d1 : decide (200 < s) = false := decide_eq_false h200
    have d2 : decide (200 < z) = true := decide_eq_true (by omega)
    go_enter Try.func13, Try.ntmps13
    go_wp2_with fail
    refine (huge3_calls A c l w HR.out HZ.out).mono ?_
    rintro e w1 ⟨⟨b, rfl, _⟩, hd1⟩
    have HB1 := Aside0.mk hd1.below
    clear hd1
    cases b
    all_goals go_wp2_with fail
    all_goals refine (live3_calls _).mono ?_
    all_goals rintro e w2 ⟨rfl, hb2⟩
    all_goals have HB2 := Aside0.mk (below_step HB1.out hb2)
    all_goals clear hb2
    all_goals go_wp2_with fail
    all_goals go_ret
    all_goals exact ⟨rfl, HB2.out⟩
set_option maxHeartbeats 4000000 in
set_option maxRecDepth 100000 in
theorem plays3_no (s z per : Int) (hb1 : s ≤ 200) (hb2 : z ≤ 200) (hn : ¬ newOk s z) (A : Option Addr) (c : Nat) (l : List A3) (w : World) (hr : Kd.C KA3 w A l.length l)
    (hz : ∀ a ∈ l, a.2.2.1.2.2.length ≤ 140737488351232 ∧ a.2.2.2.1.length ≤ 140737488351232 ∧ a.2.2.2.2.length ≤ 140737488351232) :
    Calls Try.prog 13 #[.int .i64 s, .int .i64 z, .int .i64 per, .slice A l.length c] w fun e w' => e = .returned (.bool true) ∧ Below w.heap.size w w' := by
  have HR := Aside0.mk hr; have HZ := Aside0.mk hz; have HN := Aside0.mk hn
  have d1 : decide (200 < s) = false := decide_eq_false (by omega)
  have d2 : decide (200 < z) = false := decide_eq_false (by omega)
  clear hr hz hn hb1 hb2
  go_enter Try.func13, Try.ntmps13
  go_wp2_with fail
  refine (huge3_calls A c l w HR.out HZ.out).mono ?_
  rintro e w1 ⟨⟨b, rfl, _⟩, hd1⟩
  have HB1 := Aside0.mk hd1.below
  clear hd1
  cases b with
  | true =>
    go_wp2_with fail
    refine (live3_calls _).mono ?_
    rintro e w2 ⟨rfl, hb2⟩
    have HB2 := Aside0.mk (below_step HB1.out hb2)
    clear hb2
    go_wp2_with fail
    go_ret
    exact ⟨rfl, HB2.out⟩
  | false =>
    go_wp2_with fail
    refine (new_no s z HN.out _).mono ?_
    rintro e w2 ⟨rfl, hb2⟩
    have HB2 := Aside0.mk (below_step HB1.out hb2)
    clear hb2
    go_wp2_with fail
    refine (rnew_bad s z HN.out _).mono ?_
    rintro e w3 ⟨rfl, hb3⟩
    have HB3 := Aside0.mk (below_step HB2.out hb3.below)
    clear hb3
    go_wp2_with fail
    refine (num3_calls _ _).mono ?_
    rintro e w4 ⟨rfl, hb4⟩
    have HB4 := Aside0.mk (below_step HB3.out hb4.below)
    clear hb4
    go_wp2_with fail
    refine (live3_calls _).mono ?_
    rintro e w5 ⟨rfl, hb5⟩
    have HB5 := Aside0.mk (below_step HB4.out hb5)
    clear hb5
    go_wp2_with fail
    go_ret
    exact ⟨rfl, HB5.out⟩
theorem plays3_row (s z per : Int) (l : List A3) (A : Option Addr) (c : Nat) (W : World) (hr : Kd.C KA3 W A l.length l) (wf : ∀ a ∈ l, WfA3 a) :
    Calls Try.prog 13 #[.int .i64 s, .int .i64 z, .int .i64 per, .slice A l.length c] W fun e w' => e = .returned (.bool true) ∧ Below W.heap.size W w' := by
  have hz : ∀ a ∈ l, a.2.2.1.2.2.length ≤ 140737488351232 ∧ a.2.2.2.1.length ≤ 140737488351232 ∧ a.2.2.2.2.length ≤ 140737488351232 := fun a ha => by
    obtain ⟨_, _, _, h1, h2, h3, _⟩ := wf a ha
    have h1 := h1.1
    exact ⟨by omega, by omega, by omega⟩
  by_cases hb : 200 < s ∨ 200 < z
  · exact plays3_big s z per hb A c l W hr hz
  by_cases hn : newOk s z
  · have hn' := hn
    unfold newOk at hn'
    obtain ⟨sn, rfl⟩ : ∃ n : Nat, s = n := ⟨s.toNat, by omega⟩
    obtain ⟨zn, rfl⟩ : ∃ n : Nat, z = n := ⟨z.toNat, by omega⟩
    exact plays3_good sn zn (by omega) (by omega) (by omega) (by omega) per A c l W hr hz (fun a ha => by
      obtain ⟨h0, h1, h2, h3, _, h4⟩ := wf a ha
      exact ⟨wf3_i64 h0, wf3_u8 h1, wf3_u32 h2, fun x hx => wf3_u8 (h3.2 x hx), fun t ht => wf3_i64 (h4.2 t ht)⟩)
  · exact plays3_no s z per (by omega) (by omega) hn A c l W hr hz
end Go.Proofs.YteimienhaodfcaaK
