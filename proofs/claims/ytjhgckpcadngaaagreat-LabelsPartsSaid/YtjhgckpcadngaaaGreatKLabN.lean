/- Labels: names, labels that may be, the reference's Set walked. -/
import Derived.Test.YtjhgckpcadngaaaGreatPLAx0
import Derived.Test.YtjhgckpcadngaaaGreatPLAx1
import Derived.Test.YtjhgckpcadngaaaGreatPLAx2
import Derived.Test.YtjhgckpcadngaaaGreatPLAx3
import Derived.Test.YtjhgckpcadngaaaGreatKFlow3
import Derived.Test.YtjhgckpcadngaaaGreatKFlow4
import Derived.Test.YtjhgckpcadngaaaGreatKJoin
import Derived.Test.YtjhgckpcadngaaaGreatKEv
import Derived.Test.YtjhgckpcadngaaaGreatKOpen
import Derived.Lib.SlBytesConst
import Derived.Lib.Bytes
import Derived.Deep.RegionWith
import Derived.Deep.QuietTactic
import Derived.Deep.RegionHeld3
import Derived.BigQuiet
import Derived.Outline
import Derived.Deep.WholeRow
import Derived.Lib.SliceRun
import Derived.Lib.LazyBuf
import Derived.Lib.ConvBytes
import Derived.Laws.Cover1
import Derived.Laws.CopyOwn
import Derived.Lib.Strings
import Derived.Lib.Slices
import Derived.Lib.Walk
import Derived.Lib.Bytealg
import Derived.Tactics
import Derived.Tactics2
import Derived.Defers
import Derived.Laws.Pointers
import Derived.Laws.LoneSync
import Derived.RegionTactic
import Derived.RegionCalls
import Derived.ChangeAlike
import Derived.Test.YtjhgckpcadngaaaGreatKLabA
import Derived.Test.YtjhgckpcadngaaaGreatKLabB
import Derived.Test.YtjhgckpcadngaaaGreatKLabC
import Derived.Test.YtjhgckpcadngaaaGreatKFrm
import Derived.Test.YtjhgckpcadngaaaGreatKSrt
import Derived.Test.YtjhgckpcadngaaaGreatKSrtN
import Derived.Test.YtjhgckpcadngaaaGreatKLabF
import Derived.Test.YtjhgckpcadngaaaGreatKLabG
import Derived.Test.YtjhgckpcadngaaaGreatKLabH
import Derived.Test.YtjhgckpcadngaaaGreatKLabI
import Derived.Test.YtjhgckpcadngaaaGreatKLabJ
import Derived.Test.YtjhgckpcadngaaaGreatKLabK
import Derived.Test.YtjhgckpcadngaaaGreatKLabL
import Derived.Test.YtjhgckpcadngaaaGreatKLabM
import Derived.Test.YtjhgckpcadngaaaGreatPLAx6
import Derived.Test.YtjhgckpcadngaaaGreatPLAx4
import Derived.Test.YtjhgckpcadngaaaGreatKLabE
namespace Go.Proofs.YtjhgckpcadngaaaGreatK
open Go.RowKit Go.Proofs.YtjhgckpcadngaaaGreatW.PrintWords Go.Proofs.YtjhgckpcadngaaaGreatW.PrintLast Go.Proofs.YtjhgckpcadngaaaGreatW.PrintMore
open Go.Proofs.YtjhgckpcadngaaaGreat.PLA Go.Proofs.YtjhgckpcadngaaaGreat Go.Proofs.YtjhgckpcadngaaaGreatSrt
attribute [local go_sem] max2_int min2_int max_two min_two max_three min_three max_four min_four
set_option linter.unusedVariables false
set_option linter.unusedSimpArgs false
theorem name_l0 (s : ByteArray) (hs : s.size ≤ 4611686018427387904) : ∀ (n i k : Nat), i + n = s.size → 2 * n + 1 ≤ k → klaxonref09_Name.l0 k s (i : Int) = some (okFrom s i n)
  | 0, i, k, hi, hk => by
    obtain ⟨k, rfl⟩ : ∃ j, k = j + 1 := ⟨k - 1, by omega⟩
    rw [klaxonref09_Name.l0, if_neg (by omega)]; rfl
  | n + 1, i, k, hi, hk => by
    obtain ⟨k, rfl⟩ : ∃ j, k = j + 2 := ⟨k - 2, by omega⟩
    have ih := name_l0 s hs n (i + 1) k (by omega) (by omega)
    have hj : ∀ b : Bool, klaxonref09_Name.j2 (k + 1) s (i : Int) (!b) = some (b && okFrom s (i + 1) n) := fun b => by
      rw [klaxonref09_Name.j2]
      cases b
      · rfl
      · rw [if_neg (by simp), show wrap64 ((i : Int) + 1) = ((i + 1 : Nat) : Int) by unfold wrap64; omega, ih]; rfl
    rw [klaxonref09_Name.l0, if_pos (by omega), if_pos (by omega), okFrom]
    obtain ⟨c, hc⟩ : ∃ c, c = bt s (i : Int) := ⟨_, rfl⟩
    rw [← hc]
    simp only [hj]
    have h0 : ((i : Int) > 0) = (0 < i) := by simp
    simp only [h0]
    unfold okc
    have t97 : (c ≥ 97) = (97 ≤ c) := rfl
    have t65 : (c ≥ 65) = (65 ≤ c) := rfl
    have t48 : (c ≥ 48) = (48 ≤ c) := rfl
    simp only [t97, t65, t48]
    by_cases a1 : 97 ≤ c <;> by_cases a2 : c ≤ 122 <;> by_cases a3 : 65 ≤ c <;> by_cases a4 : c ≤ 90 <;> by_cases a5 : c = 95 <;> by_cases a6 : 0 < i <;> by_cases a7 : 48 ≤ c <;> simp only [a1, a2, a3, a4, a5, a6, a7, if_true, if_false, true_and, and_true, false_and, and_false, decide_true, decide_false, Bool.true_or, Bool.or_true, Bool.false_or, Bool.or_false, Bool.true_and, Bool.false_and, Bool.and_true, Bool.and_false] <;> first | rfl | (exfalso; omega)
theorem nameR_f (s : ByteArray) (hs : s.size ≤ 4611686018427387904) (k : Nat) (hk : 2 * s.size + 2 ≤ k) : klaxonref09_Name.f k s = some (nmOK s) := by
  obtain ⟨k, rfl⟩ : ∃ j, k = j + 1 := ⟨k - 1, by omega⟩
  unfold klaxonref09_Name.f nmOK
  by_cases h0 : s.size < 1
  · rw [if_pos (by omega), klaxonref09_Name.j0, if_pos rfl, decide_eq_false (show ¬ 0 < s.size by omega)]; simp
  · rw [if_neg (by omega), klaxonref09_Name.j0, decide_eq_true (show 0 < s.size by omega)]
    by_cases h1 : s.size > 64
    · rw [if_pos (decide_eq_true (by omega)), decide_eq_false (show ¬ s.size ≤ 64 by omega)]; simp
    · have h2 := name_l0 s hs s.size 0 k (by omega) (by omega)
      rw [show ((0 : Nat) : Int) = 0 from rfl] at h2
      rw [if_neg (by simp; omega), h2, decide_eq_true (show s.size ≤ 64 by omega)]; simp
theorem is_f (x : S47) (hs : x.f0.size ≤ 4611686018427387904) (k : Nat) (hk : 2 * x.f0.size + 2 ≤ k) : klaxonref09_Is.f k x.f0 x.f1 = some (!(badL x)) := by
  unfold klaxonref09_Is.f badL
  rw [nameR_f _ hs k hk]
  simp only [Option.bind_some]
  cases hn : nmOK x.f0
  · rfl
  · rw [if_pos rfl]
    by_cases h1 : x.f1.size = 0
    · rw [if_neg (by omega), decide_eq_true h1]; rfl
    · rw [if_pos (by omega), decide_eq_false h1]
      by_cases h2 : x.f1.size ≤ 128
      · rw [decide_eq_true (by omega), decide_eq_false (show ¬ x.f1.size > 128 by omega)]; rfl
      · rw [decide_eq_false (by omega), decide_eq_true (show x.f1.size > 128 by omega)]; rfl
theorem less_cb : ∀ a b : List UInt8, Op.bytesLess a b = decide (Lib.compareBytes a b < 0)
  | [], [] => rfl
  | [], _ :: _ => rfl
  | _ :: _, [] => rfl
  | x :: a, y :: b => by
    unfold Op.bytesLess Lib.compareBytes
    rw [less_cb a b]
    by_cases h1 : x < y
    · simp [h1]
    · rw [if_neg h1]
      by_cases h2 : y < x
      · rw [if_pos h2]
        have e : (x == y) = false := beq_eq_false_iff_ne.2 (fun e => by subst e; exact h1 h2)
        simp [h1, e]
      · rw [if_neg h2]
        have e : x = y := UInt8.le_antisymm (UInt8.not_lt.1 h2) (UInt8.not_lt.1 h1)
        simp [h1, e]
theorem tl_data (s : ByteArray) : s.toList = s.data.toList := Lib.toList_data s
/-- May a list be a set, from place i on? -/
def setFrom (l : List S47) (i : Nat) : Nat → Bool
  | 0 => decide (l.length ≤ 16)
  | n + 1 => (match l[i]? with | some x => !(badL x) && (decide (i = 0) || (match l[i - 1]? with | some y => decide (cmpN y x < 0) | none => false)) | none => false) && setFrom l (i + 1) n
def setB (l : List S47) : Bool := setFrom l 0 l.length
theorem rdT (l : List S47) (i : Nat) (hi : i < l.length) : rd_T47 l (i : Int) = l[i] := by simp [rd_T47, List.getD_eq_getElem?_getD, List.getElem?_eq_getElem hi]
theorem leq_less (a b : List UInt8) : (Op.bytesLess a b || a == b) = !(Op.bytesLess b a) := by
  rw [less_cb, less_cb]
  have h1 := cb_neg a b
  by_cases h : Lib.compareBytes a b < 0
  · rw [decide_eq_true h, decide_eq_false (by omega)]; rfl
  · rw [decide_eq_false h]
    by_cases h2 : Lib.compareBytes b a < 0
    · rw [decide_eq_true h2]
      have e : (a == b) = false := beq_eq_false_iff_ne.2 (fun e => by subst e; have := cb_self a; omega)
      rw [e]; rfl
    · rw [decide_eq_false h2]
      have e := cb_zero a b (by omega)
      rw [e]; simp
set_option maxHeartbeats 2000000 in
set_option maxRecDepth 100000 in
theorem set_calls (A : Option Addr) (c : Nat) (l : List S47) (hsz : ∀ x ∈ l, x.f0.size ≤ 140737488351232 ∧ x.f1.size ≤ 140737488351232) (w : World) (hr : Kd.C k47 w A l.length l) :
    Calls Tryz.prog 17 #[.slice A l.length c] w fun e w' => e = .returned (.bool (setB l)) ∧ Below w.heap.size w w' := by
  have hlm : l.length ≤ 9223372036854775807 := hr.2.1
  have HR := Aside0.mk hr; have HSZ := Aside0.mk hsz
  clear hr hsz
  go_enter Tryz.func17, Tryz.ntmps17
  go_wp2_with fail
  go_loopw [3] (fun x wr => ∃ i n : Nat, i + n = l.length ∧ x = .int .i64 i ∧ Aside0 (setFrom l i n = setB l) ∧ Aside0 (Below w.heap.size w wr)) (fun x _ => l.length - (intOf x).toNat)
  case atStart => exact ⟨0, l.length, by omega, rfl, ⟨rfl⟩, ⟨Below.refl _ _⟩⟩
  case round =>
    obtain ⟨i, n, hin, rfl, HS, HB⟩ := hrel
    cases n with
    | zero =>
      obtain rfl : i = l.length := by omega
      have hkk : ¬ ((l.length : Int) < (l.length : Int)) := by omega
      have HE : Aside0 (decide ((l.length : Int) ≤ 16) = setB l) := ⟨by
        rw [← HS.out, setFrom]
        by_cases h : l.length ≤ 16
        · rw [decide_eq_true h, decide_eq_true (by omega)]
        · rw [decide_eq_false h, decide_eq_false (by omega)]⟩
      go_wp2_with fail
      go_ret
      refine ⟨?_, HB.out⟩
      show Ending.returned (.bool (decide ((l.length : Int) ≤ 16))) = _
      rw [HE.out]
    | succ n =>
      have hlt : i < l.length := by omega
      obtain ⟨ad, rfl, hc0, hc1⟩ := lab_get (Kd.C_below HR.out HB.out) hlt
      obtain ⟨y, hy⟩ : ∃ y, y = l[i] := ⟨_, rfl⟩
      rw [← hy] at hc0 hc1
      have hy? : l[i]? = some y := by rw [hy]; exact List.getElem?_eq_getElem hlt
      have HISB : Aside0 (∀ W, Calls Tryz.prog 42 #[.agg #[.string y.f0, .string y.f1]] W fun e w' => e = .returned (.bool (!(badL y))) ∧ Below W.heap.size W w') := ⟨fun W => by
        have hm := HSZ.out y (List.mem_of_getElem? hy?)
        exact klaxonref09_Is.calls (2 * y.f0.size + 2) y.f0 y.f1 _ W (is_f y (by omega) _ (Nat.le_refl _))⟩
      have hki : (i : Int) < (l.length : Int) := by omega
      have hki0 : (0 : Int) ≤ (i : Int) := by omega
      obtain ⟨Jnv, hJnv⟩ : ∃ J : World → Prop, J = fun W' => Below wr.heap.size wr W' := ⟨_, rfl⟩
      have HJD : Aside0 (∀ W', Jnv W' → Below wr.heap.size wr W') := ⟨fun W' h => by rw [hJnv] at h; exact h⟩
      have HDJ : Aside0 (∀ W', Below wr.heap.size wr W' → Jnv W') := ⟨fun W' h => by rw [hJnv]; exact h⟩
      have HRF : Aside0 (∀ W : World, Below W.heap.size W W) := ⟨fun W => Below.refl _ _⟩
      have HIN := Aside0.mk hin; have HLT := Aside0.mk hlt; have HY := Aside0.mk hy?
      obtain ⟨gb, hgb⟩ : ∃ b, b = badL y := ⟨_, rfl⟩
      have HGB := Aside0.mk hgb
      have HIS : Aside0 (∀ W', Jnv W' → Calls Tryz.prog 42 #[.agg #[.string y.f0, .string y.f1]] W' fun e w' => e = .returned (.bool (!gb)) ∧ Jnv w' ∧ Below W'.heap.size W' w') := ⟨fun W' hW => by
        refine (HISB.out W').mono ?_
        rintro e w' ⟨he, hb⟩
        exact ⟨by rw [he, hgb], HDJ.out _ (below_step (HJD.out _ hW) hb), hb⟩⟩
      clear hJnv hy hgb hy?
      cases gb with
      | true =>
        have SF : Aside0 (∀ W', Jnv W' → W'.cell? (ad.add (i * 2)) = some (.string y.f0) ∧ W'.cell? ⟨(ad.add (i * 2)).block, (ad.add (i * 2)).off + 1, none⟩ = some (.string y.f1)) := ⟨fun W' hW => ⟨pw_cell_below (HJD.out W' hW) hc0, pw_cell_below (HJD.out W' hW) hc1⟩⟩
        have HE : Aside0 (setB l = false) := ⟨by rw [← HS.out, setFrom, HY.out]; simp [← HGB.out]⟩
        clear hc0 hc1
        go_upto_region 4 with (fail)
        refine' wp_region_flow (by kernel_rfl) (by kernel_rfl) Jnv (fun W W' => Below W.heap.size W W') HRF.out (HDJ.out _ (below_drew1 (Below.refl _ _))) _ ?_
        rotate_left
        refine' Flow.val _ 0 (some 10) (Op.move (Operand.tmp 0)) 22 (none) [] _ rfl (by kernel_rfl) (by kernel_rfl) (by kernel_rfl) (by rfl) ?_ ?_ HRF.out
        rotate_left 2
        · (intro W hW hK; go_simp; first | done | with_reducible rfl)
        try simp only [Act.put, List.setIfInBounds_toArray, List.set_cons_zero, List.set_cons_succ]
        refine' Flow.val _ 1 (some 11) (Op.move (Operand.tmp 3)) 3 (none) [] _ rfl (by kernel_rfl) (by kernel_rfl) (by kernel_rfl) (by rfl) ?_ ?_ HRF.out
        rotate_left 2
        · (intro W hW hK; go_simp; first | done | with_reducible rfl)
        try simp only [Act.put, List.setIfInBounds_toArray, List.set_cons_zero, List.set_cons_succ]
        refine' Flow.val _ 2 (some 12) (Op.indexAddr 22 (Operand.tmp 10) (Operand.tmp 11)) 0 (none) [] _ rfl (by kernel_rfl) (by kernel_rfl) (by kernel_rfl) (by rfl) ?_ ?_ HRF.out
        rotate_left 2
        · (intro W hW hK; have hF := SF.out W hW; go_simp; first | done | with_reducible rfl)
        try simp only [Act.put, List.setIfInBounds_toArray, List.set_cons_zero, List.set_cons_succ]
        refine' Flow.val _ 3 (some 13) (Op.load 47 (Operand.tmp 12)) 47 (none) [] _ rfl (by kernel_rfl) (by kernel_rfl) (by kernel_rfl) (by rfl) ?_ ?_ HRF.out
        rotate_left 2
        · (intro W hW hK; have hF := SF.out W hW; go_simp; first | done | with_reducible rfl)
        try simp only [Act.put, List.setIfInBounds_toArray, List.set_cons_zero, List.set_cons_succ]
        refine' Flow.call _ 4 (some 14) (Op.call { callee := Callee.value (Operand.func 42), args := #[Operand.tmp 13], argTypes := #[47] }) 4 (none) [] _ 42 _ rfl (by kernel_rfl) (by kernel_rfl) (by kernel_rfl) (by rfl) ?_ ?_ ?_
        rotate_left 3
        · (intro W; go_simp; first | done | with_reducible rfl)
        · (intro W hW hK; refine (HIS.out W hW).mono ?_; intro e w' h; exact h)
        try simp only [Act.put, List.setIfInBounds_toArray, List.set_cons_zero, List.set_cons_succ]
        refine' Flow.val _ 5 (some 15) (Op.unOp UnOp.not 4 (Operand.tmp 14)) 4 (none) [] _ rfl (by kernel_rfl) (by kernel_rfl) (by kernel_rfl) (by rfl) ?_ ?_ HRF.out
        rotate_left 2
        · (intro W hW hK; go_simp; first | done | with_reducible rfl)
        try simp only [Act.put, List.setIfInBounds_toArray, List.set_cons_zero, List.set_cons_succ]
        refine' Flow.val _ 6 (some 16) (Op.move (Operand.tmp 15)) 4 (none) [] _ rfl (by kernel_rfl) (by kernel_rfl) (by kernel_rfl) (by rfl) ?_ ?_ HRF.out
        rotate_left 2
        · (intro W hW hK; go_simp; first | done | with_reducible rfl)
        try simp only [Act.put, List.setIfInBounds_toArray, List.set_cons_zero, List.set_cons_succ]
        refine' Flow.not _ 7 (some 17) (Op.move (Operand.tmp 3)) 3 (some (6, false)) rfl (by kernel_rfl) (by kernel_rfl) (by rfl) ?_
        rotate_left
        try simp only [Act.put, List.setIfInBounds_toArray, List.set_cons_zero, List.set_cons_succ]
        refine' Flow.not _ 8 (some 18) (Op.binOp BinOp.gtr 3 (Operand.tmp 17) (Operand.const (Value.int IntKind.i64 0)) 3) 4 (some (6, false)) rfl (by kernel_rfl) (by kernel_rfl) (by rfl) ?_
        rotate_left
        try simp only [Act.put, List.setIfInBounds_toArray, List.set_cons_zero, List.set_cons_succ]
        refine' Flow.not _ 9 (some 19) (Op.move (Operand.tmp 18)) 4 (some (6, false)) rfl (by kernel_rfl) (by kernel_rfl) (by rfl) ?_
        rotate_left
        try simp only [Act.put, List.setIfInBounds_toArray, List.set_cons_zero, List.set_cons_succ]
        refine' Flow.not _ 10 (some 20) (Op.move (Operand.tmp 0)) 22 (some (9, true)) rfl (by kernel_rfl) (by kernel_rfl) (by rfl) ?_
        rotate_left
        try simp only [Act.put, List.setIfInBounds_toArray, List.set_cons_zero, List.set_cons_succ]
        refine' Flow.not _ 11 (some 21) (Op.move (Operand.tmp 3)) 3 (some (9, true)) rfl (by kernel_rfl) (by kernel_rfl) (by rfl) ?_
        rotate_left
        try simp only [Act.put, List.setIfInBounds_toArray, List.set_cons_zero, List.set_cons_succ]
        refine' Flow.not _ 12 (some 22) (Op.indexAddr 22 (Operand.tmp 20) (Operand.tmp 21)) 0 (some (9, true)) rfl (by kernel_rfl) (by kernel_rfl) (by rfl) ?_
        rotate_left
        try simp only [Act.put, List.setIfInBounds_toArray, List.set_cons_zero, List.set_cons_succ]
        refine' Flow.not _ 13 (some 23) (Op.fieldAddr 47 (Operand.tmp 22) 0) 0 (some (9, true)) rfl (by kernel_rfl) (by kernel_rfl) (by rfl) ?_
        rotate_left
        try simp only [Act.put, List.setIfInBounds_toArray, List.set_cons_zero, List.set_cons_succ]
        refine' Flow.not _ 14 (some 24) (Op.load 9 (Operand.tmp 23)) 9 (some (9, true)) rfl (by kernel_rfl) (by kernel_rfl) (by rfl) ?_
        rotate_left
        try simp only [Act.put, List.setIfInBounds_toArray, List.set_cons_zero, List.set_cons_succ]
        refine' Flow.not _ 15 (some 25) (Op.move (Operand.tmp 0)) 22 (some (9, true)) rfl (by kernel_rfl) (by kernel_rfl) (by rfl) ?_
        rotate_left
        try simp only [Act.put, List.setIfInBounds_toArray, List.set_cons_zero, List.set_cons_succ]
        refine' Flow.not _ 16 (some 26) (Op.move (Operand.tmp 3)) 3 (some (9, true)) rfl (by kernel_rfl) (by kernel_rfl) (by rfl) ?_
        rotate_left
        try simp only [Act.put, List.setIfInBounds_toArray, List.set_cons_zero, List.set_cons_succ]
        refine' Flow.not _ 17 (some 27) (Op.binOp BinOp.sub 3 (Operand.tmp 26) (Operand.const (Value.int IntKind.i64 1)) 3) 3 (some (9, true)) rfl (by kernel_rfl) (by kernel_rfl) (by rfl) ?_
        rotate_left
        try simp only [Act.put, List.setIfInBounds_toArray, List.set_cons_zero, List.set_cons_succ]
        refine' Flow.not _ 18 (some 28) (Op.indexAddr 22 (Operand.tmp 25) (Operand.tmp 27)) 0 (some (9, true)) rfl (by kernel_rfl) (by kernel_rfl) (by rfl) ?_
        rotate_left
        try simp only [Act.put, List.setIfInBounds_toArray, List.set_cons_zero, List.set_cons_succ]
        refine' Flow.not _ 19 (some 29) (Op.fieldAddr 47 (Operand.tmp 28) 0) 0 (some (9, true)) rfl (by kernel_rfl) (by kernel_rfl) (by rfl) ?_
        rotate_left
        try simp only [Act.put, List.setIfInBounds_toArray, List.set_cons_zero, List.set_cons_succ]
        refine' Flow.not _ 20 (some 30) (Op.load 9 (Operand.tmp 29)) 9 (some (9, true)) rfl (by kernel_rfl) (by kernel_rfl) (by rfl) ?_
        rotate_left
        try simp only [Act.put, List.setIfInBounds_toArray, List.set_cons_zero, List.set_cons_succ]
        refine' Flow.not _ 21 (some 31) (Op.binOp BinOp.leq 9 (Operand.tmp 24) (Operand.tmp 30) 9) 4 (some (9, true)) rfl (by kernel_rfl) (by kernel_rfl) (by rfl) ?_
        rotate_left
        try simp only [Act.put, List.setIfInBounds_toArray, List.set_cons_zero, List.set_cons_succ]
        refine' Flow.not _ 22 (some 32) (Op.pick (Operand.tmp 19) (Operand.tmp 31) (Operand.const (Value.bool false))) 4 (some (6, false)) rfl (by kernel_rfl) (by kernel_rfl) (by rfl) ?_
        rotate_left
        try simp only [Act.put, List.setIfInBounds_toArray, List.set_cons_zero, List.set_cons_succ]
        refine' Flow.val _ 23 (some 33) (Op.pick (Operand.tmp 16) (Operand.const (Value.bool true)) (Operand.tmp 32)) 4 (none) [] _ rfl (by kernel_rfl) (by kernel_rfl) (by kernel_rfl) (by rfl) ?_ ?_ HRF.out
        rotate_left 2
        · (intro W hW hK; go_simp; first | done | with_reducible rfl)
        try simp only [Act.put, List.setIfInBounds_toArray, List.set_cons_zero, List.set_cons_succ]
        refine Flow.done _ (by kernel_rfl) ?_
        intro W5 hW hK
        have HB5 := Aside0.mk (below_step HB.out (HJD.out _ hW))
        clear hK hW SF HIS HJD HDJ HRF
        go_wp2_with fail
        go_ret
        exact ⟨by rw [HE.out]; rfl, HB5.out⟩
      | false =>
        by_cases hi0 : i = 0
        · subst hi0
          have hgt : decide ((0 : Int) < ((0 : Nat) : Int)) = false := rfl
          have SF : Aside0 (∀ W', Jnv W' → W'.cell? (ad.add (0 * 2)) = some (.string y.f0) ∧ W'.cell? ⟨(ad.add (0 * 2)).block, (ad.add (0 * 2)).off + 1, none⟩ = some (.string y.f1) ∧ W'.cell? ad = some (.string y.f0) ∧ W'.cell? ⟨ad.block, ad.off + 1, none⟩ = some (.string y.f1)) := ⟨fun W' hW => by
            have h1 := pw_cell_below (HJD.out W' hW) hc0
            have h2 := pw_cell_below (HJD.out W' hW) hc1
            have e : ad.add (0 * 2) = ad := by rw [Nat.zero_mul]; unfold Addr.add; obtain ⟨x, y, z⟩ := ad; cases z <;> simp
            exact ⟨h1, h2, by rw [e] at h1; exact h1, by rw [e] at h2; exact h2⟩⟩
          have HE : Aside0 (setFrom l (0 + 1) n = setB l) := ⟨by rw [← HS.out, setFrom, HY.out]; simp [← HGB.out]⟩
          clear hc0 hc1
          go_upto_region 4 with (fail)
          refine' wp_region_flow (by kernel_rfl) (by kernel_rfl) Jnv (fun W W' => Below W.heap.size W W') HRF.out (HDJ.out _ (below_drew1 (Below.refl _ _))) _ ?_
          rotate_left
          refine' Flow.val _ 0 (some 10) (Op.move (Operand.tmp 0)) 22 (none) [] _ rfl (by kernel_rfl) (by kernel_rfl) (by kernel_rfl) (by rfl) ?_ ?_ HRF.out
          rotate_left 2
          · (intro W hW hK; go_simp; first | done | with_reducible rfl)
          try simp only [Act.put, List.setIfInBounds_toArray, List.set_cons_zero, List.set_cons_succ]
          refine' Flow.val _ 1 (some 11) (Op.move (Operand.tmp 3)) 3 (none) [] _ rfl (by kernel_rfl) (by kernel_rfl) (by kernel_rfl) (by rfl) ?_ ?_ HRF.out
          rotate_left 2
          · (intro W hW hK; go_simp; first | done | with_reducible rfl)
          try simp only [Act.put, List.setIfInBounds_toArray, List.set_cons_zero, List.set_cons_succ]
          refine' Flow.val _ 2 (some 12) (Op.indexAddr 22 (Operand.tmp 10) (Operand.tmp 11)) 0 (none) [] _ rfl (by kernel_rfl) (by kernel_rfl) (by kernel_rfl) (by rfl) ?_ ?_ HRF.out
          rotate_left 2
          · (intro W hW hK; have hF := SF.out W hW; go_simp; first | done | with_reducible rfl)
          try simp only [Act.put, List.setIfInBounds_toArray, List.set_cons_zero, List.set_cons_succ]
          refine' Flow.val _ 3 (some 13) (Op.load 47 (Operand.tmp 12)) 47 (none) [] _ rfl (by kernel_rfl) (by kernel_rfl) (by kernel_rfl) (by rfl) ?_ ?_ HRF.out
          rotate_left 2
          · (intro W hW hK; have hF := SF.out W hW; go_simp; first | done | with_reducible rfl)
          try simp only [Act.put, List.setIfInBounds_toArray, List.set_cons_zero, List.set_cons_succ]
          refine' Flow.call _ 4 (some 14) (Op.call { callee := Callee.value (Operand.func 42), args := #[Operand.tmp 13], argTypes := #[47] }) 4 (none) [] _ 42 _ rfl (by kernel_rfl) (by kernel_rfl) (by kernel_rfl) (by rfl) ?_ ?_ ?_
          rotate_left 3
          · (intro W; go_simp; first | done | with_reducible rfl)
          · (intro W hW hK; refine (HIS.out W hW).mono ?_; intro e w' h; exact h)
          try simp only [Act.put, List.setIfInBounds_toArray, List.set_cons_zero, List.set_cons_succ]
          refine' Flow.val _ 5 (some 15) (Op.unOp UnOp.not 4 (Operand.tmp 14)) 4 (none) [] _ rfl (by kernel_rfl) (by kernel_rfl) (by kernel_rfl) (by rfl) ?_ ?_ HRF.out
          rotate_left 2
          · (intro W hW hK; go_simp; first | done | with_reducible rfl)
          try simp only [Act.put, List.setIfInBounds_toArray, List.set_cons_zero, List.set_cons_succ]
          refine' Flow.val _ 6 (some 16) (Op.move (Operand.tmp 15)) 4 (none) [] _ rfl (by kernel_rfl) (by kernel_rfl) (by kernel_rfl) (by rfl) ?_ ?_ HRF.out
          rotate_left 2
          · (intro W hW hK; go_simp; first | done | with_reducible rfl)
          try simp only [Act.put, List.setIfInBounds_toArray, List.set_cons_zero, List.set_cons_succ]
          refine' Flow.val _ 7 (some 17) (Op.move (Operand.tmp 3)) 3 (some (6, false)) [] _ rfl (by kernel_rfl) (by kernel_rfl) (by kernel_rfl) (by rfl) ?_ ?_ HRF.out
          rotate_left 2
          · (intro W hW hK; go_simp; first | done | with_reducible rfl)
          try simp only [Act.put, List.setIfInBounds_toArray, List.set_cons_zero, List.set_cons_succ]
          refine' Flow.val _ 8 (some 18) (Op.binOp BinOp.gtr 3 (Operand.tmp 17) (Operand.const (Value.int IntKind.i64 0)) 3) 4 (some (6, false)) [] _ rfl (by kernel_rfl) (by kernel_rfl) (by kernel_rfl) (by rfl) ?_ ?_ HRF.out
          rotate_left 2
          · (intro W hW hK; go_simp; first | done | with_reducible rfl)
          try simp only [Act.put, List.setIfInBounds_toArray, List.set_cons_zero, List.set_cons_succ]
          refine' Flow.val _ 9 (some 19) (Op.move (Operand.tmp 18)) 4 (some (6, false)) [] _ rfl (by kernel_rfl) (by kernel_rfl) (by kernel_rfl) (by rfl) ?_ ?_ HRF.out
          rotate_left 2
          · (intro W hW hK; go_simp; first | done | with_reducible rfl)
          try simp only [Act.put, List.setIfInBounds_toArray, List.set_cons_zero, List.set_cons_succ]
          refine' Flow.not _ 10 (some 20) (Op.move (Operand.tmp 0)) 22 (some (9, true)) rfl (by kernel_rfl) (by kernel_rfl) (by rfl) ?_
          rotate_left
          try simp only [Act.put, List.setIfInBounds_toArray, List.set_cons_zero, List.set_cons_succ]
          refine' Flow.not _ 11 (some 21) (Op.move (Operand.tmp 3)) 3 (some (9, true)) rfl (by kernel_rfl) (by kernel_rfl) (by rfl) ?_
          rotate_left
          try simp only [Act.put, List.setIfInBounds_toArray, List.set_cons_zero, List.set_cons_succ]
          refine' Flow.not _ 12 (some 22) (Op.indexAddr 22 (Operand.tmp 20) (Operand.tmp 21)) 0 (some (9, true)) rfl (by kernel_rfl) (by kernel_rfl) (by rfl) ?_
          rotate_left
          try simp only [Act.put, List.setIfInBounds_toArray, List.set_cons_zero, List.set_cons_succ]
          refine' Flow.not _ 13 (some 23) (Op.fieldAddr 47 (Operand.tmp 22) 0) 0 (some (9, true)) rfl (by kernel_rfl) (by kernel_rfl) (by rfl) ?_
          rotate_left
          try simp only [Act.put, List.setIfInBounds_toArray, List.set_cons_zero, List.set_cons_succ]
          refine' Flow.not _ 14 (some 24) (Op.load 9 (Operand.tmp 23)) 9 (some (9, true)) rfl (by kernel_rfl) (by kernel_rfl) (by rfl) ?_
          rotate_left
          try simp only [Act.put, List.setIfInBounds_toArray, List.set_cons_zero, List.set_cons_succ]
          refine' Flow.not _ 15 (some 25) (Op.move (Operand.tmp 0)) 22 (some (9, true)) rfl (by kernel_rfl) (by kernel_rfl) (by rfl) ?_
          rotate_left
          try simp only [Act.put, List.setIfInBounds_toArray, List.set_cons_zero, List.set_cons_succ]
          refine' Flow.not _ 16 (some 26) (Op.move (Operand.tmp 3)) 3 (some (9, true)) rfl (by kernel_rfl) (by kernel_rfl) (by rfl) ?_
          rotate_left
          try simp only [Act.put, List.setIfInBounds_toArray, List.set_cons_zero, List.set_cons_succ]
          refine' Flow.not _ 17 (some 27) (Op.binOp BinOp.sub 3 (Operand.tmp 26) (Operand.const (Value.int IntKind.i64 1)) 3) 3 (some (9, true)) rfl (by kernel_rfl) (by kernel_rfl) (by rfl) ?_
          rotate_left
          try simp only [Act.put, List.setIfInBounds_toArray, List.set_cons_zero, List.set_cons_succ]
          refine' Flow.not _ 18 (some 28) (Op.indexAddr 22 (Operand.tmp 25) (Operand.tmp 27)) 0 (some (9, true)) rfl (by kernel_rfl) (by kernel_rfl) (by rfl) ?_
          rotate_left
          try simp only [Act.put, List.setIfInBounds_toArray, List.set_cons_zero, List.set_cons_succ]
          refine' Flow.not _ 19 (some 29) (Op.fieldAddr 47 (Operand.tmp 28) 0) 0 (some (9, true)) rfl (by kernel_rfl) (by kernel_rfl) (by rfl) ?_
          rotate_left
          try simp only [Act.put, List.setIfInBounds_toArray, List.set_cons_zero, List.set_cons_succ]
          refine' Flow.not _ 20 (some 30) (Op.load 9 (Operand.tmp 29)) 9 (some (9, true)) rfl (by kernel_rfl) (by kernel_rfl) (by rfl) ?_
          rotate_left
          try simp only [Act.put, List.setIfInBounds_toArray, List.set_cons_zero, List.set_cons_succ]
          refine' Flow.not _ 21 (some 31) (Op.binOp BinOp.leq 9 (Operand.tmp 24) (Operand.tmp 30) 9) 4 (some (9, true)) rfl (by kernel_rfl) (by kernel_rfl) (by rfl) ?_
          rotate_left
          try simp only [Act.put, List.setIfInBounds_toArray, List.set_cons_zero, List.set_cons_succ]
          refine' Flow.val _ 22 (some 32) (Op.pick (Operand.tmp 19) (Operand.tmp 31) (Operand.const (Value.bool false))) 4 (some (6, false)) [] _ rfl (by kernel_rfl) (by kernel_rfl) (by kernel_rfl) (by rfl) ?_ ?_ HRF.out
          rotate_left 2
          · (intro W hW hK; go_simp; first | done | with_reducible rfl)
          try simp only [Act.put, List.setIfInBounds_toArray, List.set_cons_zero, List.set_cons_succ]
          refine' Flow.val _ 23 (some 33) (Op.pick (Operand.tmp 16) (Operand.const (Value.bool true)) (Operand.tmp 32)) 4 (none) [] _ rfl (by kernel_rfl) (by kernel_rfl) (by kernel_rfl) (by rfl) ?_ ?_ HRF.out
          rotate_left 2
          · (intro W hW hK; go_simp; first | done | with_reducible rfl)
          try simp only [Act.put, List.setIfInBounds_toArray, List.set_cons_zero, List.set_cons_succ]
          refine Flow.done _ (by kernel_rfl) ?_
          intro W5 hW hK
          have HB5 := Aside0.mk (below_step HB.out (HJD.out _ hW))
          clear hK hW SF HIS HJD HDJ HRF
          go_wp2_with fail
          go_roundw
          case rel => exact ⟨1, n, by have := HIN.out; omega, by go_num, HE, HB5⟩
          case measure => (have := HLT.out; simp [intOf]; try omega)
        · obtain ⟨i, rfl⟩ : ∃ j, i = j + 1 := ⟨i - 1, by omega⟩
          obtain ⟨ad', hA', hp0, hp1⟩ := lab_get (Kd.C_below HR.out HB.out) (i := i) (by have := HLT.out; omega)
          obtain rfl : ad = ad' := Option.some.inj hA'
          obtain ⟨z, hz⟩ : ∃ z, z = l[i]'(by have := HLT.out; omega) := ⟨_, rfl⟩
          rw [← hz] at hp0 hp1
          have HZ : Aside0 (l[i]? = some z) := ⟨by rw [hz]; exact List.getElem?_eq_getElem (by have := HLT.out; omega)⟩
          have hgt : decide ((0 : Int) < ((i : Int) + 1)) = true := decide_eq_true (by omega)
          have hew : IntKind.i64.wrap (i : Int) = (i : Int) := IntWalk.i64_in _ (by omega)
          have hj0 : (0 : Int) ≤ (i : Int) := by omega
          have hj1 : (i : Int) < (l.length : Int) := by omega
          have hj2 : (i : Int) + 1 < (l.length : Int) := by omega
          have hj3 : (0 : Int) ≤ (i : Int) + 1 := by omega
          have SF : Aside0 (∀ W', Jnv W' → W'.cell? (ad.add ((i + 1) * 2)) = some (.string y.f0) ∧ W'.cell? ⟨(ad.add ((i + 1) * 2)).block, (ad.add ((i + 1) * 2)).off + 1, none⟩ = some (.string y.f1) ∧ W'.cell? (ad.add (i * 2)) = some (.string z.f0)) := ⟨fun W' hW => ⟨pw_cell_below (HJD.out W' hW) hc0, pw_cell_below (HJD.out W' hW) hc1, pw_cell_below (HJD.out W' hW) hp0⟩⟩
          have HE : Aside0 ((decide (cmpN z y < 0) && setFrom l (i + 1 + 1) n) = setB l) := ⟨by rw [← HS.out, setFrom, HY.out, Nat.add_sub_cancel, HZ.out]; simp [← HGB.out]⟩
          have HLS : Aside0 (Op.bytesLess z.f0.toList y.f0.toList = decide (cmpN z y < 0)) := ⟨by rw [less_cb, tl_data, tl_data]; rfl⟩
          obtain ⟨bl, hbl⟩ : ∃ b, b = decide (cmpN z y < 0) := ⟨_, rfl⟩
          have hls : Op.bytesLess z.f0.toList y.f0.toList = bl := by rw [HLS.out, hbl]
          rw [← hbl] at HE
          have HLQ : Aside0 (∀ W, (binOp .leq 9 (.string y.f0) (.string z.f0)).run Tryz.prog W = .ok (.bool (!bl)) W) := ⟨fun W => by
            rw [binOp_string_leq, leq_less, hls]; rfl⟩
          clear hc0 hc1 hp0 hp1 hz hbl hi0 hA'
          obtain ⟨nb, hnb⟩ : ∃ b, b = !bl := ⟨_, rfl⟩
          have HBE : Aside0 ((Op.bytesLess y.f0.toList z.f0.toList || y.f0.toList == z.f0.toList) = nb) := ⟨by rw [leq_less, hls, hnb]⟩
          obtain rfl : bl = !nb := by rw [hnb]; simp
          clear hnb
          go_upto_region 4 with (fail)
          refine' wp_region_flow (by kernel_rfl) (by kernel_rfl) Jnv (fun W W' => Below W.heap.size W W') HRF.out (HDJ.out _ (below_drew1 (Below.refl _ _))) _ ?_
          rotate_left
          refine' Flow.val _ 0 (some 10) (Op.move (Operand.tmp 0)) 22 (none) [] _ rfl (by kernel_rfl) (by kernel_rfl) (by kernel_rfl) (by rfl) ?_ ?_ HRF.out
          rotate_left 2
          · (intro W hW hK; go_simp; first | done | with_reducible rfl)
          try simp only [Act.put, List.setIfInBounds_toArray, List.set_cons_zero, List.set_cons_succ]
          refine' Flow.val _ 1 (some 11) (Op.move (Operand.tmp 3)) 3 (none) [] _ rfl (by kernel_rfl) (by kernel_rfl) (by kernel_rfl) (by rfl) ?_ ?_ HRF.out
          rotate_left 2
          · (intro W hW hK; go_simp; first | done | with_reducible rfl)
          try simp only [Act.put, List.setIfInBounds_toArray, List.set_cons_zero, List.set_cons_succ]
          refine' Flow.val _ 2 (some 12) (Op.indexAddr 22 (Operand.tmp 10) (Operand.tmp 11)) 0 (none) [] _ rfl (by kernel_rfl) (by kernel_rfl) (by kernel_rfl) (by rfl) ?_ ?_ HRF.out
          rotate_left 2
          · (intro W hW hK; have hF := SF.out W hW; go_simp; first | done | with_reducible rfl)
          try simp only [Act.put, List.setIfInBounds_toArray, List.set_cons_zero, List.set_cons_succ]
          refine' Flow.val _ 3 (some 13) (Op.load 47 (Operand.tmp 12)) 47 (none) [] _ rfl (by kernel_rfl) (by kernel_rfl) (by kernel_rfl) (by rfl) ?_ ?_ HRF.out
          rotate_left 2
          · (intro W hW hK; have hF := SF.out W hW; go_simp; first | done | with_reducible rfl)
          try simp only [Act.put, List.setIfInBounds_toArray, List.set_cons_zero, List.set_cons_succ]
          refine' Flow.call _ 4 (some 14) (Op.call { callee := Callee.value (Operand.func 42), args := #[Operand.tmp 13], argTypes := #[47] }) 4 (none) [] _ 42 _ rfl (by kernel_rfl) (by kernel_rfl) (by kernel_rfl) (by rfl) ?_ ?_ ?_
          rotate_left 3
          · (intro W; go_simp; first | done | with_reducible rfl)
          · (intro W hW hK; refine (HIS.out W hW).mono ?_; intro e w' h; exact h)
          try simp only [Act.put, List.setIfInBounds_toArray, List.set_cons_zero, List.set_cons_succ]
          refine' Flow.val _ 5 (some 15) (Op.unOp UnOp.not 4 (Operand.tmp 14)) 4 (none) [] _ rfl (by kernel_rfl) (by kernel_rfl) (by kernel_rfl) (by rfl) ?_ ?_ HRF.out
          rotate_left 2
          · (intro W hW hK; go_simp; first | done | with_reducible rfl)
          try simp only [Act.put, List.setIfInBounds_toArray, List.set_cons_zero, List.set_cons_succ]
          refine' Flow.val _ 6 (some 16) (Op.move (Operand.tmp 15)) 4 (none) [] _ rfl (by kernel_rfl) (by kernel_rfl) (by kernel_rfl) (by rfl) ?_ ?_ HRF.out
          rotate_left 2
          · (intro W hW hK; go_simp; first | done | with_reducible rfl)
          try simp only [Act.put, List.setIfInBounds_toArray, List.set_cons_zero, List.set_cons_succ]
          refine' Flow.val _ 7 (some 17) (Op.move (Operand.tmp 3)) 3 (some (6, false)) [] _ rfl (by kernel_rfl) (by kernel_rfl) (by kernel_rfl) (by rfl) ?_ ?_ HRF.out
          rotate_left 2
          · (intro W hW hK; go_simp; first | done | with_reducible rfl)
          try simp only [Act.put, List.setIfInBounds_toArray, List.set_cons_zero, List.set_cons_succ]
          refine' Flow.val _ 8 (some 18) (Op.binOp BinOp.gtr 3 (Operand.tmp 17) (Operand.const (Value.int IntKind.i64 0)) 3) 4 (some (6, false)) [] _ rfl (by kernel_rfl) (by kernel_rfl) (by kernel_rfl) (by rfl) ?_ ?_ HRF.out
          rotate_left 2
          · (intro W hW hK; go_simp; first | done | with_reducible rfl)
          try simp only [Act.put, List.setIfInBounds_toArray, List.set_cons_zero, List.set_cons_succ]
          refine' Flow.val _ 9 (some 19) (Op.move (Operand.tmp 18)) 4 (some (6, false)) [] _ rfl (by kernel_rfl) (by kernel_rfl) (by kernel_rfl) (by rfl) ?_ ?_ HRF.out
          rotate_left 2
          · (intro W hW hK; go_simp; first | done | with_reducible rfl)
          try simp only [Act.put, List.setIfInBounds_toArray, List.set_cons_zero, List.set_cons_succ]
          refine' Flow.val _ 10 (some 20) (Op.move (Operand.tmp 0)) 22 (some (9, true)) [] _ rfl (by kernel_rfl) (by kernel_rfl) (by kernel_rfl) (by rfl) ?_ ?_ HRF.out
          rotate_left 2
          · (intro W hW hK; go_simp; first | done | with_reducible rfl)
          try simp only [Act.put, List.setIfInBounds_toArray, List.set_cons_zero, List.set_cons_succ]
          refine' Flow.val _ 11 (some 21) (Op.move (Operand.tmp 3)) 3 (some (9, true)) [] _ rfl (by kernel_rfl) (by kernel_rfl) (by kernel_rfl) (by rfl) ?_ ?_ HRF.out
          rotate_left 2
          · (intro W hW hK; go_simp; first | done | with_reducible rfl)
          try simp only [Act.put, List.setIfInBounds_toArray, List.set_cons_zero, List.set_cons_succ]
          refine' Flow.val _ 12 (some 22) (Op.indexAddr 22 (Operand.tmp 20) (Operand.tmp 21)) 0 (some (9, true)) [] _ rfl (by kernel_rfl) (by kernel_rfl) (by kernel_rfl) (by rfl) ?_ ?_ HRF.out
          rotate_left 2
          · (intro W hW hK; have hF := SF.out W hW; go_simp; first | done | with_reducible rfl)
          try simp only [Act.put, List.setIfInBounds_toArray, List.set_cons_zero, List.set_cons_succ]
          refine' Flow.val _ 13 (some 23) (Op.fieldAddr 47 (Operand.tmp 22) 0) 0 (some (9, true)) [] _ rfl (by kernel_rfl) (by kernel_rfl) (by kernel_rfl) (by rfl) ?_ ?_ HRF.out
          rotate_left 2
          · (intro W hW hK; have hF := SF.out W hW; go_simp; first | done | with_reducible rfl)
          try simp only [Act.put, List.setIfInBounds_toArray, List.set_cons_zero, List.set_cons_succ]
          refine' Flow.val _ 14 (some 24) (Op.load 9 (Operand.tmp 23)) 9 (some (9, true)) [] _ rfl (by kernel_rfl) (by kernel_rfl) (by kernel_rfl) (by rfl) ?_ ?_ HRF.out
          rotate_left 2
          · (intro W hW hK; have hF := SF.out W hW; go_simp; first | done | with_reducible rfl)
          try simp only [Act.put, List.setIfInBounds_toArray, List.set_cons_zero, List.set_cons_succ]
          refine' Flow.val _ 15 (some 25) (Op.move (Operand.tmp 0)) 22 (some (9, true)) [] _ rfl (by kernel_rfl) (by kernel_rfl) (by kernel_rfl) (by rfl) ?_ ?_ HRF.out
          rotate_left 2
          · (intro W hW hK; go_simp; first | done | with_reducible rfl)
          try simp only [Act.put, List.setIfInBounds_toArray, List.set_cons_zero, List.set_cons_succ]
          refine' Flow.val _ 16 (some 26) (Op.move (Operand.tmp 3)) 3 (some (9, true)) [] _ rfl (by kernel_rfl) (by kernel_rfl) (by kernel_rfl) (by rfl) ?_ ?_ HRF.out
          rotate_left 2
          · (intro W hW hK; go_simp; first | done | with_reducible rfl)
          try simp only [Act.put, List.setIfInBounds_toArray, List.set_cons_zero, List.set_cons_succ]
          refine' Flow.val _ 17 (some 27) (Op.binOp BinOp.sub 3 (Operand.tmp 26) (Operand.const (Value.int IntKind.i64 1)) 3) 3 (some (9, true)) [] _ rfl (by kernel_rfl) (by kernel_rfl) (by kernel_rfl) (by rfl) ?_ ?_ HRF.out
          rotate_left 2
          · (intro W hW hK; go_simp; first | done | with_reducible rfl)
          try simp only [Act.put, List.setIfInBounds_toArray, List.set_cons_zero, List.set_cons_succ]
          refine' Flow.val _ 18 (some 28) (Op.indexAddr 22 (Operand.tmp 25) (Operand.tmp 27)) 0 (some (9, true)) [] _ rfl (by kernel_rfl) (by kernel_rfl) (by kernel_rfl) (by rfl) ?_ ?_ HRF.out
          rotate_left 2
          · (intro W hW hK; have hF := SF.out W hW; go_simp; first | done | with_reducible rfl)
          try simp only [Act.put, List.setIfInBounds_toArray, List.set_cons_zero, List.set_cons_succ]
          refine' Flow.val _ 19 (some 29) (Op.fieldAddr 47 (Operand.tmp 28) 0) 0 (some (9, true)) [] _ rfl (by kernel_rfl) (by kernel_rfl) (by kernel_rfl) (by rfl) ?_ ?_ HRF.out
          rotate_left 2
          · (intro W hW hK; have hF := SF.out W hW; go_simp; first | done | with_reducible rfl)
          try simp only [Act.put, List.setIfInBounds_toArray, List.set_cons_zero, List.set_cons_succ]
          refine' Flow.val _ 20 (some 30) (Op.load 9 (Operand.tmp 29)) 9 (some (9, true)) [] _ rfl (by kernel_rfl) (by kernel_rfl) (by kernel_rfl) (by rfl) ?_ ?_ HRF.out
          rotate_left 2
          · (intro W hW hK; have hF := SF.out W hW; go_simp; first | done | with_reducible rfl)
          try simp only [Act.put, List.setIfInBounds_toArray, List.set_cons_zero, List.set_cons_succ]
          refine' Flow.val _ 21 (some 31) (Op.binOp BinOp.leq 9 (Operand.tmp 24) (Operand.tmp 30) 9) 4 (some (9, true)) [] _ rfl (by kernel_rfl) (by kernel_rfl) (by kernel_rfl) (by rfl) ?_ ?_ HRF.out
          rotate_left 2
          · (intro W hW hK; go_simp; first | done | with_reducible rfl)
          try simp only [Act.put, List.setIfInBounds_toArray, List.set_cons_zero, List.set_cons_succ]
          refine' Flow.val _ 22 (some 32) (Op.pick (Operand.tmp 19) (Operand.tmp 31) (Operand.const (Value.bool false))) 4 (some (6, false)) [] _ rfl (by kernel_rfl) (by kernel_rfl) (by kernel_rfl) (by rfl) ?_ ?_ HRF.out
          rotate_left 2
          · (intro W hW hK; go_simp; first | done | with_reducible rfl)
          try simp only [Act.put, List.setIfInBounds_toArray, List.set_cons_zero, List.set_cons_succ]
          refine' Flow.val _ 23 (some 33) (Op.pick (Operand.tmp 16) (Operand.const (Value.bool true)) (Operand.tmp 32)) 4 (none) [] _ rfl (by kernel_rfl) (by kernel_rfl) (by kernel_rfl) (by rfl) ?_ ?_ HRF.out
          rotate_left 2
          · (intro W hW hK; go_simp; first | done | with_reducible rfl)
          try simp only [Act.put, List.setIfInBounds_toArray, List.set_cons_zero, List.set_cons_succ]
          refine Flow.done _ (by kernel_rfl) ?_
          intro W5 hW hK
          have HB5 := Aside0.mk (below_step HB.out (HJD.out _ hW))
          clear hK hW SF HIS HJD HDJ HRF
          try rw [HBE.out]
          clear HBE hls HLS
          cases nb with
          | false =>
            go_wp2_with fail
            go_roundw
            case rel => exact ⟨i + 1 + 1, n, by have := HIN.out; omega, by go_num, ⟨by rw [← HE.out]; rfl⟩, HB5⟩
            case measure => (have := HLT.out; simp [intOf]; try omega)
          | true =>
            go_wp2_with fail
            go_ret
            exact ⟨by rw [← HE.out]; rfl, HB5.out⟩
end Go.Proofs.YtjhgckpcadngaaaGreatK
