/- Labels: names, labels.Make in general (given how it sorts), slices.Clone -/
import Derived.Test.YtjhgckpcadngaaaGreatPLAx0
import Derived.Test.YtjhgckpcadngaaaGreatPLAx1
import Derived.Test.YtjhgckpcadngaaaGreatPLAx2
import Derived.Test.YtjhgckpcadngaaaGreatPLAx3
import Derived.Test.YtjhgckpcadngaaaGreatKFlow3
import Derived.Test.YtjhgckpcadngaaaGreatKEv
import Derived.Test.YtjhgckpcadngaaaGreatKOpen
import Derived.Lib.SlBytesConst
import Derived.Lib.Bytes
import Derived.Deep.RegionWith
import Derived.Deep.QuietTactic
import Derived.Deep.RegionHeld3
import Derived.BigQuiet
import Derived.Outline
import Derived.Lib.Strings
import Derived.Lib.Slices
import Derived.Lib.Walk
import Derived.Lib.Bytealg
import Derived.Lib.SliceRun
import Derived.Test.YtjhgckpcadngaaaGreatKLabD
import Derived.Test.YtjhgckpcadngaaaGreatKJoin
import Derived.Tactics
import Derived.Tactics2
import Derived.Defers
import Derived.Laws.Pointers
import Derived.Laws.LoneSync
import Derived.RegionTactic
import Derived.RegionCalls
import Derived.ChangeAlike
import Derived.Test.YtjhgckpcadngaaaGreatKLabA
import Derived.Test.YtjhgckpcadngaaaGreatKLabB
import Derived.Test.YtjhgckpcadngaaaGreatKLabC
import Derived.Test.YtjhgckpcadngaaaGreatKFrm
namespace Go.Proofs.YtjhgckpcadngaaaGreatK
open Go.RowKit Go.Proofs.YtjhgckpcadngaaaGreatW.PrintWords Go.Proofs.YtjhgckpcadngaaaGreatW.PrintLast Go.Proofs.YtjhgckpcadngaaaGreatW.PrintMore
open Go.Proofs.YtjhgckpcadngaaaGreat.PLA Go.Proofs.YtjhgckpcadngaaaGreat
attribute [local go_sem] max2_int min2_int max_two min_two max_three min_three max_four min_four
set_option linter.unusedVariables false
set_option linter.unusedSimpArgs false
def okc (i : Nat) (c : Int) : Bool := decide (97 ≤ c ∧ c ≤ 122) || decide (65 ≤ c ∧ c ≤ 90) || decide (c = 95) || (decide (0 < i) && decide (48 ≤ c ∧ c ≤ 57))
def okFrom (s : ByteArray) : Nat → Nat → Bool
  | _, 0 => true
  | i, n + 1 => okc i (bt s i) && okFrom s (i + 1) n
def nmOK (s : ByteArray) : Bool := okFrom s 0 s.size && (decide (0 < s.size) && decide (s.size ≤ 64))
theorem toList_nil (s : ByteArray) : s.toList = [] ↔ s.size = 0 := by
  rw [Lib.toList_data, Lib.size_eq, List.length_eq_zero_iff]
theorem nameOK_l0 (s : ByteArray) (hs : s.size < 4611686018427387904) : ∀ (n i k : Nat), i + n = s.size → 4 * n + 1 ≤ k → labels_nameOK.l0 k s (s.size : Int) (i : Int) = some (okFrom s i n && (decide (0 < s.size) && decide (s.size ≤ 64)))
  | 0, i, k, hi, hk => by
    obtain ⟨k, rfl⟩ : ∃ j, k = j + 1 := ⟨k - 1, by omega⟩
    unfold labels_nameOK.l0
    rw [if_neg (by omega)]
    simp only [okFrom, toList_nil, Bool.true_and]
    by_cases h0 : s.size = 0
    · rw [if_pos h0]; simp [h0]
    · rw [if_neg h0]
      have : 0 < s.size := by omega
      simp only [this, decide_true, Bool.true_and, Option.some.injEq]
      by_cases h : s.size ≤ 64
      · rw [decide_eq_true h, decide_eq_true (by omega)]
      · rw [decide_eq_false h, decide_eq_false (by omega)]
  | n + 1, i, k, hi, hk => by
    obtain ⟨k, rfl⟩ : ∃ j, k = j + 4 := ⟨k - 4, by omega⟩
    have ih : ∀ k', 4 * n + 1 ≤ k' → labels_nameOK.l0 k' s (s.size : Int) (wrap64 ((i : Int) + 1)) = some (okFrom s (i + 1) n && (decide (0 < s.size) && decide (s.size ≤ 64))) := fun k' h => by
      have h1 := nameOK_l0 s hs n (i + 1) k' (by omega) h
      rw [show wrap64 ((i : Int) + 1) = ((i + 1 : Nat) : Int) by unfold wrap64; omega]; exact h1
    have hj : ∀ k' (b : Bool), 4 * n + 1 ≤ k' → labels_nameOK.j3 (k' + 1) s (s.size : Int) (i : Int) b = some (b && (okFrom s (i + 1) n && (decide (0 < s.size) && decide (s.size ≤ 64)))) := fun k' b h => by
      unfold labels_nameOK.j3
      cases b
      · simp
      · rw [if_pos rfl, ih k' h]; simp
    unfold labels_nameOK.l0
    rw [if_pos (by omega), if_pos (by omega), if_pos (by omega), okFrom]
    obtain ⟨c, hc⟩ : ∃ c, c = bt s (i : Int) := ⟨_, rfl⟩
    obtain ⟨R, hR⟩ : ∃ R, R = (okFrom s (i + 1) n && (decide (0 < s.size) && decide (s.size ≤ 64))) := ⟨_, rfl⟩
    rw [← hR] at hj
    rw [Bool.and_assoc, ← hR, ← hc]
    have h2 : ∀ b : Bool, labels_nameOK.j2 (k + 2) s (i : Int) c (s.size : Int) (i : Int) b = some ((b || decide (c = 95) || (decide (0 < i) && decide (48 ≤ c ∧ c ≤ 57))) && R) := fun b => by
      unfold labels_nameOK.j2
      cases b
      · rw [if_neg (by simp)]
        by_cases e1 : c = 95
        · rw [if_pos e1, hj _ _ (by omega)]; simp [e1]
        · rw [if_neg e1]
          by_cases e2 : (i : Int) > 0
          · have e2' : 0 < i := by omega
            rw [if_pos e2]
            by_cases e3 : c ≥ 48
            · rw [if_pos e3, hj _ _ (by omega)]
              have e3' : 48 ≤ c := e3
              simp [e1, e2', e3']
            · rw [if_neg e3, hj _ _ (by omega)]
              have e3' : ¬ 48 ≤ c := e3
              simp [e1, e3']
          · have e2' : ¬ 0 < i := by omega
            rw [if_neg e2, hj _ _ (by omega)]
            simp [e1, e2']
      · rw [if_pos rfl, hj _ _ (by omega)]; simp
    have h1 : ∀ b : Bool, labels_nameOK.j1 (k + 3) s (i : Int) c (s.size : Int) (i : Int) b = some ((b || decide (65 ≤ c ∧ c ≤ 90) || decide (c = 95) || (decide (0 < i) && decide (48 ≤ c ∧ c ≤ 57))) && R) := fun b => by
      unfold labels_nameOK.j1
      cases b
      · rw [if_neg (by simp)]
        by_cases e1 : c ≥ 65
        · have e1' : 65 ≤ c := e1
          rw [if_pos e1, h2]; simp [e1']
        · have e1' : ¬ 65 ≤ c := e1
          rw [if_neg e1, h2]; simp [e1']
      · rw [if_pos rfl, hj _ _ (by omega)]; simp
    unfold okc
    by_cases e1 : c ≥ 97
    · have e1' : 97 ≤ c := e1
      rw [if_pos e1, h1]; simp [e1']
    · have e1' : ¬ 97 ≤ c := e1
      rw [if_neg e1, h1]; simp [e1']
theorem nameOK_f (s : ByteArray) (hs : s.size < 4611686018427387904) : labels_nameOK.f (4 * s.size + 1) s = some (nmOK s) := nameOK_l0 s hs s.size 0 _ (by omega) (by omega)
set_option maxHeartbeats 1000000 in
theorem indexL2_calls (g : Nat) (lb : Array Value) (hgo : ∀ (args : Array Value) (W : World), (callFunc g args).run Tryz.prog W = .ok (.enter g args) W) (p : S47 → Bool) (A : Option Addr) (c : Nat) (l : List (S47)) (w : World) (hr : Kd.C k47 w A l.length l)
    (hp : ∀ (W : World) (x : S47), x ∈ l → Below w.heap.size w W → Calls Tryz.prog g (#[.agg #[.string x.f0, .string x.f1]] ++ lb) W fun e w' => e = .returned (.bool (p x)) ∧ Below W.heap.size W w') :
    Calls Tryz.prog 51 #[.slice A l.length c, .func (.func g) #[] lb] w fun e w' => e = .returned (.int .i64 (firstI p l)) ∧ Below w.heap.size w w' := by
  have hlm : l.length ≤ 9223372036854775807 := hr.2.1
  have HR := Aside0.mk hr; have HP := Aside0.mk hp
  clear hr hp
  go_enter Tryz.func51, Tryz.ntmps51
  go_wp2
  go_loopw [8] (fun i wr => ∃ k : Nat, k ≤ l.length ∧ i = .int .i64 k ∧ Aside0 (∀ x ∈ l.take k, p x = false) ∧ Aside0 (Below w.heap.size w wr)) (fun i _ => l.length - (intOf i).toNat)
  case atStart => exact ⟨0, Nat.zero_le _, rfl, ⟨by simp⟩, ⟨Below.refl _ _⟩⟩
  case round =>
    obtain ⟨k, hk, rfl, HK, HB⟩ := hrel
    by_cases hlt : k < l.length
    · obtain ⟨ad, rfl, hc0, hc1⟩ := lab_get (Kd.C_below HR.out HB.out) hlt
      have HT : Aside0 (l.take (k + 1) = l.take k ++ [l[k]]) := ⟨List.take_succ_eq_append_getElem hlt⟩
      have HG : Aside0 (l[k]? = some l[k]) := ⟨List.getElem?_eq_getElem hlt⟩
      have HL : Aside0 ((l.take k).length = k) := ⟨by rw [List.length_take]; omega⟩
      obtain ⟨y, hy⟩ : ∃ y, y = l[k] := ⟨_, rfl⟩
      rw [← hy] at hc0 hc1 HT HG
      clear hy
      go_wp2_with fail
      refine (HP.out wr y (List.mem_of_getElem? HG.out) HB.out).mono ?_
      rintro e w1 ⟨rfl, hb1⟩
      have HB1 := Aside0.mk (below_step HB.out hb1)
      clear hb1
      cases hpy : p y with
      | true =>
        have HPY := Aside0.mk hpy
        clear hpy
        go_wp2_with fail
        go_ret
        refine ⟨?_, HB1.out⟩
        have : l.findIdx? p = some k := by
          rw [List.findIdx?_eq_some_iff_getElem]
          refine ⟨hlt, by rw [List.getElem?_eq_getElem hlt] at HG; have := HG.out; simp only [Option.some.injEq] at this; rw [this]; exact HPY.out, fun j hj => ?_⟩
          have := HK.out (l[j]) (by rw [List.mem_take_iff_getElem]; exact ⟨j, by omega, rfl⟩)
          simp [this]
        simp only [firstI, this]
        rfl
      | false =>
        have HPY := Aside0.mk hpy
        clear hpy
        go_wp2_with fail
        go_roundw
        case rel => exact ⟨k + 1, by omega, by go_num, ⟨fun x hx => by
          rw [HT.out] at hx
          rcases List.mem_append.1 hx with h | h
          · exact HK.out x h
          · rw [List.mem_singleton.1 h]; exact HPY.out⟩, HB1⟩
        case measure => simp [intOf]; omega
    · obtain rfl : k = l.length := by omega
      go_wp2_with fail
      go_ret
      refine ⟨?_, HB.out⟩
      have h1 := HK.out
      rw [List.take_length] at h1
      have : l.findIdx? p = none := by rw [List.findIdx?_eq_none_iff]; exact h1
      simp only [firstI, this]
      rfl
theorem nameOK_calls (s : ByteArray) (hs : s.size < 4611686018427387904) (w : World) : Calls Tryz.prog 38 #[.string s] w fun e w' => e = .returned (.bool (nmOK s)) ∧ Drawn0 w w' := labels_nameOK.calls _ s _ w (nameOK_f s hs)
def badL (x : S47) : Bool := !(nmOK x.f0) || decide (x.f1.size = 0) || decide (x.f1.size > 128)
set_option maxHeartbeats 1000000 in
theorem make1_calls (x : S47) (hx : x.f0.size < 4611686018427387904 ∧ x.f1.size < 4611686018427387904) (w : World) :
    Calls Tryz.prog 37 #[.agg #[.string x.f0, .string x.f1]] w fun e w' => e = .returned (.bool (badL x)) ∧ Below w.heap.size w w' := by
  obtain ⟨x0, x1⟩ := x
  have HN := Aside0.mk (nameOK_calls x0 hx.1)
  have hB : badL ⟨x0, x1⟩ = (!(nmOK x0) || decide (x1.size = 0) || decide (x1.size > 128)) := rfl
  obtain ⟨nb, hnb⟩ : ∃ b, b = nmOK x0 := ⟨_, rfl⟩
  rw [← hnb] at HN hB
  have HX := Aside0.mk hx.2
  rw [hB]
  clear hx hnb hB
  obtain ⟨W1, hW1⟩ : ∃ W1, W1 = (w.alloc (.cells #[.string x0, .string x1] 47)) := ⟨_, rfl⟩
  have q1 : W1.heap[w.heap.size]? = some (.cells #[.string x0, .string x1] 47 (0, 0)) := by rw [hW1]; exact blk_new w _
  have hb1 : Below w.heap.size w W1 := by rw [hW1]; exact below_alloc (Below.refl _ _) _
  have c0 : W1.cell? ⟨w.heap.size, 0, none⟩ = some (.string x0) := by rw [blk_cell q1]; rfl
  have c1 : W1.cell? ⟨w.heap.size, 1, none⟩ = some (.string x1) := by rw [blk_cell q1]; rfl
  have HW := Aside0.mk hW1; have HB1 := Aside0.mk hb1
  obtain ⟨g, hg⟩ : ∃ g, g = w.heap.size := ⟨_, rfl⟩
  have HG := Aside0.mk hg
  rw [← hg] at c0 c1
  have D : ∀ n, (W1.drewN n).cell? ⟨g, 0, none⟩ = some (.string x0) ∧ (W1.drewN n).cell? ⟨g, 1, none⟩ = some (.string x1) := fun n => ⟨c0, c1⟩
  clear hW1 q1 hb1 hg
  have hem : x1.size = 0 ↔ x1.toList = [] := (toList_nil x1).symm
  have HEM := Aside0.mk hem
  clear hem
  go_enter Tryz.func37, Tryz.ntmps37
  go_upto_region 1 with (fail)
  rw [← HW.out, ← HG.out]
  cases nb
  · go_wp2_with (go_at_call 38; refine (HN.out _).mono ?_; rintro e w' ⟨rfl, ⟨nd, rfl⟩⟩)
    go_ret
    exact ⟨rfl, below_step HB1.out (pw_below_drewN (Below.refl _ _) _)⟩
  · by_cases h0 : x1.toList = []
    · go_wp2_with (go_at_call 38; refine (HN.out _).mono ?_; rintro e w' ⟨rfl, ⟨nd, rfl⟩⟩)
      go_ret
      refine ⟨?_, below_step HB1.out (pw_below_drewN (Below.refl _ _) _)⟩
      show Ending.returned (.bool true) = _
      simp [HEM.out, h0]
    · go_wp2_with (go_at_call 38; refine (HN.out _).mono ?_; rintro e w' ⟨rfl, ⟨nd, rfl⟩⟩)
      go_ret
      refine ⟨?_, below_step HB1.out (pw_below_drewN (Below.refl _ _) _)⟩
      show Ending.returned (.bool (x1.toList.isEmpty || decide ((128 : Int) < (x1.size : Int)))) = _
      have e0 : x1.toList.isEmpty = decide (x1.size = 0) := by
        rw [List.isEmpty_eq_false_iff.2 h0]; exact (decide_eq_false (fun h => h0 (HEM.out.1 h))).symm
      have e1 : decide ((128 : Int) < (x1.size : Int)) = decide (x1.size > 128) := by
        by_cases h : x1.size > 128
        · rw [decide_eq_true h, decide_eq_true (by omega)]
        · rw [decide_eq_false h, decide_eq_false (by omega)]
      rw [e0, e1]; rfl
set_option maxHeartbeats 1000000 in
theorem contains_calls (A : Option Addr) (c : Nat) (l : List S47) (hsz : ∀ x ∈ l, x.f0.size < 4611686018427387904 ∧ x.f1.size < 4611686018427387904) (w : World) (hr : Kd.C k47 w A l.length l) :
    Calls Tryz.prog 36 #[.slice A l.length c, .func (.func 37) #[] #[]] w fun e w' => e = .returned (.bool (l.any badL)) ∧ Below w.heap.size w w' := by
  have HI := Aside0.mk (indexL2_calls 37 #[] (enters Tryz.func37 (by kernel_rfl) rfl) badL A c l w hr (fun W x hx hb => by
    have h := make1_calls x (hsz x hx) W
    simpa using h))
  have hres : (decide (0 ≤ firstI badL l)) = l.any badL := by
    rcases find_idx badL l with ⟨i, hi, h1, h2⟩ | ⟨h1, h2⟩
    · have hf : firstI badL l = (i : Int) := by unfold firstI; rw [h1]
      rw [hf, decide_eq_true (by omega)]
      have h3 := (List.find?_eq_some_iff_getElem.1 h2).1
      symm
      rw [List.any_eq_true]
      exact ⟨l[i], List.getElem_mem hi, h3⟩
    · have hf : firstI badL l = -1 := by unfold firstI; rw [h1]
      rw [hf, decide_eq_false (by omega)]
      symm
      rw [List.any_eq_false]
      intro x hx
      have := List.find?_eq_none.1 h2 x hx
      exact this
  obtain ⟨fi, hfi⟩ : ∃ v, v = firstI badL l := ⟨_, rfl⟩
  rw [← hfi] at HI hres
  have HRES := Aside0.mk hres
  clear hr hres hfi hsz
  go_enter Tryz.func36, Tryz.ntmps36
  go_wp2_with fail
  refine (HI.out).mono ?_
  rintro e w2 ⟨rfl, hb2⟩
  have HB2 := Aside0.mk hb2
  clear hb2
  go_wp2_with fail
  go_ret
  refine ⟨?_, HB2.out⟩
  show Ending.returned (.bool (decide (0 ≤ fi))) = _
  rw [HRES.out]
theorem own_rowL {w' : World} {base : Nat} {v : Value} {xs : List S47} (h : Kd.R k47 47 w' base (fun _ => True) v xs) (h0 : 0 < xs.length) : ∃ g cap, v = .slice (some ⟨g, 0, none⟩) xs.length cap ∧ xs.length ≤ cap ∧ base ≤ g ∧ RowL w' g xs ∧ Kd.C k47 w' (some ⟨g, 0, none⟩) xs.length xs := by
  obtain ⟨A, c, hv, hc, hC⟩ := Kd.R_reads h
  obtain ⟨_, inner, hown, _⟩ := h
  rcases hown.2 with ⟨rfl, hz⟩ | ⟨g, cap, cur, rfl, hbase, hgb, r1, r2, r3, r4⟩
  · omega
  · injection hv with hA hn hcc
    subst hA; subst hcc
    refine ⟨g, cap, rfl, hc, hbase, ⟨cur, hgb, fun i hi => ?_⟩, hC⟩
    obtain ⟨ad, e, c0, c1⟩ := lab_get hC hi
    injection e with e
    subst e
    rw [add_plain] at c0 c1
    rw [blk_cell hgb] at c0 c1
    exact ⟨c0, c1⟩
theorem RowL.toC {W : World} {g : Nat} {L : List S47} (h : RowL W g L) (hl : L.length ≤ 9223372036854775807) : Kd.C k47 W (some ⟨g, 0, none⟩) L.length L := by
  refine ⟨rfl, hl, fun _ => ⟨_, rfl, fun j p hj => ?_⟩⟩
  obtain ⟨hj1, rfl⟩ := List.getElem?_eq_some_iff.1 hj
  have hc := h.cell2 hj1
  refine ⟨_, rfl, k47_mk W _, fun i u hu => ?_⟩
  rw [add_plain]
  match i, hu with
  | 0, hu =>
    have : u = .string L[j].f0 := by simpa using hu.symm
    subst this
    exact hc.1
  | 1, hu =>
    have : u = .string L[j].f1 := by simpa using hu.symm
    subst this
    exact hc.2.1
  | i + 2, hu => simp at hu
def Cloned (w : World) (l : List S47) (e : Ending) (w' : World) : Prop := ∃ g cap, e = .returned (.slice (some ⟨g, 0, none⟩) l.length cap) ∧ l.length ≤ cap ∧ w.heap.size ≤ g ∧ RowL w' g l ∧ Kd.R k47 47 w' w.heap.size (fun _ => True) (.slice (some ⟨g, 0, none⟩) l.length cap) l ∧ Below w.heap.size w w'
set_option maxHeartbeats 1000000 in
set_option maxRecDepth 100000 in
theorem clone_calls (ad : Addr) (c : Nat) (l : List S47) (w : World) (hr : Kd.C k47 w (some ad) l.length l) (h0 : 0 < l.length) (hm : l.length < 4398046511104) :
    Calls Tryz.prog 39 #[.slice (some ad) l.length c] w (Cloned w l) := by
  have HR0 := Aside0.mk hr; have H0 := Aside0.mk h0; have HM := Aside0.mk hm
  have HB := Aside0.mk (Below.refl w.heap.size w)
  clear hr
  have q22 : ∀ (w : World) (a : Option Addr) (n c n' c' : Nat), (binOp .eql 22 (.slice a n c) (.slice none n' c')).run Tryz.prog w = .ok (.bool a.isNone) w := fun w a n c n' c' => Lib.run_eql_slice_nil w _ _ a n c n' c' Tryz.underlying22
  go_enter Tryz.func39, Tryz.ntmps39
  go_wp2_with (first | ((with_reducible refine gate_dst (N := 5) rfl ?_); refine Kd.R_lit k47 _ 47 ?hg (N := 5) ?hd (xs := ([] : List (S47))) (inner := []) (ok := fun _ => True) (okp := fun _ => True) ?hr ?hp (fun _ hk => hk) trivial (Below.refl _ _) (Nat.le_refl _) (by simp) ?_; (case hd => rfl); (case hg => rfl); (case hr => first | (go_simp; done) | (go_simp; rfl)); (case hp => exact (Reps.none _ _)); intro v143 w3 ho4 hb hg_ hnew_; clear hg_ hnew_; have n0_ := Aside0.mk (Kd.R_lower ho4 (below_size (by repeat (first | (with_reducible first | exact HB.out | apply below_alloc | apply pw_below_drewN | apply below_drew1) | exact HB.out)))); have n1_ := Aside0.mk (below_step (by repeat (first | (with_reducible first | exact HB.out | apply below_alloc | apply pw_below_drewN | apply below_drew1) | exact HB.out)) hb); clear HB; have HO144 := n0_; have HB := n1_; clear n0_ n1_; clear hb ho4) | ((with_reducible refine gate_builtin (b := .append) (xs := #[.tmp 5, .tmp 6]) rfl ?_); at_builtin; refine Kd.R_append_rows k47 (w0 := w) w.heap.size rfl (.tmp 5) (.tmp 6) 22 47 (.agg #[(.string ⟨#[]⟩), (.string ⟨#[]⟩)]) 32 rfl Tryz.underlying22 info47 rfl (by decide) (by omega) v143 [] l _ _ _ (fun _ => True) (fun _ => False) rfl rfl ?aO ?aR (fun _ _ h => h) (fun _ h => h.elim) ?aF ?aB ?aS ?aL ?_; (case aR => repeat (first | exact (Kd.C_below HR0.out HB.out) | (with_reducible refine Kd.C_alloc ?_ _) | (with_reducible refine Kd.C_drewN ?_ _) | (with_reducible refine Kd.C_drew ?_))); (case aB => exact (by repeat (first | (with_reducible first | exact HB.out | apply below_alloc | apply pw_below_drewN | apply below_drew1) | exact HB.out))); (case aF => exact (fun _ _ => trivial)); (case aO => exact (by (with_reducible repeat (first | apply Kd.R_alloc | apply Kd.R_drewN | apply Kd.R_drew)); exact HO144.out)); (case aS => exact (below_size (by repeat (first | (with_reducible first | exact HB.out | apply below_alloc | apply pw_below_drewN | apply below_drew1) | exact HB.out)))); (case aL => have := HM.out; simp; omega); intro v146 w5 ho hb hg hat; rw [List.nil_append] at ho; have n0_ := Aside0.mk (hb); have n1_ := Aside0.mk (ho); clear HB; clear HO144; have HB := n0_; have HO147 := n1_; clear n0_ n1_; clear ho hb hg hat))
  go_ret
  obtain ⟨g, cap, hv, h1, h2, h3, h4⟩ := own_rowL HO147.out H0.out
  exact ⟨g, cap, congrArg Ending.returned hv, h1, h2, h3, hv ▸ HO147.out, HB.out⟩
def eqAt (S : List S47) (j : Nat) : Bool := match S[j]?, S[j - 1]? with | some x, some y => seq x.f0 y.f0 | _, _ => false
def dupL (S : List S47) : Prop := ∃ j, 1 ≤ j ∧ j < S.length ∧ eqAt S j = true
def Made (w : World) (S : List S47) (e : Ending) (w' : World) : Prop :=
  Below w.heap.size w w' ∧
  ((dupL S ∧ e = .returned (.tuple #[.slice none 0 0, .int .i64 8])) ∨
   (¬ dupL S ∧ 16 < S.length ∧ e = .returned (.tuple #[.slice none 0 0, .int .i64 6])) ∨
   (¬ dupL S ∧ S.length ≤ 16 ∧ ∃ g cap, e = .returned (.tuple #[.slice (some ⟨g, 0, none⟩) S.length cap, .int .i64 0]) ∧ S.length ≤ cap ∧ w.heap.size ≤ g ∧ RowL w' g S))
set_option maxHeartbeats 2000000 in
set_option maxRecDepth 100000 in
theorem make_calls (Q : List S47 → Prop) (ad : Addr) (c : Nat) (l : List S47) (w : World) (hr : Kd.C k47 w (some ad) l.length l) (h0 : 0 < l.length) (hm : l.length < 1000)
    (hsz : ∀ x ∈ l, x.f0.size < 4611686018427387904 ∧ x.f1.size < 4611686018427387904) (hgood : l.any badL = false)
    (hs : ∀ (g cap : Nat) (W : World), RowL W g l → Calls Tryz.prog 40 #[.slice (some ⟨g, 0, none⟩) l.length cap, .func (.func 41) #[] #[]] W fun e w' => e = .returned (.tuple #[]) ∧ ∃ S, Q S ∧ S.length = l.length ∧ RowL w' g S ∧ Frm (fun k => k = g) W w') :
    Calls Tryz.prog 12 #[.slice (some ad) l.length c] w fun e w' => ∃ S, Q S ∧ S.length = l.length ∧ Made w S e w' := by
  have HC := Aside0.mk (contains_calls (some ad) c l hsz w hr)
  rw [hgood] at HC
  have HR := Aside0.mk hr; have H0 := Aside0.mk h0; have HM := Aside0.mk hm; have HS := Aside0.mk hs
  clear hr h0 hsz hgood hs
  go_enter Tryz.func12, Tryz.ntmps12
  go_wp2_with fail
  refine (HC.out).mono ?_
  rintro e w1 ⟨rfl, hb1⟩
  have HB1 := Aside0.mk hb1
  clear hb1
  go_wp2_with fail
  refine (clone_calls ad c l w1 (Kd.C_below HR.out HB1.out) H0.out (by have := HM.out; omega)).mono ?_
  rintro e w2 ⟨g, cap, rfl, hcap, hg, hrow, -, hb2⟩
  have HB2 := Aside0.mk (below_step HB1.out hb2); have HCAP := Aside0.mk hcap; have HROW := Aside0.mk hrow
  have HG : Aside0 (w.heap.size ≤ g) := ⟨Nat.le_trans HB1.out.size hg⟩
  clear hb2 hcap hrow hg
  go_wp2_with fail
  refine (HS.out g cap w2 HROW.out).mono ?_
  rintro e w3 ⟨rfl, S, hq, hsl, hrow3, hf3⟩
  have HQ := Aside0.mk hq; have HSL := Aside0.mk hsl; have HROW3 := Aside0.mk hrow3
  have HB3 : Aside0 (Below w.heap.size w w3) := ⟨by
    have h1 := hf3.below (B := w.heap.size) (fun k hk => by rw [hk]; exact HG.out) (HB2.out.size)
    exact ⟨h1.os.trans HB2.out.os, h1.tape.trans HB2.out.tape, h1.output.trans HB2.out.output, Nat.le_trans HB2.out.size h1.size, fun i hi => (h1.block i hi).trans (HB2.out.block i hi)⟩⟩
  clear hq hsl hrow3 hf3 HROW HB1 HB2
  obtain ⟨n, hn⟩ : ∃ n, n = l.length := ⟨_, rfl⟩
  have HN := Aside0.mk hn
  rw [← hn] at HSL hm
  rw [← hn]
  clear hn
  go_wp2_with fail
  go_loopw [4] (fun i wr => ∃ k : Nat, 1 ≤ k ∧ i = .int .i64 k ∧ Aside0 (k ≤ n ∨ k = 1) ∧ Aside0 (∀ j, 1 ≤ j → j < k → eqAt S j = false) ∧ Aside0 (Below w3.heap.size w3 wr)) (fun i _ => n - (intOf i).toNat)
  case atStart => exact ⟨1, Nat.le_refl _, rfl, ⟨.inr rfl⟩, ⟨fun j h1 h2 => by omega⟩, ⟨Below.refl _ _⟩⟩
  case round =>
    obtain ⟨k, hk, rfl, HK, HE, HB⟩ := hrel
    by_cases hlt : k < n
    · obtain ⟨q, rfl⟩ : ∃ q, k = q + 1 := ⟨k - 1, by omega⟩
      have hrow := HROW3.out.below HB.out
      have hq1 : q + 1 < S.length := by have := HSL.out; omega
      have hc1 := hrow.cell2 hq1
      have hc0 := hrow.cell2 (i := q) (by omega)
      obtain ⟨x, hx⟩ : ∃ x, x = S[q + 1].f0 := ⟨_, rfl⟩
      obtain ⟨y, hy⟩ : ∃ y, y = S[q].f0 := ⟨_, rfl⟩
      have c10 := hc1.1
      have c00 := hc0.1
      rw [← hx] at c10
      rw [← hy] at c00
      have HEQ : Aside0 (eqAt S (q + 1) = (x.toList == y.toList)) := ⟨by
        unfold eqAt
        rw [Nat.add_sub_cancel, List.getElem?_eq_getElem hq1, List.getElem?_eq_getElem (by omega : q < S.length), hx, hy]; rfl⟩
      clear hc1 hc0 hx hy
      have hew : IntKind.i64.wrap (q : Int) = (q : Int) := IntWalk.i64_in _ (by omega)
      have hg0 : (0 : Int) ≤ (q : Int) := by omega
      have hlti : (q : Int) + 1 < (n : Int) := by omega
      have hlt0 : (q : Int) < (n : Int) := by omega
      have hge1 : (0 : Int) ≤ (q : Int) + 1 := by omega
      have HLT := Aside0.mk hlt
      have HLS := Aside0.mk hq1
      clear hrow hlt hk hq1
      cases hb : (x.toList == y.toList)
      · have HEQ0 := Aside0.mk (HEQ.out.trans hb)
        have hb2 : ¬ x.toList = y.toList := by simpa using hb
        go_upto_region 8 with (fail)
        go_quiet (fail)
        go_wp2_with fail
        go_roundw
        case rel => exact ⟨q + 2, by omega, by go_num, ⟨.inl (by have := HLT.out; omega)⟩, ⟨fun j h1 h2 => by
          rcases Nat.lt_or_ge j (q + 1) with h | h
          · exact HE.out j h1 h
          · obtain rfl : j = q + 1 := by omega
            exact HEQ0.out⟩, ⟨pw_below_drewN HB.out _⟩⟩
        case measure => (have := HLT.out; simp [intOf]; try omega)
      · have HEQ0 := Aside0.mk (HEQ.out.trans hb)
        have hb2 : x.toList = y.toList := by simpa using hb
        go_upto_region 8 with (fail)
        go_quiet (fail)
        go_wp2_with fail
        go_ret2
        refine ⟨S, HQ.out, by rw [HSL.out, HN.out], below_then HB3.out HB3.out.size (pw_below_drewN HB.out _), .inl ⟨⟨q + 1, by omega, HLS.out, HEQ0.out⟩, rfl⟩⟩
    · have hkf : ¬ ((k : Int) < (n : Int)) := by omega
      have ekf : decide ((k : Int) < (n : Int)) = false := decide_eq_false hkf
      have HND : Aside0 (¬ dupL S) := ⟨fun ⟨j, h1, h2, h3⟩ => by
        have h4 := HE.out j h1 (by have := HSL.out; omega)
        rw [h4] at h3; exact absurd h3 (by simp)⟩
      clear hlt
      by_cases h16 : 16 < n
      · have h16i : (16 : Int) < (n : Int) := by omega
        have H16 := Aside0.mk h16
        go_wp2_with fail
        go_ret2
        exact ⟨S, HQ.out, by rw [HSL.out, HN.out], below_then HB3.out HB3.out.size HB.out, .inr (.inl ⟨HND.out, by rw [HSL.out]; exact H16.out, rfl⟩)⟩
      · have h16i : ¬ (16 : Int) < (n : Int) := by omega
        have e16 : decide ((16 : Int) < (n : Int)) = false := decide_eq_false h16i
        have H16 := Aside0.mk h16
        go_wp2_with fail
        go_ret2
        refine ⟨S, HQ.out, by rw [HSL.out, HN.out], below_then HB3.out HB3.out.size HB.out, .inr (.inr ⟨HND.out, by have := HSL.out; have := H16.out; omega, g, cap, ?_, by rw [HSL.out, HN.out]; exact HCAP.out, HG.out, HROW3.out.below HB.out⟩)⟩
        rw [HSL.out]; rfl
set_option maxHeartbeats 1000000 in
theorem make_bad_calls (ad : Addr) (c : Nat) (l : List S47) (w : World) (hr : Kd.C k47 w (some ad) l.length l)
    (hsz : ∀ x ∈ l, x.f0.size < 4611686018427387904 ∧ x.f1.size < 4611686018427387904) (hbad : l.any badL = true) :
    Calls Tryz.prog 12 #[.slice (some ad) l.length c] w fun e w' => e = .returned (.tuple #[.slice none 0 0, .int .i64 90]) ∧ Below w.heap.size w w' := by
  have HC := Aside0.mk (contains_calls (some ad) c l hsz w hr)
  rw [hbad] at HC
  clear hr hsz hbad
  go_enter Tryz.func12, Tryz.ntmps12
  go_wp2_with fail
  refine (HC.out).mono ?_
  rintro e w1 ⟨rfl, hb1⟩
  have HB1 := Aside0.mk hb1
  clear hb1
  go_wp2_with fail
  go_ret2
  exact ⟨rfl, HB1.out⟩
end Go.Proofs.YtjhgckpcadngaaaGreatK
