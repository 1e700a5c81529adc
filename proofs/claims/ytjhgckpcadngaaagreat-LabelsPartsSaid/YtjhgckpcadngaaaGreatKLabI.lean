/- Labels: strings.byteStringReplacer.Replace walked: what is escaped. -/
import Derived.Test.YtjhgckpcadngaaaGreatPLAx0
import Derived.Test.YtjhgckpcadngaaaGreatPLAx1
import Derived.Test.YtjhgckpcadngaaaGreatPLAx2
import Derived.Test.YtjhgckpcadngaaaGreatPLAx3
import Derived.Test.YtjhgckpcadngaaaGreatKFlow3
import Derived.Test.YtjhgckpcadngaaaGreatKEv
import Derived.Test.YtjhgckpcadngaaaGreatKOpen
import Derived.Lib.SlBytesConst
import Derived.Lib.Bytes
import Derived.Deep.RegionWith
import Derived.Deep.QuietTactic
import Derived.Deep.RegionHeld3
import Derived.BigQuiet
import Derived.Outline
import Derived.Deep.WholeRow
import Derived.Lib.SliceRun
import Derived.Lib.LazyBuf
import Derived.Lib.ConvBytes
import Derived.Laws.CopyOwn
import Derived.Lib.Strings
import Derived.Lib.Slices
import Derived.Lib.Walk
import Derived.Lib.Bytealg
import Derived.Tactics
import Derived.Tactics2
import Derived.Defers
import Derived.Laws.Pointers
import Derived.Laws.LoneSync
import Derived.RegionTactic
import Derived.RegionCalls
import Derived.ChangeAlike
import Derived.Test.YtjhgckpcadngaaaGreatKLabA
import Derived.Test.YtjhgckpcadngaaaGreatKLabB
import Derived.Test.YtjhgckpcadngaaaGreatKLabC
import Derived.Test.YtjhgckpcadngaaaGreatKFrm
import Derived.Test.YtjhgckpcadngaaaGreatKSrt
import Derived.Test.YtjhgckpcadngaaaGreatKSrtN
import Derived.Test.YtjhgckpcadngaaaGreatKLabF
import Derived.Test.YtjhgckpcadngaaaGreatKLabG
import Derived.Test.YtjhgckpcadngaaaGreatKLabH
import Derived.Test.YtjhgckpcadngaaaGreatKLabE
namespace Go.Proofs.YtjhgckpcadngaaaGreatK
open Go.RowKit Go.Proofs.YtjhgckpcadngaaaGreatW.PrintWords Go.Proofs.YtjhgckpcadngaaaGreatW.PrintLast Go.Proofs.YtjhgckpcadngaaaGreatW.PrintMore
open Go.Proofs.YtjhgckpcadngaaaGreat.PLA Go.Proofs.YtjhgckpcadngaaaGreat Go.Proofs.YtjhgckpcadngaaaGreatSrt
attribute [local go_sem] max2_int min2_int max_two min_two max_three min_three max_four min_four
set_option linter.unusedVariables false
set_option linter.unusedSimpArgs false
def isE (b : UInt8) : Bool := b == 34 || b == 92
def escL (l : List UInt8) : List UInt8 := l.flatMap (fun b => if isE b then [92, b] else [b])
def esc (s : ByteArray) : ByteArray := ⟨(escL s.data.toList).toArray⟩
def cntE (l : List UInt8) : Nat := l.countP isE
theorem escL_length : ∀ l : List UInt8, (escL l).length = l.length + cntE l
  | [] => rfl
  | b :: l => by
    have ih := escL_length l
    unfold escL cntE at *
    rw [List.flatMap_cons, List.length_append, ih, List.countP_cons, List.length_cons]
    cases isE b <;> simp <;> omega
theorem escL_none : ∀ l : List UInt8, cntE l = 0 → escL l = l
  | [], _ => rfl
  | b :: l, h => by
    unfold cntE at h
    rw [List.countP_cons] at h
    have hb : isE b = false := by cases hb : isE b; rfl; rw [hb] at h; simp at h
    have ih := escL_none l (by unfold cntE; omega)
    unfold escL at *
    rw [List.flatMap_cons, ih, hb]; rfl
theorem cntE_eq : ∀ l : List UInt8, cntE l = Lib.countByte l 34 + Lib.countByte l 92
  | [] => rfl
  | b :: l => by
    have ih := cntE_eq l
    unfold cntE Lib.countByte at *
    rw [List.countP_cons, List.count_cons, List.count_cons, ih]
    unfold isE
    by_cases h1 : b = 34
    · subst h1; simp; omega
    · by_cases h2 : b = 92
      · subst h2; simp; omega
      · have e1 : (b == 34) = false := beq_eq_false_iff_ne.2 h1
        have e2 : (b == 92) = false := beq_eq_false_iff_ne.2 h2
        simp [e1, e2]
theorem escL_snoc (l : List UInt8) (b : UInt8) : escL (l ++ [b]) = escL l ++ (if isE b then [92, b] else [b]) := by
  unfold escL; rw [List.flatMap_append]; simp
theorem cntE_snoc (l : List UInt8) (b : UInt8) : cntE (l ++ [b]) = cntE l + (if isE b then 1 else 0) := by
  unfold cntE; rw [List.countP_append]; simp [List.countP_cons]
theorem cntE_le (l : List UInt8) : cntE l ≤ l.length := List.countP_le_length
theorem byte_at (s : ByteArray) (i : Nat) (hi : i < s.size) : ∃ b : UInt8, s.data.toList[i]? = some b ∧ (∀ h, s[i]'h = b) ∧ s.data.toList.take (i + 1) = s.data.toList.take i ++ [b] := by
  have hl : i < s.data.toList.length := by rw [← Lib.size_eq]; exact hi
  refine ⟨s.data.toList[i], List.getElem?_eq_getElem hl, fun h => ?_, (List.take_succ_eq_append_getElem hl)⟩
  show s.data[i] = _
  simp
theorem two_bytes {w : World} {g : Nat} {x y : Int} (h0 : w.cell? ⟨g, 0, none⟩ = some (.int .u8 x)) (h1 : w.cell? ⟨g, 1, none⟩ = some (.int .u8 y)) : Kd.C (Kd.int .u8) w (some ⟨g, 0, none⟩) 2 [x, y] := by
  refine ⟨rfl, by decide, fun _ => ⟨_, rfl, fun j p hj => ?_⟩⟩
  have hjl := (List.getElem?_eq_some_iff.1 hj).1
  refine ⟨[.int .u8 p], rfl, rfl, fun i u hu => ?_⟩
  have hil := (List.getElem?_eq_some_iff.1 hu).1
  have hi0 : i = 0 := by simp at hil; omega
  subst hi0
  have hu2 : Value.int .u8 p = u := by simpa using hu
  subst hu2
  rw [add_plain]
  have hj2 : j = 0 ∨ j = 1 := by simp at hjl; omega
  rcases hj2 with rfl | rfl
  · have : x = p := by simpa using hj
    subst this; exact h0
  · have : y = p := by simpa using hj
    subst this; exact h1
def nums (l : List UInt8) : List Int := l.map (fun b => (b.toNat : Int))
theorem nums_length (l : List UInt8) : (nums l).length = l.length := by simp [nums]
theorem put_two (E : List UInt8) (b : UInt8) (N j : Nat) (hj : j = E.length) (h : j + 2 ≤ N) : (nums E ++ zeros (N - j)).take j ++ ([92, (b.toNat : Int)] ++ (nums E ++ zeros (N - j)).drop (j + 2)) = nums (E ++ [92, b]) ++ zeros (N - (j + 2)) := by
  have h1 : (nums E).length = j := by rw [nums_length, hj]
  rw [List.take_append_of_le_length (by omega), List.take_of_length_le (by omega), List.drop_append, List.drop_of_length_le (by omega), h1]
  simp only [nums, zeros, List.map_append, List.drop_replicate, List.append_assoc, List.nil_append, List.map_cons, List.map_nil, List.cons_append]
  rw [show N - j - (j + 2 - j) = N - (j + 2) by omega]
  rfl
theorem put_one (E : List UInt8) (N j : Nat) (h : j + 1 ≤ N) : nums E ++ zeros (N - j) = nums E ++ 0 :: zeros (N - (j + 1)) := by
  rw [show N - j = (N - (j + 1)) + 1 by omega]; rfl
def nums0 (l : List UInt8) : List Int := l.map (fun b => (b.toNat : Int))
theorem blk_put {W : World} {g : Nat} {a b : List Int} {x y : Int} (h : Blk W g (a ++ y :: b)) : Blk (W.setCell ⟨g, a.length, none⟩ (.int .u8 x)) g (a ++ x :: b) := by
  unfold Blk at *
  have := blk_set h a.length (.int .u8 x)
  rw [this]
  congr 2
  apply Array.ext'
  simp
theorem blk_cell_at {W : World} {g : Nat} {l : List Int} (h : Blk W g l) {i : Nat} {x : Int} (hx : l[i]? = some x) : W.cell? ⟨g, i, none⟩ = some (.int .u8 x) := by
  unfold Blk at h
  rw [blk_cell h]
  simp [hx]
set_option maxHeartbeats 2000000 in
set_option maxRecDepth 100000 in
theorem repl_calls (s : ByteArray) (hs : s.size ≤ 1000000) (w : World) (R b0 : Nat) (hbs : BSR w R b0) :
    Calls Tryz.prog 138 #[.pointer (some ⟨R, 0, none⟩), .string s] w fun e w' => e = .returned (.string (esc s)) ∧ Below w.heap.size w w' := by
  obtain ⟨Z, n1, c1, n2, c2, ga, c, -, h1, h2, h3, h4, h5, h6, h7, ⟨h8, h9⟩, ⟨h10, h11⟩, h12, h13⟩ := hbs
  have t0 : w.cell? ⟨ga, 0, none⟩ = some (.string ⟨#[34]⟩) := by have h := lstr_at h13 0 (by decide); rw [add_plain] at h; exact h
  have t1 : w.cell? ⟨ga, 1, none⟩ = some (.string ⟨#[92]⟩) := by have h := lstr_at h13 1 (by decide); rw [add_plain] at h; exact h
  have k256 : w.cell? ⟨R, 256, none⟩ = some (.slice (some ⟨ga, 0, none⟩) 2 c) := by rw [blk_cell h1]; exact h2
  have k34 : w.cell? ⟨R, 34, none⟩ = some (.slice (some ⟨n1, 0, none⟩) 2 c1) := by rw [blk_cell h1]; exact h3
  have k92 : w.cell? ⟨R, 92, none⟩ = some (.slice (some ⟨n2, 0, none⟩) 2 c2) := by rw [blk_cell h1]; exact h4
  have HK : Aside0 (∀ k, k < 256 → k ≠ 34 → k ≠ 92 → w.cell? ⟨R, k, none⟩ = some (.slice none 0 0)) := ⟨fun k a b c => by rw [blk_cell h1]; exact h5 k a b c⟩
  have HE : Aside0 (∀ b : UInt8, isE b = true → ∃ nn cc, 2 ≤ cc ∧ w.cell? ⟨R, b.toNat, none⟩ = some (.slice (some ⟨nn, 0, none⟩) 2 cc) ∧ Kd.C (Kd.int .u8) w (some ⟨nn, 0, none⟩) 2 [92, (b.toNat : Int)]) := ⟨fun b hb => by
    unfold isE at hb
    rcases Bool.or_eq_true _ _ ▸ hb with h | h
    · obtain rfl : b = 34 := by simpa using h
      exact ⟨n1, c1, h6, k34, two_bytes h8 h9⟩
    · obtain rfl : b = 92 := by simpa using h
      exact ⟨n2, c2, h7, k92, two_bytes h10 h11⟩⟩
  have HN : Aside0 (2 ≤ c1 ∧ 2 ≤ c2 ∧ 2 ≤ c) := ⟨h6, h7, h12⟩
  clear h1 h2 h3 h4 h5 h8 h9 h10 h11 h13
  obtain ⟨n, hn⟩ : ∃ n, n = s.size := ⟨_, rfl⟩
  obtain ⟨K, hK⟩ : ∃ K, K = cntE s.data.toList := ⟨_, rfl⟩
  have hKn : K ≤ n := by rw [hK, hn, Lib.size_eq]; exact cntE_le _
  have HNE := Aside0.mk hn; have HKE := Aside0.mk hK
  obtain ⟨kb, hkb⟩ : ∃ x, x = decide (0 < K) := ⟨_, rfl⟩
  have HKB := Aside0.mk hkb
  have q73 : ∀ (w : World) (a : Option Addr) (n c n' c' : Nat), (binOp .eql 73 (.slice a n c) (.slice none n' c')).run Tryz.prog w = .ok (.bool a.isNone) w := fun w a n c n' c' => Lib.run_eql_slice_nil w _ _ a n c n' c' Tryz.underlying73
  have q73n : ∀ (w : World) (a : Option Addr) (n c : Nat), (binOp .neq 73 (.slice a n c) (.slice none 0 0)).run Tryz.prog w = .ok (.bool a.isSome) w := fun w a n c => by rw [run_neq_slice_nil w 73 5 a n c Tryz.underlying73]; cases a <;> rfl
  clear hK hkb
  have hns : (s.size : Int) = (n : Int) := by omega
  have hn6 : n ≤ 1000000 := by omega
  clear hn hs
  obtain ⟨bb, hbb⟩ : ∃ x, decide ((16 : Int) ≤ (n : Int)) = x := ⟨_, rfl⟩
  obtain ⟨k1, hk1⟩ : ∃ x, x = Lib.countByte s.data.toList 34 := ⟨_, rfl⟩
  obtain ⟨k2, hk2⟩ : ∃ x, x = Lib.countByte s.data.toList 92 := ⟨_, rfl⟩
  have HKK : Aside0 (K = k1 + k2) := ⟨by rw [HKE.out, hk1, hk2]; exact cntE_eq _⟩
  have hk1b : k1 ≤ n := by have := HKK.out; omega
  have hk2b : k2 ≤ n := by have := HKK.out; omega
  have hkkb : k1 + k2 ≤ n := by have := HKK.out; omega
  have HC1 : Aside0 (∀ w, Calls Tryz.prog 140 #[.string s, .string ⟨#[34]⟩] w fun e w' => e = .returned (.int .i64 k1) ∧ w' = w) := ⟨fun w => by rw [hk1]; exact Tryz.countS_calls s 34 w⟩
  have HC2 : Aside0 (∀ w, Calls Tryz.prog 140 #[.string s, .string ⟨#[92]⟩] w fun e w' => e = .returned (.int .i64 k2) ∧ w' = w) := ⟨fun w => by rw [hk2]; exact Tryz.countS_calls s 92 w⟩
  clear hk1 hk2
  have e34 : ∀ h, ((⟨#[34]⟩ : ByteArray)[0]'h).toNat = 34 := fun _ => rfl
  have e92 : ∀ h, ((⟨#[92]⟩ : ByteArray)[0]'h).toNat = 92 := fun _ => rfl
  have HBB := Aside0.mk hbb
  go_enter Tryz.func138, Tryz.ntmps138
  go_upto_if 26 with (fail)
  go_cut [5, 6] from 27 (fun s5 s6 wx => s5 = .int .i64 ((n : Int) + (K : Int)) ∧ s6 = .bool kb ∧ Aside0 (Below w.heap.size w wx))
  case first =>
    clear hbb
    cases bb with
    | true =>
      go_wp2_with fail
      refine wp_loop_rounds 3 ?_
      rw [rounds_succ]
      go_wp2_with fail
      refine (HC1.out _).mono ?_
      rintro e w' ⟨rfl, rfl⟩
      by_cases hz1 : k1 = 0
      · have hz1i : (k1 : Int) = 0 := by omega
        have hz1b : ((k1 : Int) != 0) = false := by rw [hz1i]; rfl
        go_wp2_with fail
        rw [rounds_succ]
        go_wp2_with fail
        refine (HC2.out _).mono ?_
        rintro e w' ⟨rfl, rfl⟩
        by_cases hz2 : k2 = 0
        · have hz2i : (k2 : Int) = 0 := by omega
          have hz2b : ((k2 : Int) != 0) = false := by rw [hz2i]; rfl
          go_wp2_with fail
          rw [rounds_succ]
          go_wp2_with fail
          all_goals (go_meet; (have hkk := HKK.out; exact ⟨by rw [Value.int.injEq]; exact ⟨rfl, by omega⟩, by rw [HKB.out, decide_eq_false (by omega)], ⟨by repeat (first | exact Below.refl _ _ | apply pw_below_drewN | apply below_drew)⟩⟩))
        · have hz2i : ¬ (k2 : Int) = 0 := by omega
          have hz2b : ((k2 : Int) != 0) = true := bne_iff_ne.2 hz2i
          go_upto_region 9 with (fail)
          go_quiet (fail)
          go_wp2_with fail
          rw [rounds_succ]
          go_wp2_with fail
          all_goals (go_meet; (have hkk := HKK.out; exact ⟨by rw [Value.int.injEq]; exact ⟨rfl, by omega⟩, by rw [HKB.out, decide_eq_true (by omega)], ⟨by repeat (first | exact Below.refl _ _ | apply pw_below_drewN | apply below_drew)⟩⟩))
      · have hz1i : ¬ (k1 : Int) = 0 := by omega
        have hz1b : ((k1 : Int) != 0) = true := bne_iff_ne.2 hz1i
        go_upto_region 9 with (fail)
        go_quiet (fail)
        go_wp2_with fail
        rw [rounds_succ]
        go_wp2_with fail
        refine (HC2.out _).mono ?_
        rintro e w' ⟨rfl, rfl⟩
        by_cases hz2 : k2 = 0
        · have hz2i : (k2 : Int) = 0 := by omega
          have hz2b : ((k2 : Int) != 0) = false := by rw [hz2i]; rfl
          go_wp2_with fail
          rw [rounds_succ]
          go_wp2_with fail
          all_goals (go_meet; (have hkk := HKK.out; exact ⟨by rw [Value.int.injEq]; exact ⟨rfl, by omega⟩, by rw [HKB.out, decide_eq_true (by omega)], ⟨by repeat (first | exact Below.refl _ _ | apply pw_below_drewN | apply below_drew)⟩⟩))
        · have hz2i : ¬ (k2 : Int) = 0 := by omega
          have hz2b : ((k2 : Int) != 0) = true := bne_iff_ne.2 hz2i
          go_upto_region 9 with (fail)
          go_quiet (fail)
          go_wp2_with fail
          rw [rounds_succ]
          go_wp2_with fail
          all_goals (go_meet; (have hkk := HKK.out; exact ⟨by rw [Value.int.injEq]; exact ⟨rfl, by omega⟩, by rw [HKB.out, decide_eq_true (by omega)], ⟨by repeat (first | exact Below.refl _ _ | apply pw_below_drewN | apply below_drew)⟩⟩))
    | false =>
      go_wp2_with fail
      go_loopw [5, 6, 10, 11] (fun x5 x6 x10 x11 wx => ∃ (i m : Nat) (bm : Bool), i ≤ n ∧ m ≤ i ∧ x5 = .int .i64 ((n : Int) + (m : Int)) ∧ x6 = .bool bm ∧ x10 = .int .i64 i ∧ Aside0 (m = cntE (s.data.toList.take i) ∧ bm = decide (0 < m)) ∧ wx = w) (fun _ _ x _ _ => n - (intOf x).toNat)
      case atStart => exact ⟨0, 0, false, Nat.zero_le _, Nat.le_refl _, by simp, rfl, rfl, ⟨by simp [cntE], rfl⟩, rfl⟩
      case round =>
        obtain ⟨i, m, bm, hin, hmi, rfl, rfl, rfl, HM, rfl⟩ := hrel
        by_cases hlt : i < n
        · have hlti : (i : Int) < (n : Int) := by omega
          obtain ⟨b, hb1, hb2, hb3⟩ := byte_at s i (by rw [← HNE.out]; exact hlt)
          have hbl : ((b.toNat : Nat) : Int) < 256 := by have := b.toNat_lt; omega
          have hb0 : (0 : Int) ≤ ((b.toNat : Nat) : Int) := by omega
          have HB3 := Aside0.mk hb3; have HLT := Aside0.mk hlt
          clear hb1 hb3 hlt
          cases hbe : isE b with
          | true =>
            obtain ⟨nn, cc, hcc, hcell, -⟩ := HE.out b hbe
            have HX : Aside0 (m + 1 = cntE (s.data.toList.take (i + 1))) := ⟨by rw [HB3.out, cntE_snoc, hbe, HM.out.1]; rfl⟩
            clear hbe
            go_wp2_with fail
            go_roundw
            case rel => exact ⟨i + 1, m + 1, true, by have := HLT.out; omega, by omega, by rw [Value.int.injEq]; exact ⟨rfl, by omega⟩, rfl, by go_num, ⟨HX.out, (decide_eq_true (by omega)).symm⟩, trivial⟩
            case measure => (have := HLT.out; simp [intOf]; try omega)
          | false =>
            have hcell : wr.cell? ⟨R, b.toNat, none⟩ = some (.slice none 0 0) := HK.out b.toNat b.toNat_lt (fun e => by unfold isE at hbe; have : b = 34 := UInt8.toNat_inj.1 e; subst this; simp at hbe) (fun e => by unfold isE at hbe; have : b = 92 := UInt8.toNat_inj.1 e; subst this; simp at hbe)
            have HX : Aside0 (m = cntE (s.data.toList.take (i + 1))) := ⟨by rw [HB3.out, cntE_snoc, hbe, HM.out.1]; rfl⟩
            clear hbe
            go_wp2_with fail
            go_roundw
            case rel => exact ⟨i + 1, m, bm, by have := HLT.out; omega, by omega, rfl, rfl, by go_num, ⟨HX.out, HM.out.2⟩, trivial⟩
            case measure => (have := HLT.out; simp [intOf]; try omega)
        · have hlti : ¬ (i : Int) < (n : Int) := by omega
          have hdf : decide ((i : Int) < (n : Int)) = false := decide_eq_false hlti
          have HX : Aside0 (m = K) := ⟨by
            have hi : i = n := by omega
            rw [HM.out.1, HKE.out, hi, HNE.out, Lib.size_eq, List.take_length]⟩
          go_wp2_with fail
          all_goals (go_meet; exact ⟨by rw [HX.out], by rw [HM.out.2, HKB.out, HX.out], ⟨Below.refl _ _⟩⟩)
  case rest =>
    obtain ⟨rfl, rfl, HBW⟩ := hcut
    obtain ⟨W0, hW0⟩ : ∃ W, W = wc := ⟨_, rfl⟩
    rw [← hW0] at HBW ⊢
    clear hW0 t0 t1 k256 k34 k92
    cases kb with
    | false =>
      have hK0 : K = 0 := by have := of_decide_eq_false HKB.out.symm; omega
      have HESC : Aside0 (esc s = s) := ⟨by unfold esc; rw [escL_none _ (by rw [← HKE.out]; exact hK0)]⟩
      go_wp2_with fail
      go_ret
      exact ⟨by rw [HESC.out]; rfl, HBW.out⟩
    | true =>
      obtain ⟨N, hN⟩ : ∃ N, N = n + K := ⟨_, rfl⟩
      have hNi : (n : Int) + (K : Int) = (N : Int) := by omega
      rw [hNi]
      have hmk : ∀ W : World, (Instr.makeSlice 73 (.int .i64 (N : Int)) (.int .i64 (N : Int))).run Tryz.prog W = .ok (.slice (some ⟨W.heap.size, 0, none⟩) N N) (W.alloc (.cells ((zeros N).map (.int .u8)).toArray 5)) := fun W => make_bytes W N (by omega)
      obtain ⟨W1, hW1⟩ : ∃ W1, W1 = W0.alloc (.cells ((zeros N).map (.int .u8)).toArray 5) := ⟨_, rfl⟩
      obtain ⟨g, hg⟩ : ∃ g, g = W0.heap.size := ⟨_, rfl⟩
      have HBLK : Aside0 (Blk W1 g (zeros N)) := ⟨by rw [hW1, hg]; exact blk_new W0 _⟩
      have HB1 : Aside0 (Below g W0 W1) := ⟨by rw [hW1, hg]; exact below_alloc (Below.refl _ _) _⟩
      have HWW : Aside0 (Below w.heap.size w W1) := ⟨by rw [hW1]; exact below_alloc HBW.out _⟩
      have HGS : Aside0 (w.heap.size ≤ g) := ⟨by rw [hg]; exact HBW.out.size⟩
      have HLEN : Aside0 ((escL s.data.toList).length = N) := ⟨by rw [escL_length, ← Lib.size_eq, ← HNE.out, ← HKE.out, hN]⟩
      have hNb : N ≤ 2000000 := by omega
      have HW1 := Aside0.mk hW1; have HG := Aside0.mk hg; have HNN := Aside0.mk hN
      clear hW1 hg hN
      go_upto_region 22 with (fail)
      rw [← HW1.out, ← HG.out]
      clear hmk
      go_wp2_with fail
      go_loopw [13, 14, 15] (fun x13 x14 _ wx => ∃ (i j : Nat), i ≤ n ∧ j ≤ N ∧ x13 = .int .i64 j ∧ x14 = .int .i64 i ∧ Aside0 (j = (escL (s.data.toList.take i)).length ∧ Blk wx g (nums (escL (s.data.toList.take i)) ++ zeros (N - j))) ∧ Aside0 (Below g W1 wx)) (fun _ x _ _ => n - (intOf x).toNat)
      case atStart => exact ⟨0, 0, Nat.zero_le _, Nat.zero_le _, rfl, rfl, ⟨rfl, HBLK.out⟩, ⟨Below.refl _ _⟩⟩
      case round =>
        obtain ⟨i, j, hin, hjN, rfl, rfl, HJ, HB⟩ := hrel
        have HWR : Aside0 (Below w.heap.size w wr) := ⟨by have h := HWW.out; have h2 := HB.out; exact ⟨h2.os.trans h.os, h2.tape.trans h.tape, h2.output.trans h.output, Nat.le_trans h.size h2.size, fun i hi => (h2.block i (by have := HGS.out; omega)).trans (h.block i hi)⟩⟩
        by_cases hlt : i < n
        · have hlti : (i : Int) < (n : Int) := by omega
          obtain ⟨b, hb1, hb2, hb3⟩ := byte_at s i (by rw [← HNE.out]; exact hlt)
          have hbl : ((b.toNat : Nat) : Int) < 256 := by have := b.toNat_lt; omega
          have hb0 : (0 : Int) ≤ ((b.toNat : Nat) : Int) := by omega
          have HB3 := Aside0.mk hb3; have HLT := Aside0.mk hlt
          clear hb1 hb3 hlt
          have HLE : Aside0 (∀ k, (escL (s.data.toList.take k)).length ≤ N) := ⟨fun k => by
            rw [escL_length, List.length_take, ← HLEN.out, escL_length]
            have := (List.take_sublist k s.data.toList).countP_le (p := isE)
            unfold cntE; omega⟩
          cases hbe : isE b with
          | true =>
            obtain ⟨nn, cc, hcc, hcell, hrow⟩ := HE.out b hbe
            have hcell := pw_cell_below HWR.out hcell
            have hrow := Kd.C_below hrow HWR.out
            have hnext : escL (s.data.toList.take (i + 1)) = escL (s.data.toList.take i) ++ [92, b] := by rw [HB3.out, escL_snoc, hbe]; rfl
            have hj2 : j + 2 ≤ N := by have := HLE.out (i + 1); rw [hnext, List.length_append, ← HJ.out.1] at this; exact this
            have hjl : (nums (escL (s.data.toList.take i)) ++ zeros (N - j)).length = N := by rw [List.length_append, nums_length, ← HJ.out.1]; simp [zeros]; omega
            obtain ⟨W', hcp, hblk, hbb⟩ := copy_bytes wr.drew g j (N - j) (N - j) (some ⟨nn, 0, none⟩) [92, (b.toNat : Int)] (nums (escL (s.data.toList.take i)) ++ zeros (N - j)) cc HJ.out.2 (Kd.C_below hrow (below_drew (Below.refl _ _))) (by show 2 ≤ N - j; omega) (by rw [hjl]; show j + 2 ≤ N; exact hj2)
            have hcp2 : (Builtin.copy_ #[73, 73] 3 #[.slice (some ⟨g, j, none⟩) (N - j) (N - j), .slice (some ⟨nn, 0, none⟩) 2 cc]).run Tryz.prog wr.drew = .ok (.int .i64 2) W' := hcp
            have HX : Aside0 (j + 2 = (escL (s.data.toList.take (i + 1))).length ∧ Blk W' g (nums (escL (s.data.toList.take (i + 1))) ++ zeros (N - (j + 2)))) := ⟨by rw [hnext, List.length_append, ← HJ.out.1]; rfl, by rw [hnext, ← put_two _ _ _ _ HJ.out.1 hj2]; exact hblk⟩
            have HBX : Aside0 (Below g W1 W') := ⟨HB.out.trans ⟨hbb.os, hbb.tape, hbb.output, hbb.size, hbb.block⟩⟩
            have hji : (j : Int) ≤ (N : Int) := by omega
            clear hbe hnext hjl hcp hblk hbb hrow
            go_upto_region 28 with (fail)
            go_region_with (fail)
            all_goals go_wp2_with fail
            all_goals go_roundw
            case rel => exact ⟨i + 1, j + 2, by have := HLT.out; omega, hj2, by go_num, by go_num, HX, HBX⟩
            case measure => (have := HLT.out; simp [intOf]; try omega)
          | false =>
            have hcell := pw_cell_below HWR.out (HK.out b.toNat b.toNat_lt (fun e => by unfold isE at hbe; have : b = 34 := UInt8.toNat_inj.1 e; subst this; simp at hbe) (fun e => by unfold isE at hbe; have : b = 92 := UInt8.toNat_inj.1 e; subst this; simp at hbe))
            have hnext : escL (s.data.toList.take (i + 1)) = escL (s.data.toList.take i) ++ [b] := by rw [HB3.out, escL_snoc, hbe]; rfl
            have hj2 : j + 1 ≤ N := by have := HLE.out (i + 1); rw [hnext, List.length_append, ← HJ.out.1] at this; exact this
            have hblk := HJ.out.2
            rw [put_one _ _ _ hj2] at hblk
            have hput := blk_put (x := (b.toNat : Int)) hblk
            rw [nums_length, ← HJ.out.1] at hput
            have g0 : wr.cell? ⟨g, j, none⟩ = some (.int .u8 0) := blk_cell_at hblk (by rw [List.getElem?_append_right (by rw [nums_length, ← HJ.out.1]; exact Nat.le_refl _), nums_length, ← HJ.out.1]; simp)
            have z0 : wr.frozen? ⟨g, j, none⟩ = false := by unfold Blk at hblk; exact blk_frozen hblk j
            have HX : Aside0 (j + 1 = (escL (s.data.toList.take (i + 1))).length ∧ Blk (wr.setCell ⟨g, j, none⟩ (.int .u8 (b.toNat : Int))) g (nums (escL (s.data.toList.take (i + 1))) ++ zeros (N - (j + 1)))) := ⟨by rw [hnext, List.length_append, ← HJ.out.1]; rfl, by rw [hnext]; simpa [nums, List.append_assoc] using hput⟩
            have HBX : Aside0 (Below g W1 (wr.setCell ⟨g, j, none⟩ (.int .u8 (b.toNat : Int)))) := ⟨HB.out.setCell (p := ⟨g, j, none⟩) (Nat.le_refl _) _⟩
            have hji : (j : Int) < (N : Int) := by omega
            clear hbe hnext hblk hput
            go_wp2_with fail
            go_roundw
            case rel => exact ⟨i + 1, j + 1, by have := HLT.out; omega, hj2, by go_num, by go_num, HX, HBX⟩
            case measure => (have := HLT.out; simp [intOf]; try omega)
        · have hlti : ¬ (i : Int) < (n : Int) := by omega
          have hdf : decide ((i : Int) < (n : Int)) = false := decide_eq_false hlti
          have hblk := HJ.out.2
          have hin2 : s.data.toList.take i = s.data.toList := by
            have hi : i = n := by omega
            rw [hi, HNE.out, Lib.size_eq, List.take_length]
          have hjN2 : j = N := by rw [HJ.out.1, hin2, HLEN.out]
          rw [hin2, hjN2, Nat.sub_self, show zeros 0 = [] from rfl, List.append_nil] at hblk
          have hcvt := run_convert_bytes_back (P := Tryz.prog) wr 73 9 5 ⟨g, 0, none⟩ N (escL s.data.toList) Tryz.underlying73 Tryz.underlying5 Tryz.underlying9 (fun k hk => by
            rw [add_plain]; exact blk_cell_at hblk (by simp [nums, List.getElem?_eq_getElem hk]))
          rw [HLEN.out] at hcvt
          clear hblk hin2
          go_wp2_with fail
          go_ret
          exact ⟨rfl, HWR.out⟩
end Go.Proofs.YtjhgckpcadngaaaGreatK
