/- DiskSafe, walked. -/
import Derived.Test.YteimienhaodfcaaKLive2
import Derived.Test.YteimienhaodfcaaKDSafe
import Derived.Test.YteimienhaodfcaaKMetaP
import Derived.Test.YteimienhaodfcaaKMetaT
import Derived.Test.YteimienhaodfcaaKFlow
import Derived.Test.YteimienhaodfcaaKClone
import Derived.Deep.QuietTactic
import Derived.BigQuiet
import Derived.Deep.RegionHeld3
import Derived.Lib.AppendZerosOnto
import Derived.Lib.SliceRun
import Derived.Lib.Walk
namespace Go.Proofs.YteimienhaodfcaaK
open Go.RowKit Go.Proofs.YteimienhaodfcaaW.PrintWords Go.Proofs.YteimienhaodfcaaW.PrintLast Go.Proofs.YteimienhaodfcaaW.PrintMore Go.Crc
open Go.ChangeMaps (setBlock)
attribute [local go_sem] max2_int min2_int max_two min_two
set_option linter.unusedVariables false
set_option linter.unusedSimpArgs false
variable {w w' : World} {X X' S : Nat → Prop} {d sb mb clock : Nat} {es : Array MapEntry} {safe : List Int} {D : Dk}

theorem rows1s {W : World} {A : Option Addr} {c b2 : Nat} {l : List Int} (hC : Kd.C (Kd.int .u8) W A l.length l) (hc : l.length ≤ c) (h2 : W.heap[b2]? = some (.cells #[.slice A l.length c] 33 (0, 0))) : Kd.C (Kd.slice 5 (Kd.int .u8)) W (some ⟨b2, 0, none⟩) 1 [l] := by
  refine ⟨rfl, by decide, fun _ => ⟨_, rfl, fun j p hj => ?_⟩⟩
  match j, hj with
  | 0, hj =>
    obtain rfl : l = p := by simpa using hj
    refine ⟨[.slice A l.length c], rfl, ⟨_, _, rfl, hc, hC⟩, fun i u hu => ?_⟩
    obtain ⟨rfl, rfl⟩ : i = 0 ∧ u = .slice A l.length c := by
      rcases i with _ | i
      · exact ⟨rfl, by simpa using hu.symm⟩
      · simp at hu
    rw [add_plain, blk_cell h2]; rfl
  | j + 1, hj => simp at hj
theorem one_str {W : World} {g t : Nat} {s : ByteArray} {fr : Nat × Nat} (h : W.heap[g]? = some (.cells #[.string s] t fr)) : Kd.C Kd.string W (some ⟨g, 0, none⟩) 1 [s] := by
  refine ⟨rfl, by decide, fun _ => ⟨_, rfl, fun j p hj => ?_⟩⟩
  match j, hj with
  | 0, hj =>
    obtain rfl : s = p := by simpa using hj
    refine ⟨[.string s], rfl, rfl, fun i u hu => ?_⟩
    obtain ⟨rfl, rfl⟩ : i = 0 ∧ u = .string s := by
      rcases i with _ | i
      · exact ⟨rfl, by simpa using hu.symm⟩
      · simp at hu
    rw [add_plain, cell_of_row W g _ _ t fr h]; rfl
  | j + 1, hj => simp at hj
theorem infoStr : (Try.prog.info? 9).map (fun i => (i.zero, i.size, i.bytes)) = some (some (.string ByteArray.empty), 1, 16) := by kernel_rfl
/-- The sectors' texts so far. -/
def texts (D : Dk) (k : Nat) : List ByteArray := (List.range k).map fun n => strOfNums (D.now n)
theorem texts_succ (D : Dk) (k : Nat) : texts D (k + 1) = texts D k ++ [strOfNums (D.now k)] := by unfold texts; rw [List.range_succ, List.map_append]; rfl
theorem texts_length (D : Dk) (k : Nat) : (texts D k).length = k := by unfold texts; rw [List.length_map, List.length_range]
theorem str_get {W : World} {A : Option Addr} {n : Nat} {xs : List ByteArray} (h : Kd.C Kd.string W A n xs) {i : Nat} {s : ByteArray} (hi : xs[i]? = some s) : ∃ ad, A = some ad ∧ W.cell? (ad.add i) = some (.string s) := by
  have hn := h.1
  have hlt := (List.getElem?_eq_some_iff.1 hi).1
  obtain ⟨ad, cs, hA, hlen, hK, hcell⟩ := Kd.C_get h ByteArray.empty (i : Int) (by omega) (by omega)
  rw [Int.toNat_natCast, List.getD_eq_getElem?_getD, hi, Option.getD_some] at hK
  rw [Int.toNat_natCast] at hcell
  refine ⟨ad, hA, ?_⟩
  have := hcell 0 (.string s) (by rw [show cs = [.string s] from hK]; rfl)
  rwa [show i * Kd.string.sz + 0 = i from Nat.mul_one i] at this
theorem byte_get {W : World} {A : Option Addr} {n : Nat} {xs : List Int} (h : Kd.C (Kd.int .u8) W A n xs) {i : Nat} (hi : i < n) : ∃ ad, A = some ad ∧ W.cell? (ad.add i) = some (.int .u8 (rd xs i)) := by
  have hn := h.1
  obtain ⟨ad, cs, hA, hlen, hK, hcell⟩ := Kd.C_get h 0 (i : Int) (by omega) (by omega)
  rw [Int.toNat_natCast] at hK hcell
  refine ⟨ad, hA, ?_⟩
  have := hcell 0 (.int .u8 (xs.getD i 0)) (by rw [show cs = [.int .u8 (xs.getD i 0)] from hK]; rfl)
  rw [show i * (Kd.int .u8).sz + 0 = i from Nat.mul_one i] at this
  unfold rd; rw [Int.toNat_natCast]; exact this
def SfA (w : World) (d : Nat) (wr : World) : Prop := ∃ X D, LX w wr X d D ∧ DSf.P16 D
def SfB (w : World) (d : Nat) (D : Dk) (wr : World) (v : Value) (k : Nat) : Prop := ∃ X, LX w wr X d D ∧ Kd.R Kd.string 9 wr w.heap.size (fun k => ¬ X k ∧ True) v (texts D k)
def SfC (w : World) (d : Nat) (D0 : Dk) (b0 : Nat) (v1 : Value) (wr : World) : Prop := ∃ X D, LX w wr X d D ∧ DSf.P16 D ∧ D.sec = D0.sec ∧ b0 ≤ wr.heap.size ∧ Kd.R Kd.string 9 wr w.heap.size (fun k => ¬ X k ∧ k < b0) v1 (texts D0 16)
def SfD (w : World) (d : Nat) (D0 : Dk) (b0 : Nat) (D : Dk) (v1 : Value) (wr : World) (v2 : Value) (k : Nat) : Prop := ∃ X, LX w wr X d D ∧ b0 ≤ wr.heap.size ∧ Kd.R Kd.string 9 wr w.heap.size (fun k => ¬ X k ∧ k < b0) v1 (texts D0 16) ∧ Kd.R Kd.string 9 wr b0 (fun k => ¬ X k ∧ True) v2 (texts D k)
set_option maxHeartbeats 8000000 in
set_option maxRecDepth 100000 in
theorem safe_good (P1 P2 P3 P4 : Option Addr) (c1 c2 c3 c4 : Nat) (l more : List A2) (keep : List Int) (torn : List (Int × Int)) (w : World) (hr1 : Kd.C KA2 w P1 l.length l) (hr2 : Kd.C KA2 w P2 more.length more) (hr3 : Kd.C (Kd.int .i64) w P3 keep.length keep) (hr4 : KT.C w P4 torn.length torn)
    (hz1 : ∀ a ∈ l, a.2.2.1.length ≤ 140737488351232 ∧ a.2.2.2.1.length ≤ 140737488351232 ∧ a.2.2.2.2.length ≤ 140737488351232) (hz2 : ∀ a ∈ more, a.2.2.1.length ≤ 140737488351232 ∧ a.2.2.2.1.length ≤ 140737488351232 ∧ a.2.2.2.2.length ≤ 140737488351232) (hp1 : ∀ a ∈ l, Bytes a.2.2.1) (hp2 : ∀ a ∈ more, Bytes a.2.2.1) (ht : ∀ t ∈ torn, -9223372036854775808 ≤ t.2 ∧ t.2 ≤ 9223372036854775807) (h3 : keep.length ≤ 150) (h4 : torn.length ≤ 150) :
    Calls Try.prog 3 #[.slice P1 l.length c1, .slice P2 more.length c2, .slice P3 keep.length c3, .slice P4 torn.length c4] w fun e w' => e = .returned (.bool true) ∧ Below w.heap.size w w' := by
  have d3 : decide (150 < (keep.length : Int)) = false := decide_eq_false (by omega)
  have d4 : decide (150 < (torn.length : Int)) = false := decide_eq_false (by omega)
  have hlm1 : l.length ≤ 9223372036854775807 := hr1.2.1
  have hlm2 : more.length ≤ 9223372036854775807 := hr2.2.1
  have HR1 := Aside0.mk hr1; have HR2 := Aside0.mk hr2; have HR3 := Aside0.mk hr3; have HR4 := Aside0.mk hr4; have HP1 := Aside0.mk hp1; have HP2 := Aside0.mk hp2; have HT := Aside0.mk ht; have HZ1 := Aside0.mk hz1; have HZ2 := Aside0.mk hz2
  clear hz1 hz2 hr1 hr2 hr3 hr4 hp1 hp2 ht h3 h4
  go_enter Try.func3, Try.ntmps3
  go_wp2_with fail
  refine (huge2_calls P1 c1 l w HR1.out HZ1.out).mono ?_
  rintro e w1 ⟨⟨b, rfl, hb⟩, hd1⟩
  have HB1 := Aside0.mk hd1.below
  clear hd1
  cases b with
  | true =>
    clear hb
    go_wp2_with fail
    refine (live2_calls _).mono ?_
    rintro e w2 ⟨rfl, hb2⟩
    have HB2 := Aside0.mk (below_step HB1.out hb2)
    clear hb2
    go_wp2_with fail
    go_ret
    exact ⟨rfl, HB2.out⟩
  | false =>
  have HP1 := Aside0.mk (show ∀ a ∈ l, a.2.2.1.length ≤ 1099511627776 ∧ Bytes a.2.2.1 from fun a ha => ⟨by have := (hb rfl).2 a ha; omega, HP1.out a ha⟩)
  clear hb
  go_wp2_with fail
  refine (huge2_calls P2 c2 more w1 (Kd.C_below HR2.out HB1.out) HZ2.out).mono ?_
  rintro e w2 ⟨⟨b, rfl, hb⟩, hd2⟩
  have HB2 := Aside0.mk (below_step HB1.out hd2.below)
  clear hd2
  cases b with
  | true =>
    clear hb
    go_wp2_with fail
    refine (live2_calls _).mono ?_
    rintro e w2 ⟨rfl, hb2⟩
    have HB2 := Aside0.mk (below_step HB2.out hb2)
    clear hb2
    go_wp2_with fail
    go_ret
    exact ⟨rfl, HB2.out⟩
  | false =>
  have HP2 := Aside0.mk (show ∀ a ∈ more, a.2.2.1.length ≤ 1099511627776 ∧ Bytes a.2.2.1 from fun a ha => ⟨by have := (hb rfl).2 a ha; omega, HP2.out a ha⟩)
  clear hb
  go_wp2_with fail
  refine (LS.new_at HB2.out 16 64 (by decide) (by decide) (by decide) (by decide)).mono ?_
  rintro e w3 ⟨d, rfl, h3, _⟩
  have H3 := Aside0.mk (show LX w w3 _ d (Dk.made 16 64) from h3.lx)
  clear h3
  go_wp2_with fail
  refine (num2_calls 0 w3).mono ?_
  rintro e w4 ⟨rfl, hd4⟩
  have H4 : Aside0 (SfA w d w4) := ⟨⟨_, _, H3.out.step hd4.below, DSf.P16.start⟩⟩
  clear hd4
  go_wp2_with fail
  go_loopw [11] (fun i wr => ∃ k : Nat, k ≤ l.length ∧ i = .int .i64 (k : Int) ∧ Aside0 (SfA w d wr)) (fun i _ => l.length - (intOf i).toNat)
  case atStart => exact ⟨0, Nat.zero_le _, rfl, H4⟩
  case round =>
    obtain ⟨k, hk, rfl, HI⟩ := hrel
    by_cases hlt : k < l.length
    · obtain ⟨X, D, hL, hS⟩ := HI.out; have HS := Aside0.mk hS; clear hS
      have HL := Aside0.mk hL
      obtain ⟨ad, hA, Ap, cp, Ak, ck, At, ct, x0, x1, x6, x7, x8, ⟨cp1, kp1⟩, _⟩ := act2_get (Kd.C_below HR1.out hL.bel) hlt
      have HBk := Aside0.mk (HP1.out _ (List.getElem_mem hlt))
      subst hA
      obtain ⟨y, hy⟩ : ∃ y, y = l[k] := ⟨_, rfl⟩
      rw [← hy] at x1 x6 cp1 kp1 HBk
      obtain ⟨y0, yn, yp, yK, yT⟩ := y
      simp only at x1 x6 cp1 kp1 HBk
      have HP := Aside0.mk (And.intro cp1 kp1)
      clear hy x0 x7 x8 hL cp1 kp1
      obtain ⟨W1, hW1⟩ : ∃ W, W = (wr.alloc (.cells #[.slice Ap yp.length cp] 33)).drew := ⟨_, rfl⟩
      obtain ⟨b1, hb1⟩ : ∃ b, b = wr.heap.size := ⟨_, rfl⟩
      have hbl : Below wr.heap.size wr W1 := by rw [hW1]; exact below_step (below_alloc (Below.refl _ _) _) (below_drew (Below.refl _ _))
      have hr1 : Kd.C (Kd.slice 5 (Kd.int .u8)) W1 (some ⟨b1, 0, none⟩) 1 [yp] := rows1s (Kd.C_below HP.out.2 hbl) HP.out.1 (by rw [hW1, hb1]; exact blk_new wr _)
      have HB1 := Aside0.mk hbl
      have HCW := Aside0.mk ((HL.out.step hbl).write yn (some ⟨b1, 0, none⟩) 1 [yp] hr1 (by simpa using HBk.out.1) (by simpa using HBk.out.2))
      have efl : ([yp] : List (List Int)).flatten = yp := by simp
      rw [efl] at HCW
      have x1b := pw_cell_below hbl x1
      rw [hW1] at x1b
      have x1c := pw_cell_below (below_alloc (Below.refl wr.heap.size wr) (.cells #[.slice Ap yp.length cp] 33)) x1
      have HW1 := Aside0.mk hW1
      have HX1 := Aside0.mk hb1
      clear hbl hr1 efl hW1 hb1
      go_wp2_with fail
      go_region_law (go_simp; go_at_call 18; rw [← HX1.out, ← HW1.out]; refine (HCW.out).mono ?_; rintro e w4 ⟨rfl, h4⟩; have H4 := Aside0.mk h4; clear h4)
      all_goals go_wp2_with fail
      all_goals go_roundw
      all_goals first
        | exact ⟨k + 1, by omega, by go_num, ⟨by obtain ⟨X', h1, _, _⟩ := H4.out; exact ⟨X', _, h1, (HS.out.written _ _).1⟩⟩⟩
        | (simp [intOf]; omega)
    obtain rfl : k = l.length := by omega
    have HE1 := HI
    clear HI hk hlt
    go_wp2_with fail
    obtain ⟨X5, D5, h5, hS5⟩ := HE1.out
    have H5 := Aside0.mk h5; have HS5 := Aside0.mk hS5
    clear h5 hS5 HE1
    refine (H5.out.sync).mono ?_
    rintro e w6 ⟨rfl, X6, h6, _⟩
    rw [HS5.out.begE]
    obtain ⟨D0, hD0⟩ : ∃ D, D = D5.synced := ⟨_, rfl⟩
    rw [← hD0] at h6
    have HS0 : Aside0 (DSf.P16 D0 ∧ ∀ n, D0.fresh n = none) := ⟨by rw [hD0]; exact HS5.out.sync⟩
    have H6 := Aside0.mk h6
    clear h6 hD0
    go_wp2_with fail
    refine (num2_calls 0 w6).mono ?_
    rintro e w7 ⟨rfl, hd7⟩
    have H7 := Aside0.mk (H6.out.step hd7.below)
    clear hd7
    go_wp2_with fail
    refine (H7.out.ls.unsafe0 HS0.out.2).mono ?_
    rintro e w8 ⟨rfl, hb8⟩
    have H8 : Aside0 (SfB w d D0 w8 (.slice none 0 0) 0) := ⟨⟨_, H7.out.step hb8, Kd.R_nil _ _ _ _ _⟩⟩
    clear hb8
    go_wp2_with fail
    go_loopw [12, 14] (fun v i wr => ∃ k : Nat, k ≤ 16 ∧ i = .int .i64 (k : Int) ∧ Aside0 (SfB w d D0 wr v k)) (fun _ i _ => 16 - (intOf i).toNat)
    case atStart => exact ⟨0, Nat.zero_le _, rfl, H8⟩
    case round =>
      obtain ⟨k, hk, rfl, HI⟩ := hrel
      by_cases hlt : k < 16
      · obtain ⟨X, hL, hR⟩ := HI.out
        have HL := Aside0.mk hL; have HR := Aside0.mk hR
        have hlti : (k : Int) < 16 := by omega
        clear hL hR
        go_wp2_with fail
        refine (HL.out.read (k : Int)).mono ?_
        rintro e w4 ⟨vb, rfl, hRb, hb4⟩
        rw [(HS0.out.1.read hlt).1]
        rw [(HS0.out.1.read hlt).2] at hRb
        obtain ⟨Ab, cb, rfl, hcb, hCb⟩ := Kd.R_reads hRb
        have h64 := HS0.out.1.now hlt
        have hcv : (convert 33 9 (.slice Ab (D0.now k).length cb)).run Try.prog w4 = .ok (.string (strOfNums (D0.now k))) w4 := Kd.C_string (c := cb) Try.underlying33 Try.underlying5 Try.underlying9 hCb
        obtain ⟨S, hS⟩ : ∃ S, S = strOfNums (D0.now k) := ⟨_, rfl⟩
        rw [← hS, h64] at hcv
        rw [h64]
        have HSq := Aside0.mk hS
        have HB4 := Aside0.mk (below_step hb4 (below_alloc (Below.refl w4.heap.size w4) (.cells #[.string S] 9)))
        clear hRb hCb h64 hb4 hS
        go_wp2_with ((with_reducible refine gate_builtin (b := .append) (xs := #[.tmp 92, .tmp 95]) rfl ?_); at_builtin; refine Kd.R_append_rows Kd.string (Rr := fun (x : ByteArray) (c : List Value) => c = [.string x]) (w0 := w) w.heap.size rfl (.tmp 92) (.tmp 95) 38 9 (.string ByteArray.empty) 16 rfl Try.underlying38 infoStr rfl (by decide) (by omega) _ (texts D0 k) [S] (some ⟨w4.heap.size, 0, none⟩) 1 1 (fun k => ¬ X k ∧ True) (fun _ => False) rfl rfl (Kd.R_below HR.out HB4.out) (one_str (blk_new w4 (.cells #[.string S] 9))) (fun _ _ h => h) (fun _ hk => hk.elim) (fun k hk => ⟨fun hx => by have h1 := HL.out.hi k hx; have h2 := HB4.out.size; omega, trivial⟩) (below_step HL.out.bel HB4.out) (below_step HL.out.bel HB4.out).size (by rw [texts_length]; omega) ?_; intro v1 w5 hr hb hg hat; have n0_ := Aside0.mk hr; have n1_ := Aside0.mk hg; clear hr hb hg hat)
        go_roundw
        case rel => exact ⟨k + 1, by omega, by go_num, ⟨⟨X, (HL.out.step HB4.out).grown n1_.out (fun b hb => ⟨(HR.out.1 b hb).1, own_base (Kd.R_own HR.out).choose_spec b hb⟩), by rw [texts_succ, ← HSq.out]; exact n0_.out⟩⟩⟩
        case measure => simp [intOf]; omega
      have hk16 : k = 16 := by omega
      have hge : ¬ ((k : Int) < 16) := by omega
      have HE2 := HI
      rw [hk16] at HE2
      clear HI hk hlt hk16
      go_wp2_with fail
      clear hge
      obtain ⟨b0, hb0⟩ : ∃ b, b = wr.heap.size := ⟨_, rfl⟩
      have HC3 : Aside0 (SfC w d D0 b0 u12 wr) := ⟨by
        obtain ⟨X, hL, hR⟩ := HE2.out
        exact ⟨X, D0, hL, HS0.out.1, rfl, by rw [hb0]; exact Nat.le_refl _, Kd.R_mono (Kd.R_bound hR) (fun k hk => ⟨hk.1.1, by rw [hb0]; exact hk.2.2.1⟩)⟩⟩
      have HB00 : Aside0 (w.heap.size ≤ b0) := ⟨by
        obtain ⟨X, hL, hR⟩ := HE2.out
        rw [hb0]; exact hL.bel.size⟩
      clear hb0 HE2
      go_loopw [17] (fun i wr => ∃ k : Nat, k ≤ more.length ∧ i = .int .i64 (k : Int) ∧ Aside0 (SfC w d D0 b0 u12 wr)) (fun i _ => more.length - (intOf i).toNat)
      case atStart => exact ⟨0, Nat.zero_le _, rfl, HC3⟩
      case round =>
        obtain ⟨k, hk, rfl, HI⟩ := hrel
        by_cases hlt : k < more.length
        · obtain ⟨X, D, hL, hS, hse, hbs, hV⟩ := HI.out; have HS := Aside0.mk (And.intro hS hse); have HV := Aside0.mk (And.intro hbs hV); clear hS hse hbs hV
          have HL := Aside0.mk hL
          obtain ⟨ad, hA, Ap, cp, Ak, ck, At, ct, x0, x1, x6, x7, x8, ⟨cp1, kp1⟩, _⟩ := act2_get (Kd.C_below HR2.out hL.bel) hlt
          have HBk := Aside0.mk (HP2.out _ (List.getElem_mem hlt))
          subst hA
          obtain ⟨y, hy⟩ : ∃ y, y = more[k] := ⟨_, rfl⟩
          rw [← hy] at x1 x6 cp1 kp1 HBk
          obtain ⟨y0, yn, yp, yK, yT⟩ := y
          simp only at x1 x6 cp1 kp1 HBk
          have HP := Aside0.mk (And.intro cp1 kp1)
          clear hy x0 x7 x8 hL cp1 kp1
          obtain ⟨W1, hW1⟩ : ∃ W, W = (wr.alloc (.cells #[.slice Ap yp.length cp] 33)).drew := ⟨_, rfl⟩
          obtain ⟨b1, hb1⟩ : ∃ b, b = wr.heap.size := ⟨_, rfl⟩
          have hbl : Below wr.heap.size wr W1 := by rw [hW1]; exact below_step (below_alloc (Below.refl _ _) _) (below_drew (Below.refl _ _))
          have hr1 : Kd.C (Kd.slice 5 (Kd.int .u8)) W1 (some ⟨b1, 0, none⟩) 1 [yp] := rows1s (Kd.C_below HP.out.2 hbl) HP.out.1 (by rw [hW1, hb1]; exact blk_new wr _)
          have HB1 := Aside0.mk hbl
          have HCW := Aside0.mk ((HL.out.step hbl).write yn (some ⟨b1, 0, none⟩) 1 [yp] hr1 (by simpa using HBk.out.1) (by simpa using HBk.out.2))
          have efl : ([yp] : List (List Int)).flatten = yp := by simp
          rw [efl] at HCW
          have x1b := pw_cell_below hbl x1
          rw [hW1] at x1b
          have x1c := pw_cell_below (below_alloc (Below.refl wr.heap.size wr) (.cells #[.slice Ap yp.length cp] 33)) x1
          have HW1 := Aside0.mk hW1
          have HX1 := Aside0.mk hb1
          clear hbl hr1 efl hW1 hb1
          go_wp2_with fail
          go_region_law (go_simp; go_at_call 18; rw [← HX1.out, ← HW1.out]; refine (HCW.out).mono ?_; rintro e w4 ⟨rfl, h4⟩; have H4 := Aside0.mk h4; clear h4)
          all_goals go_wp2_with fail
          all_goals go_roundw
          all_goals first
            | exact ⟨k + 1, by omega, by go_num, ⟨by obtain ⟨X', h1, h2, h3⟩ := H4.out; exact ⟨X', _, h1, (HS.out.1.written _ _).1, ((HS.out.1.written _ _).2).trans HS.out.2, Nat.le_trans HV.out.1 (Nat.le_trans HB1.out.size h3.size), rows_nxt (Kd.R_below HV.out.2 HB1.out) h2 h3⟩⟩⟩
            | (simp [intOf]; omega)
        obtain rfl : k = more.length := by omega
        have HE3 := HI
        clear HI hk hlt
        go_wp2_with fail
        obtain ⟨X9, D1, h9, hS9, hse9, hbs9, hV9⟩ := HE3.out
        have HS1 := Aside0.mk (And.intro hS9 hse9)
        have HBY1 : Aside0 (∀ k, k < 16 → ∀ {N : List Int}, N = D1.now k → Bytes N) := ⟨by
          intro k hk N hN
          obtain ⟨sb, mb, es, clock, safe, hp⟩ := h9.at_
          rw [hN]; exact now_bytes hp (by rw [hS9.sec]; exact hk)⟩
        have HD4 : Aside0 (SfD w d D0 b0 D1 u12 wr (.slice none 0 0) 0) := ⟨⟨X9, h9, hbs9, hV9, Kd.R_nil _ _ _ _ _⟩⟩
        clear h9 hS9 hse9 hbs9 hV9
        go_loopw [13, 18] (fun v i wr => ∃ k : Nat, k ≤ 16 ∧ i = .int .i64 (k : Int) ∧ Aside0 (SfD w d D0 b0 D1 u12 wr v k)) (fun _ i _ => 16 - (intOf i).toNat)
        case atStart => exact ⟨0, Nat.zero_le _, rfl, HD4⟩
        case round =>
          obtain ⟨k, hk, rfl, HI⟩ := hrel
          by_cases hlt : k < 16
          · obtain ⟨X, hL, hbs, hV, hR⟩ := HI.out; have HV := Aside0.mk hV; have HBS := Aside0.mk hbs; clear hV hbs
            have HL := Aside0.mk hL; have HR := Aside0.mk hR
            have hlti : (k : Int) < 16 := by omega
            clear hL hR
            go_wp2_with fail
            refine (HL.out.read (k : Int)).mono ?_
            rintro e w4 ⟨vb, rfl, hRb, hb4⟩
            rw [(HS1.out.1.read hlt).1]
            rw [(HS1.out.1.read hlt).2] at hRb
            obtain ⟨Ab, cb, rfl, hcb, hCb⟩ := Kd.R_reads hRb
            have h64 := HS1.out.1.now hlt
            have hcv : (convert 33 9 (.slice Ab (D1.now k).length cb)).run Try.prog w4 = .ok (.string (strOfNums (D1.now k))) w4 := Kd.C_string (c := cb) Try.underlying33 Try.underlying5 Try.underlying9 hCb
            obtain ⟨S, hS⟩ : ∃ S, S = strOfNums (D1.now k) := ⟨_, rfl⟩
            rw [← hS, h64] at hcv
            rw [h64]
            have HSq := Aside0.mk hS
            have HB4 := Aside0.mk (below_step hb4 (below_alloc (Below.refl w4.heap.size w4) (.cells #[.string S] 9)))
            clear hRb hCb h64 hb4 hS
            go_wp2_with ((with_reducible refine gate_builtin (b := .append) (xs := #[.tmp 126, .tmp 129]) rfl ?_); at_builtin; refine Kd.R_append_rows Kd.string (Rr := fun (x : ByteArray) (c : List Value) => c = [.string x]) (w0 := (w4.alloc (.cells #[.string S] 9))) b0 rfl (.tmp 126) (.tmp 129) 38 9 (.string ByteArray.empty) 16 rfl Try.underlying38 infoStr rfl (by decide) (by omega) _ (texts D1 k) [S] (some ⟨w4.heap.size, 0, none⟩) 1 1 (fun k => ¬ X k ∧ True) (fun _ => False) rfl rfl (Kd.R_below HR.out HB4.out) (one_str (blk_new w4 (.cells #[.string S] 9))) (fun _ _ h => h) (fun _ hk => hk.elim) (fun k hk => ⟨fun hx => by have h1 := HL.out.hi k hx; have h2 := HB4.out.size; omega, trivial⟩) (Below.refl _ _) (Nat.le_trans HBS.out HB4.out.size) (by rw [texts_length]; omega) ?_; intro v1 w5 hr hb hg hat; have n0_ := Aside0.mk hr; have n1_ := Aside0.mk hg; clear hr hb hg hat)
            go_roundw
            case rel => exact ⟨k + 1, by omega, by go_num, ⟨⟨X, (HL.out.step HB4.out).grown n1_.out (fun b hb => ⟨(HR.out.1 b hb).1, Nat.le_trans HB00.out (own_base (Kd.R_own HR.out).choose_spec b hb)⟩), Nat.le_trans HBS.out (Nat.le_trans HB4.out.size n1_.out.size), Kd.R_grown (Kd.R_below HV.out HB4.out) n1_.out (fun b hb e => by have := own_base (Kd.R_own HR.out).choose_spec b e.symm; have := hb.2; omega), by rw [texts_succ, ← HSq.out]; exact n0_.out⟩⟩⟩
            case measure => simp [intOf]; omega
          have hk16 : k = 16 := by omega
          have hge : ¬ ((k : Int) < 16) := by omega
          have HE4 := HI
          rw [hk16] at HE4
          clear HI hk hlt hk16
          go_wp2_with fail
          clear hge
          obtain ⟨X8, h8, _, hv1, hv2⟩ := HE4.out
          have H8 := Aside0.mk h8; have HV1 := Aside0.mk hv1; have HV2 := Aside0.mk hv2
          clear h8 hv1 hv2
          go_wp2_with fail
          refine (H8.out.crash keep torn P3 P4 c3 c4 (Kd.C_kept_came (Kd.heap_int _) HR3.out H8.out.bel H8.out.lo) (Kd.C_kept_came heap_KT2 HR4.out H8.out.bel H8.out.lo) HT.out).mono ?_
          rintro e w9 ⟨rfl, X9, h9, hX9, hF9⟩
          obtain ⟨D2, hD2⟩ : ∃ D, D = D1.crashed keep torn := ⟨_, rfl⟩
          have HS2 : Aside0 (DSf.P16 D2 ∧ (∀ n, D2.fresh n = none) ∧ ∀ n, n < 16 → ∃ c, c ≤ 64 ∧ D2.now n = (D1.now n).take c ++ (D0.now n).drop c) := ⟨by
            have h := HS1.out.1.crash keep torn
            rw [hD2]
            refine ⟨h.1, h.2.1, fun n hn => ?_⟩
            obtain ⟨c, hc, he⟩ := h.2.2 n hn
            refine ⟨c, hc, ?_⟩
            rw [he, HS1.out.2]
            have : D0.now n = D0.sec n := by unfold Dk.now; rw [HS0.out.2 n]; rfl
            rw [this]⟩
          rw [← hD2] at h9
          obtain ⟨Q1, q1, hu1, hq1, hC1⟩ := Kd.R_reads (rows_nxt HV1.out hX9 hF9)
          obtain ⟨Q2, q2, hu2, hq2, hC2⟩ := Kd.R_reads (rows_nxt HV2.out hX9 hF9)
          rw [texts_length] at hu1 hC1 hu2 hC2
          subst hu1 hu2
          have H9 := Aside0.mk h9
          have HC1 := Aside0.mk hC1; have HC2 := Aside0.mk hC2
          clear h9 hX9 hF9 hD2 hC1 hC2 hq1 hq2 HE4 HV1 HV2 H8
          go_wp2_with fail
          go_loopw [21] (fun i wr => ∃ k : Nat, k ≤ 16 ∧ i = .int .i64 (k : Int) ∧ Aside0 (Below w9.heap.size w9 wr)) (fun i _ => 16 - (intOf i).toNat)
          case atStart => exact ⟨0, Nat.zero_le _, rfl, ⟨Below.refl _ _⟩⟩
          case round =>
            obtain ⟨k, hk, rfl, HI⟩ := hrel
            by_cases hlt : k < 16
            · have hlti : (k : Int) < 16 := by omega
              go_wp2_with fail
              refine ((H9.out.step HI.out).read (k : Int)).mono ?_
              rintro e w10 ⟨vb, rfl, hRb, hb10⟩
              rw [(HS2.out.1.read hlt).1]
              rw [(HS2.out.1.read hlt).2] at hRb
              obtain ⟨Ab, cb, rfl, hcb, hCb⟩ := Kd.R_reads hRb
              obtain ⟨c, hc, hcut0⟩ := HS2.out.2.2 k hlt
              have h64 := HS2.out.1.now hlt
              have hN64 := HS1.out.1.now hlt
              have hO64 := HS0.out.1.now hlt
              have HB10 := Aside0.mk (below_step HI.out hb10)
              obtain ⟨B, hB⟩ : ∃ B, B = D2.now k := ⟨_, rfl⟩
              obtain ⟨N, hN⟩ : ∃ B, B = D1.now k := ⟨_, rfl⟩
              obtain ⟨O, hO⟩ : ∃ B, B = D0.now k := ⟨_, rfl⟩
              rw [← hB] at hCb hcb h64 hcut0 ⊢
              rw [← hN] at hN64 hcut0
              rw [← hO] at hO64 hcut0
              rw [h64] at hCb hcb ⊢
              have hE1 : (texts D0 16)[k]? = some (strOfNums O) := by unfold texts; rw [List.getElem?_map, List.getElem?_range hlt, hO]; rfl
              have hE2 : (texts D1 16)[k]? = some (strOfNums N) := by unfold texts; rw [List.getElem?_map, List.getElem?_range hlt, hN]; rfl
              have HCB := Aside0.mk (And.intro hCb hcb)
              have HLN := Aside0.mk (And.intro h64 (And.intro hN64 (And.intro hO64 (And.intro hc hcut0))))
              have HBN : Aside0 (Bytes N) := ⟨HBY1.out k hlt hN⟩
              clear hRb hb10 hCb hcb h64 hN64 hO64 hc hcut0 hB hN hO
              go_wp2_with fail
              refine (num2_calls 0 w10).mono ?_
              rintro e w11 ⟨rfl, hd11⟩
              have HB11 := Aside0.mk (below_step HB10.out hd11.below)
              obtain ⟨ad1, rfl, s1⟩ := str_get (Kd.C_below HC1.out HB11.out) hE1
              obtain ⟨ad2, rfl, s2⟩ := str_get (Kd.C_below HC2.out HB11.out) hE2
              have HCB11 := Aside0.mk (Kd.C_below HCB.out.1 hd11.below)
              have z1 : (strOfNums O).size = 64 := by rw [strNums_size]; exact HLN.out.2.2.1
              have z2 : (strOfNums N).size = 64 := by rw [strNums_size]; exact HLN.out.2.1
              clear hd11
              go_wp2_with fail
              clear s1 s2
              go_loopw [24] (fun s wr => ∃ j : Nat, j ≤ 64 ∧ s = .int .i64 (j : Int) ∧ Aside0 (Drawn0 w11 wr)) (fun s _ => 64 - (intOf s).toNat)
              case atStart => exact ⟨0, Nat.zero_le _, rfl, ⟨Drawn0.refl _⟩⟩
              case round =>
                obtain ⟨j, hj, rfl, HD⟩ := hrel
                obtain ⟨ad1', he1, s1⟩ := str_get (Kd.C_below (Kd.C_below HC1.out HB11.out) HD.out.below) hE1
                obtain ⟨ad2', he2, s2⟩ := str_get (Kd.C_below (Kd.C_below HC2.out HB11.out) HD.out.below) hE2
                obtain rfl := Option.some.inj he1
                obtain rfl := Option.some.inj he2
                clear he1 he2
                have HCBj := Aside0.mk (Kd.C_below HCB11.out HD.out.below)
                have hcbl := HCB.out.2
                have ROUT : ∀ hx : j = 64 ∨ rd B j ≠ rd N j, B.drop j = O.drop j := fun hx => DSf.cut_eq HLN.out.2.1 HLN.out.2.2.1 HLN.out.2.2.2.1 HLN.out.2.2.2.2 hj hx
                have HRO := Aside0.mk ROUT
                clear ROUT
                by_cases hj64 : j < 64
                · obtain ⟨adb, rfl, sb⟩ := byte_get HCBj.out hj64
                  have hix := fun W => idx_str N HBN.out j (by rw [HLN.out.2.1]; exact hj64) W
                  have hji : (j : Int) < 64 := by omega
                  obtain ⟨xb, hxb⟩ : ∃ x, x = rd B j := ⟨_, rfl⟩
                  obtain ⟨xn, hxn⟩ : ∃ x, x = rd N j := ⟨_, rfl⟩
                  rw [← hxb] at sb
                  rw [← hxn] at hix
                  by_cases heq : xb = xn
                  · have hbq : (xb == xn) = true := by simpa using heq
                    clear hxb hxn
                    go_wp2_with fail
                    go_quiet (fail)
                    go_wp2_with fail
                    go_roundw
                    case rel => exact ⟨j + 1, by omega, by go_num, ⟨by repeat (first | exact HD.out | apply Drawn0.step)⟩⟩
                    case measure => simp [intOf]; omega
                  · have hbq : (xb == xn) = false := by simpa using heq
                    have HDR := HRO.out (.inr (by rw [← hxb, ← hxn]; exact heq))
                    have HQ := Aside0.mk HDR
                    clear HDR hxb hxn HRO
                    go_wp2_with fail
                    go_quiet (fail)
                    go_wp2_with fail
                    obtain ⟨iU, hiU, hiS⟩ := Option.map_eq_some_iff.1 sizeByte
                    obtain ⟨Ac, hcut, hAc⟩ := print_cut (P := Try.prog) 33 5 .i64 Try.underlying33 hiU hiS (some adb) 64 cb j hj
                    have hsl := fun W => slice_from O j (by rw [HLN.out.2.2.1]; exact hj) W
                    obtain ⟨T, hT⟩ : ∃ T, T = strOfNums (O.drop j) := ⟨_, rfl⟩
                    rw [← hT] at hsl
                    obtain ⟨Inv, hInv⟩ : ∃ I : World → Prop, I = fun W => Below w11.heap.size w11 W := ⟨_, rfl⟩
                    have IW := Aside0.mk (show ∀ W, Inv W → Below w9.heap.size w9 W by rw [hInv]; exact fun W h => below_step HB11.out h)
                    have SF := Aside0.mk (show ∀ W, Inv W → (convert 33 9 (.slice Ac (64 - j) (cb - j))).run Try.prog W = .ok (.string T) W ∧ W.cell? (ad1.add k) = some (.string (strOfNums O)) by
                      rw [hInv]
                      intro W hW
                      refine ⟨?_, ?_⟩
                      · have h3 : Kd.C (Kd.int .u8) W Ac (64 - j) (B.drop j) := Kd.C_of_reads (enc := Value.int .u8) (d := 0) (hAc W .u8 B HCB.out.2 (C_int (Kd.C_below HCB11.out hW)))
                        rw [HQ.out] at h3
                        rw [hT]
                        exact Kd.C_string (c := cb - j) Try.underlying33 Try.underlying5 Try.underlying9 h3
                      · obtain ⟨ad9, he9, s9⟩ := str_get (Kd.C_below (Kd.C_below HC1.out HB11.out) hW) hE1
                        obtain rfl := Option.some.inj he9
                        exact s9)
                    have HINV := Aside0.mk hInv
                    clear hT hAc hInv
                    refine wp_region_plan (by kernel_rfl) (by kernel_rfl) Inv (by rw [HINV.out]; repeat (first | exact HD.out.below | apply below_drew | apply pw_below_drewN)) ?_
                    refine Plan.take 0 (some 186) (Op.move (Operand.tmp 22)) 33 (none) ?_ rfl (by kernel_rfl) (by kernel_rfl) (Tells.val (by rfl) ?_) ?_
                    rotate_left
                    · (intro W hW; go_simp; first | done | with_reducible rfl)
                    try simp only [Act.put, List.setIfInBounds_toArray, List.set_cons_zero, List.set_cons_succ]
                    refine Plan.take 1 (some 187) (Op.move (Operand.tmp 24)) 3 (none) ?_ rfl (by kernel_rfl) (by kernel_rfl) (Tells.val (by rfl) ?_) ?_
                    rotate_left
                    · (intro W hW; go_simp; first | done | with_reducible rfl)
                    try simp only [Act.put, List.setIfInBounds_toArray, List.set_cons_zero, List.set_cons_succ]
                    refine Plan.take 2 (some 188) (Op.slice 33 (Operand.tmp 186) (some (Operand.tmp 187)) none none) 33 (none) ?_ rfl (by kernel_rfl) (by kernel_rfl) (Tells.val (by rfl) ?_) ?_
                    rotate_left
                    · (intro W hW; have hF := SF.out W hW; go_simp; first | done | with_reducible rfl)
                    try simp only [Act.put, List.setIfInBounds_toArray, List.set_cons_zero, List.set_cons_succ]
                    refine Plan.take 3 (some 189) (Op.convert 33 9 (Operand.tmp 188)) 9 (none) ?_ rfl (by kernel_rfl) (by kernel_rfl) (Tells.val (by rfl) ?_) ?_
                    rotate_left
                    · (intro W hW; have hF := SF.out W hW; go_simp; first | done | with_reducible rfl)
                    try simp only [Act.put, List.setIfInBounds_toArray, List.set_cons_zero, List.set_cons_succ]
                    refine Plan.take 4 (some 190) (Op.move (Operand.tmp 12)) 38 (none) ?_ rfl (by kernel_rfl) (by kernel_rfl) (Tells.val (by rfl) ?_) ?_
                    rotate_left
                    · (intro W hW; go_simp; first | done | with_reducible rfl)
                    try simp only [Act.put, List.setIfInBounds_toArray, List.set_cons_zero, List.set_cons_succ]
                    refine Plan.take 5 (some 191) (Op.move (Operand.tmp 21)) 3 (none) ?_ rfl (by kernel_rfl) (by kernel_rfl) (Tells.val (by rfl) ?_) ?_
                    rotate_left
                    · (intro W hW; go_simp; first | done | with_reducible rfl)
                    try simp only [Act.put, List.setIfInBounds_toArray, List.set_cons_zero, List.set_cons_succ]
                    refine Plan.take 6 (some 192) (Op.indexAddr 38 (Operand.tmp 190) (Operand.tmp 191)) 0 (none) ?_ rfl (by kernel_rfl) (by kernel_rfl) (Tells.val (by rfl) ?_) ?_
                    rotate_left
                    · (intro W hW; have hF := SF.out W hW; go_simp; first | done | with_reducible rfl)
                    try simp only [Act.put, List.setIfInBounds_toArray, List.set_cons_zero, List.set_cons_succ]
                    refine Plan.take 7 (some 193) (Op.load 9 (Operand.tmp 192)) 9 (none) ?_ rfl (by kernel_rfl) (by kernel_rfl) (Tells.val (by rfl) ?_) ?_
                    rotate_left
                    · (intro W hW; have hF := SF.out W hW; go_simp; first | done | with_reducible rfl)
                    try simp only [Act.put, List.setIfInBounds_toArray, List.set_cons_zero, List.set_cons_succ]
                    refine Plan.take 8 (some 194) (Op.move (Operand.tmp 24)) 3 (none) ?_ rfl (by kernel_rfl) (by kernel_rfl) (Tells.val (by rfl) ?_) ?_
                    rotate_left
                    · (intro W hW; go_simp; first | done | with_reducible rfl)
                    try simp only [Act.put, List.setIfInBounds_toArray, List.set_cons_zero, List.set_cons_succ]
                    refine Plan.take 9 (some 195) (Op.slice 9 (Operand.tmp 193) (some (Operand.tmp 194)) none none) 9 (none) ?_ rfl (by kernel_rfl) (by kernel_rfl) (Tells.val (by rfl) ?_) ?_
                    rotate_left
                    · (intro W hW; have hF := SF.out W hW; go_simp; first | done | with_reducible rfl)
                    try simp only [Act.put, List.setIfInBounds_toArray, List.set_cons_zero, List.set_cons_succ]
                    refine Plan.take 10 (some 196) (Op.binOp BinOp.neq 9 (Operand.tmp 189) (Operand.tmp 195) 9) 4 (none) ?_ rfl (by kernel_rfl) (by kernel_rfl) (Tells.val (by rfl) ?_) ?_
                    rotate_left
                    · (intro W hW; go_simp; first | done | with_reducible rfl)
                    try simp only [Act.put, List.setIfInBounds_toArray, List.set_cons_zero, List.set_cons_succ]
                    refine Plan.done _ (by kernel_rfl) ?_
                    intro W hW
                    go_wp2_with fail
                    go_roundw
                    case rel => exact ⟨k + 1, by omega, by go_num, ⟨IW.out W hW⟩⟩
                    case measure => simp [intOf]; omega
                · have hje : j = 64 := by omega
                  have hge2 : decide ((j : Int) < 64) = false := decide_eq_false (by omega)
                  have HDR := HRO.out (.inl hje)
                  have HQ := Aside0.mk HDR
                  clear HDR HRO hje
                  go_wp2_with fail
                  go_quiet (fail)
                  go_wp2_with fail
                  obtain ⟨iU, hiU, hiS⟩ := Option.map_eq_some_iff.1 sizeByte
                  obtain ⟨Ac, hcut, hAc⟩ := print_cut (P := Try.prog) 33 5 .i64 Try.underlying33 hiU hiS (Ab) 64 cb j hj
                  have hsl := fun W => slice_from O j (by rw [HLN.out.2.2.1]; exact hj) W
                  obtain ⟨T, hT⟩ : ∃ T, T = strOfNums (O.drop j) := ⟨_, rfl⟩
                  rw [← hT] at hsl
                  obtain ⟨Inv, hInv⟩ : ∃ I : World → Prop, I = fun W => Below w11.heap.size w11 W := ⟨_, rfl⟩
                  have IW := Aside0.mk (show ∀ W, Inv W → Below w9.heap.size w9 W by rw [hInv]; exact fun W h => below_step HB11.out h)
                  have SF := Aside0.mk (show ∀ W, Inv W → (convert 33 9 (.slice Ac (64 - j) (cb - j))).run Try.prog W = .ok (.string T) W ∧ W.cell? (ad1.add k) = some (.string (strOfNums O)) by
                    rw [hInv]
                    intro W hW
                    refine ⟨?_, ?_⟩
                    · have h3 : Kd.C (Kd.int .u8) W Ac (64 - j) (B.drop j) := Kd.C_of_reads (enc := Value.int .u8) (d := 0) (hAc W .u8 B HCB.out.2 (C_int (Kd.C_below HCB11.out hW)))
                      rw [HQ.out] at h3
                      rw [hT]
                      exact Kd.C_string (c := cb - j) Try.underlying33 Try.underlying5 Try.underlying9 h3
                    · obtain ⟨ad9, he9, s9⟩ := str_get (Kd.C_below (Kd.C_below HC1.out HB11.out) hW) hE1
                      obtain rfl := Option.some.inj he9
                      exact s9)
                  have HINV := Aside0.mk hInv
                  clear hT hAc hInv
                  refine wp_region_plan (by kernel_rfl) (by kernel_rfl) Inv (by rw [HINV.out]; repeat (first | exact HD.out.below | apply below_drew | apply pw_below_drewN)) ?_
                  refine Plan.take 0 (some 186) (Op.move (Operand.tmp 22)) 33 (none) ?_ rfl (by kernel_rfl) (by kernel_rfl) (Tells.val (by rfl) ?_) ?_
                  rotate_left
                  · (intro W hW; go_simp; first | done | with_reducible rfl)
                  try simp only [Act.put, List.setIfInBounds_toArray, List.set_cons_zero, List.set_cons_succ]
                  refine Plan.take 1 (some 187) (Op.move (Operand.tmp 24)) 3 (none) ?_ rfl (by kernel_rfl) (by kernel_rfl) (Tells.val (by rfl) ?_) ?_
                  rotate_left
                  · (intro W hW; go_simp; first | done | with_reducible rfl)
                  try simp only [Act.put, List.setIfInBounds_toArray, List.set_cons_zero, List.set_cons_succ]
                  refine Plan.take 2 (some 188) (Op.slice 33 (Operand.tmp 186) (some (Operand.tmp 187)) none none) 33 (none) ?_ rfl (by kernel_rfl) (by kernel_rfl) (Tells.val (by rfl) ?_) ?_
                  rotate_left
                  · (intro W hW; have hF := SF.out W hW; go_simp; first | done | with_reducible rfl)
                  try simp only [Act.put, List.setIfInBounds_toArray, List.set_cons_zero, List.set_cons_succ]
                  refine Plan.take 3 (some 189) (Op.convert 33 9 (Operand.tmp 188)) 9 (none) ?_ rfl (by kernel_rfl) (by kernel_rfl) (Tells.val (by rfl) ?_) ?_
                  rotate_left
                  · (intro W hW; have hF := SF.out W hW; go_simp; first | done | with_reducible rfl)
                  try simp only [Act.put, List.setIfInBounds_toArray, List.set_cons_zero, List.set_cons_succ]
                  refine Plan.take 4 (some 190) (Op.move (Operand.tmp 12)) 38 (none) ?_ rfl (by kernel_rfl) (by kernel_rfl) (Tells.val (by rfl) ?_) ?_
                  rotate_left
                  · (intro W hW; go_simp; first | done | with_reducible rfl)
                  try simp only [Act.put, List.setIfInBounds_toArray, List.set_cons_zero, List.set_cons_succ]
                  refine Plan.take 5 (some 191) (Op.move (Operand.tmp 21)) 3 (none) ?_ rfl (by kernel_rfl) (by kernel_rfl) (Tells.val (by rfl) ?_) ?_
                  rotate_left
                  · (intro W hW; go_simp; first | done | with_reducible rfl)
                  try simp only [Act.put, List.setIfInBounds_toArray, List.set_cons_zero, List.set_cons_succ]
                  refine Plan.take 6 (some 192) (Op.indexAddr 38 (Operand.tmp 190) (Operand.tmp 191)) 0 (none) ?_ rfl (by kernel_rfl) (by kernel_rfl) (Tells.val (by rfl) ?_) ?_
                  rotate_left
                  · (intro W hW; have hF := SF.out W hW; go_simp; first | done | with_reducible rfl)
                  try simp only [Act.put, List.setIfInBounds_toArray, List.set_cons_zero, List.set_cons_succ]
                  refine Plan.take 7 (some 193) (Op.load 9 (Operand.tmp 192)) 9 (none) ?_ rfl (by kernel_rfl) (by kernel_rfl) (Tells.val (by rfl) ?_) ?_
                  rotate_left
                  · (intro W hW; have hF := SF.out W hW; go_simp; first | done | with_reducible rfl)
                  try simp only [Act.put, List.setIfInBounds_toArray, List.set_cons_zero, List.set_cons_succ]
                  refine Plan.take 8 (some 194) (Op.move (Operand.tmp 24)) 3 (none) ?_ rfl (by kernel_rfl) (by kernel_rfl) (Tells.val (by rfl) ?_) ?_
                  rotate_left
                  · (intro W hW; go_simp; first | done | with_reducible rfl)
                  try simp only [Act.put, List.setIfInBounds_toArray, List.set_cons_zero, List.set_cons_succ]
                  refine Plan.take 9 (some 195) (Op.slice 9 (Operand.tmp 193) (some (Operand.tmp 194)) none none) 9 (none) ?_ rfl (by kernel_rfl) (by kernel_rfl) (Tells.val (by rfl) ?_) ?_
                  rotate_left
                  · (intro W hW; have hF := SF.out W hW; go_simp; first | done | with_reducible rfl)
                  try simp only [Act.put, List.setIfInBounds_toArray, List.set_cons_zero, List.set_cons_succ]
                  refine Plan.take 10 (some 196) (Op.binOp BinOp.neq 9 (Operand.tmp 189) (Operand.tmp 195) 9) 4 (none) ?_ rfl (by kernel_rfl) (by kernel_rfl) (Tells.val (by rfl) ?_) ?_
                  rotate_left
                  · (intro W hW; go_simp; first | done | with_reducible rfl)
                  try simp only [Act.put, List.setIfInBounds_toArray, List.set_cons_zero, List.set_cons_succ]
                  refine Plan.done _ (by kernel_rfl) ?_
                  intro W hW
                  go_wp2_with fail
                  go_roundw
                  case rel => exact ⟨k + 1, by omega, by go_num, ⟨IW.out W hW⟩⟩
                  case measure => simp [intOf]; omega
            · have hge : ¬ ((k : Int) < 16) := by omega
              clear hk hlt
              go_wp2_with fail
              refine ((H9.out.step HI.out).ls.unsafe0 HS2.out.2.1).mono ?_
              rintro e w10 ⟨rfl, hb10⟩
              have HB10 := Aside0.mk (below_step HI.out hb10)
              clear hb10
              go_wp2_with fail
              refine (live2_calls _).mono ?_
              rintro e w11 ⟨rfl, hb11⟩
              have HB11 := Aside0.mk (below_step HB10.out hb11)
              clear hb11
              go_wp2_with fail
              go_ret
              exact ⟨rfl, below_step H9.out.bel HB11.out⟩
end Go.Proofs.YteimienhaodfcaaK
