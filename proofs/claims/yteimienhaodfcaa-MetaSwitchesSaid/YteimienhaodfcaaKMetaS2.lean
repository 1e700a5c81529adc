/- MetaSwitches, walked. -/
import Derived.Test.YteimienhaodfcaaKMetaS
import Derived.Test.YteimienhaodfcaaKMetaP
import Derived.Test.YteimienhaodfcaaKMetaT
import Derived.Test.YteimienhaodfcaaKFlow
import Derived.Test.YteimienhaodfcaaKClone
import Derived.Deep.QuietTactic
import Derived.BigQuiet
import Derived.Deep.RegionHeld3
import Derived.Lib.AppendZerosOnto
import Derived.Lib.SliceRun
import Derived.Lib.Walk
namespace Go.Proofs.YteimienhaodfcaaK
open Go.RowKit Go.Proofs.YteimienhaodfcaaW.PrintWords Go.Proofs.YteimienhaodfcaaW.PrintLast Go.Proofs.YteimienhaodfcaaW.PrintMore Go.Crc
open Go.ChangeMaps (setBlock)
attribute [local go_sem] max2_int min2_int max_two min_two
set_option linter.unusedVariables false
set_option linter.unusedSimpArgs false
variable {w w' : World} {X X' S : Nat → Prop} {d sb mb clock : Nat} {es : Array MapEntry} {safe : List Int} {D : Dk}
/-- The round of the loop: the disk, the meta that counts. -/
def SwI (w : World) (d g k : Nat) (wr : World) : Prop := ∃ X D s r kk dd, LX w wr X d D ∧ ¬ X g ∧ w.heap.size ≤ g ∧ wr.heap[g]? = some (.cells #[.int .u64 s, .int .i64 r, .int .i64 kk, .int .i64 dd] 52 (0, 0)) ∧ MSw.Sw D s r kk dd ∧ s ≤ k + 1
set_option maxHeartbeats 4000000 in
set_option maxRecDepth 100000 in
theorem switches_good (A : Option Addr) (c : Nat) (l : List A4) (w : World) (hr : Kd.C KA4 w A l.length l) (hn : ∀ a ∈ l, -9223372036854775808 ≤ a.2.2.1 ∧ a.2.2.1 ≤ 9223372036854775807) (ht : ∀ a ∈ l, ∀ t ∈ a.2.2.2.2.2, -9223372036854775808 ≤ t.2 ∧ t.2 ≤ 9223372036854775807) :
    Calls Try.prog 12 #[.slice A l.length c] w fun e w' => e = .returned (.bool true) ∧ Below w.heap.size w w' := by
  have hlm : l.length ≤ 9223372036854775807 := hr.2.1
  have HR := Aside0.mk hr; have HN := Aside0.mk hn; have HT := Aside0.mk ht
  clear hr hn ht
  go_enter Try.func12, Try.ntmps12
  go_wp2_with fail
  refine (huge4_calls A c l w HR.out).mono ?_
  rintro e w1 ⟨⟨b, rfl, hb⟩, hd1⟩
  cases b with
  | true =>
    have HB1 := Aside0.mk hd1.below
    clear hb hd1
    go_wp2_with fail
    refine (live4_calls _).mono ?_
    rintro e w2 ⟨rfl, hb2⟩
    have HB2 := Aside0.mk (below_step HB1.out hb2)
    clear hb2
    go_wp2_with fail
    go_ret
    exact ⟨rfl, HB2.out⟩
  | false =>
  have h60 : l.length ≤ 60 := hb rfl
  have HB1 := Aside0.mk hd1.below
  clear hb hd1
  go_wp2_with fail
  refine (LS.new_at HB1.out 8 64 (by decide) (by decide) (by decide) (by decide)).mono ?_
  rintro e w2 ⟨d, rfl, h2, _⟩
  have H2 := Aside0.mk (show LX w w2 _ d (Dk.made 8 64) from h2.lx)
  clear h2
  go_wp2_with fail
  refine (num4_calls 0 w2).mono ?_
  rintro e w3 ⟨rfl, hd3⟩
  have H3 := Aside0.mk (H2.out.step hd3.below)
  clear hd3
  go_wp2_with fail
  refine (H3.out.mwrite 2 1 0 0 0 (by decide)).mono ?_
  rintro e w4 ⟨rfl, X4, h4, _⟩
  rw [MSw.e0]
  have H4 := Aside0.mk h4
  clear h4
  go_wp2_with fail
  refine (num4_calls 0 w4).mono ?_
  rintro e w5 ⟨rfl, hd5⟩
  have H5 := Aside0.mk (H4.out.step hd5.below)
  clear hd5
  go_wp2_with fail
  refine (H5.out.sync).mono ?_
  rintro e w6 ⟨rfl, X6, h6, _⟩
  rw [MSw.e1]
  have H6 := Aside0.mk h6
  clear h6
  go_wp2_with fail
  refine (num4_calls 0 w6).mono ?_
  rintro e w7 ⟨rfl, hd7⟩
  have H7 := Aside0.mk (H6.out.step hd7.below)
  clear hd7
  obtain ⟨g, hg⟩ : ∃ g, g = w7.heap.size := ⟨_, rfl⟩
  obtain ⟨W8, hW8⟩ : ∃ W, W = w7.alloc (.cells #[.int .u64 1, .int .i64 0, .int .i64 0, .int .i64 0] 52) := ⟨_, rfl⟩
  have H8 : Aside0 (SwI w d g 0 W8) := ⟨by
    have hb : Below w7.heap.size w7 W8 := by rw [hW8]; exact below_alloc (Below.refl _ _) _
    refine ⟨_, _, 1, 0, 0, 0, H7.out.step hb, fun hx => ?_, ?_, ?_, MSw.sw0, by decide⟩
    · have := H7.out.hi _ hx; omega
    · rw [hg]; exact H7.out.bel.size
    · rw [hW8, hg]; exact blk_new w7 _⟩
  go_wp2_with fail
  rw [← hW8, ← hg]
  clear hW8 hg H7 H6 H5 H4 H3 H2
  go_loopw [6] (fun i wr => ∃ k : Nat, k ≤ l.length ∧ i = .int .i64 (k : Int) ∧ Aside0 (SwI w d g k wr)) (fun i _ => l.length - (intOf i).toNat)
  case atStart => exact ⟨0, Nat.zero_le _, rfl, H8⟩
  case round =>
    obtain ⟨k, hk, rfl, HI⟩ := hrel
    by_cases hlt : k < l.length
    · obtain ⟨X, D, s, r, kk, dd, hL, hgX, hgl, hgb, hS, hsk⟩ := HI.out
      obtain ⟨ad, hA, Ap, cp, Ak, ck, At, ct, x0, x1, x2, x3, x4, x5, x6, x7, x8, _, ⟨ck1, kk1⟩, ⟨ct1, kt1⟩⟩ := act_get (HR.out) hlt
      subst hA
      have HNk := HN.out _ (List.getElem_mem hlt)
      have HTk := HT.out _ (List.getElem_mem hlt)
      obtain ⟨y, hy⟩ : ∃ y, y = l[k] := ⟨_, rfl⟩
      rw [← hy] at x1 x2 x3 x4 x5 x7 x8 ck1 kk1 ct1 kt1 HNk HTk
      obtain ⟨y0, ⟨ys, yr, yk, yd⟩, yn, yp, yK, yT⟩ := y
      simp only at x1 x2 x3 x4 x5 x7 x8 ck1 kk1 ct1 kt1 HNk HTk
      clear hy x0 x6
      have HC := Aside0.mk (And.intro x5 (And.intro x7 x8))
      have HK1 := Aside0.mk (And.intro (And.intro ck1 kk1) (And.intro ct1 kt1))
      have HNT := Aside0.mk (And.intro HNk HTk)
      clear x5 x7 x8 ck1 kk1 ct1 kt1 HNk HTk
      have HL := Aside0.mk hL; have HG := Aside0.mk (And.intro hgX (And.intro hgl hgb)); have HS := Aside0.mk (And.intro hS hsk)
      have a1 := pw_cell_below hL.bel x1; have a2 := pw_cell_below hL.bel x2; have a3 := pw_cell_below hL.bel x3; have a4 := pw_cell_below hL.bel x4
      have hbA : Below wr.heap.size wr (wr.alloc (.cells #[.int .u64 (s + 1), .int .i64 yr, .int .i64 yk, .int .i64 yd] 52)) := below_alloc (Below.refl _ _) _
      have c5 := pw_cell_below hbA (pw_cell_below hL.bel HC.out.1)
      have b0 := blk_cell (blk_alloc hgb (.cells #[.int .u64 ys, .int .i64 yr, .int .i64 yk, .int .i64 yd] 52)) 0
      simp only [List.getElem?_toArray, List.getElem?_cons_zero] at b0
      have hw2 : IntKind.u64.wrap (s + 1) = s + 1 := u64_small (by have := hS.hs; omega) (by have := hS.hs; omega)
      clear hL hgX hgl hgb hS hsk x1 x2 x3 x4 hbA
      obtain ⟨g7, hg7⟩ : ∃ g, g = wr.heap.size := ⟨_, rfl⟩
      obtain ⟨W1, hW1⟩ : ∃ W, W = wr.alloc (.cells #[.int .u64 (s + 1), .int .i64 yr, .int .i64 yk, .int .i64 yd] 52) := ⟨_, rfl⟩
      have HW1 : Aside0 (Blks w W1 X d D g (.cells #[.int .u64 s, .int .i64 r, .int .i64 kk, .int .i64 dd] 52) g7 (.cells #[.int .u64 (s + 1), .int .i64 yr, .int .i64 yk, .int .i64 yd] 52)) := ⟨by
        have hL := HL.out
        have hx7 : ¬ X g7 := fun hx => by have := hL.hi _ hx; omega
        exact ⟨by rw [hW1]; exact hL.step (below_alloc (Below.refl _ _) _), HG.out.1, HG.out.2.1, by rw [hW1]; exact blk_alloc HG.out.2.2 _, hx7, by rw [hg7]; exact hL.bel.size, by rw [hW1, hg7]; exact blk_new wr _⟩⟩
      go_wp2_with fail
      rw [← hW1, ← hg7]
      clear hW1 hg7 c5 b0 a1 a2 a3 a4 HL HG
      refine (HW1.out.lx.arm yn HNT.out.1).mono ?_
      rintro e w2 ⟨rfl, h2⟩
      obtain ⟨X2, h2⟩ := HW1.out.nxt h2
      have hm2 := h2.h2
      have H2 := Aside0.mk h2
      have m0 := blk_cell hm2 0; have m1 := blk_cell hm2 1; have m2 := blk_cell hm2 2; have m3 := blk_cell hm2 3
      simp only [List.getElem?_toArray, List.getElem?_cons_zero, List.getElem?_cons_succ] at m0 m1 m2 m3
      clear h2 hm2 HW1
      go_wp2_with fail
      refine (H2.out.lx.mwrite 2 (s + 1) yr yk yd (by have := HS.out.1.hs; omega)).mono ?_
      rintro e w3 ⟨rfl, h3⟩
      have hround := HS.out.1.round (by have := HS.out.2; omega) yn yr yk yd yK yT
      obtain ⟨X3, h3⟩ := H2.out.nxt h3
      have hE20 : ((D.armed yn).mwriteE 2 (s + 1) yr yk yd : Int) = (D.armed yn).mwriteE 2 (s + 1) yr yk yd := rfl
      obtain ⟨E, hE⟩ : ∃ E, E = (D.armed yn).mwriteE 2 (s + 1) yr yk yd := ⟨_, rfl⟩
      obtain ⟨D3, hD3⟩ : ∃ D3, D3 = (D.armed yn).mwritten 2 (s + 1) yr yk yd := ⟨_, rfl⟩
      rw [← hE, ← hD3] at hround
      rw [← hD3] at h3
      rw [← hE]
      have H3 := Aside0.mk h3
      have HRD := Aside0.mk hround
      clear m0 m1 m2 m3 hE hD3 h3 hround H2 hE20 hw2
      go_wp2_with fail
      refine (num4_calls E w3).mono ?_
      rintro e w4 ⟨rfl, hd4⟩
      have H4 := Aside0.mk (H3.out.step hd4.below)
      clear hd4 H3
      by_cases hE2 : E = 2
      · have hb2 : (E == 2) = true := by simpa using hE2
        have HS2 := Aside0.mk (HRD.out.1 hE2)
        clear hE2 HRD
        go_wp2_with fail
        refine (H4.out.lx.arm (-1) (by decide)).mono ?_
        rintro e w5 ⟨rfl, h5⟩
        obtain ⟨X5, h5⟩ := H4.out.nxt h5
        have H5 : Aside0 (SwI w d g (k + 1) w5) := ⟨⟨X5, _, s, r, kk, dd, h5.lx, h5.n1, h5.l1, h5.h1, HS2.out, by have := HS.out.2; omega⟩⟩
        clear h5
        go_wp2_with fail
        go_roundw
        case rel => exact ⟨k + 1, by omega, by go_num, H5⟩
        case measure => simp [intOf]; omega
      have hb2 : (E == 2) = false := by simpa using hE2
      have HE2 := Aside0.mk hE2
      clear hE2
      go_wp2_with fail
      refine (num4_calls E w4).mono ?_
      rintro e w5 ⟨rfl, hd5⟩
      have H5 := Aside0.mk (H4.out.step hd5.below)
      clear hd5 H4 hb2
      by_cases hE0 : E = 0
      · have hb0 : (E == 0) = true := by simpa using hE0
        have hS0 := HRD.out.2.2 hE0
        subst hE0
        clear HRD HE2
        go_wp2_with fail
        refine (H5.out.lx.sync).mono ?_
        rintro e w6 ⟨rfl, h6⟩
        obtain ⟨X6, h6⟩ := H5.out.nxt h6
        obtain ⟨gE, hgE⟩ : ∃ gE, gE = D3.beginE := ⟨_, rfl⟩
        obtain ⟨DC, hDC⟩ : ∃ DC, DC = D3.synced := ⟨_, rfl⟩
        rw [← hgE] at hS0 ⊢
        rw [← hDC] at hS0 h6
        have HT1 := Aside0.mk h6
        have HT2 := Aside0.mk hS0
        clear h6 hS0 hgE hDC hb0 H5
        go_wp2_with fail
        have x7 := pw_cell_below HT1.out.lx.bel HC.out.2.1
        have x8 := pw_cell_below HT1.out.lx.bel HC.out.2.2
        have HCR : Aside0 (∀ W, Below w6.heap.size w6 W → Calls Try.prog 22 #[.pointer (some ⟨d, 0, none⟩), .slice Ak yK.length ck, .slice At yT.length ct] W fun e w' => e = .returned (.tuple #[]) ∧ Nxt w W X6 w' d (DC.crashed yK yT)) := ⟨fun W hW => by
          have h := HT1.out.step hW
          exact h.lx.crash yK yT Ak At ck ct (Kd.C_kept_came (Kd.heap_int _) HK1.out.1.2 h.lx.bel h.lx.lo) (Kd.C_kept_came heap_KT HK1.out.2.2 h.lx.bel h.lx.lo) HNT.out.2⟩
        go_region_law (go_simp; go_at_call 22; refine (HCR.out _ (below_drew (Below.refl _ _))).mono ?_; rintro e w7 ⟨rfl, h7⟩; obtain ⟨X7, h7⟩ := (HT1.out.step (below_drew (Below.refl _ _))).nxt h7; have H7 := Aside0.mk h7; clear h7)
        all_goals clear x7 x8 HCR
        all_goals go_wp2_with fail
        all_goals rcases HT2.out with hS | ⟨hne, hS⟩
        · have HS7 := Aside0.mk hS
          refine (H7.out.lx.best 2).mono ?_
          rintro e w8 ⟨rfl, hb8⟩
          rw [hS.best]
          simp only
          clear hS
          obtain ⟨g10, hg10⟩ : ∃ g, g = w8.heap.size := ⟨_, rfl⟩
          obtain ⟨W8, hW8⟩ : ∃ W, W = w8.alloc (.cells #[.int .u64 (s + 1), .int .i64 yr, .int .i64 yk, .int .i64 yd] 52) := ⟨_, rfl⟩
          have hb : Below w7.heap.size w7 W8 := by rw [hW8]; exact below_alloc hb8 _
          have hx8 : W8.heap[g10]? = some (.cells #[.int .u64 (s + 1), .int .i64 yr, .int .i64 yk, .int .i64 yd] 52) := by rw [hW8, hg10]; exact blk_new w8 _
          have H8 := Aside0.mk (And.intro (H7.out.step hb) hx8)
          clear hb hb8 hx8
          go_wp2_with fail
          rw [← hW8, ← hg10]
          clear hW8 hg10
          refine (num4_calls 0 W8).mono ?_
          rintro e w9 ⟨rfl, hd9⟩
          have h9 := H8.out.1.step hd9.below
          have hx9 := (hd9.below.block g10 (blk_lt H8.out.2)).trans H8.out.2
          have hm9 := h9.h2; have hg9 := h9.h1
          have H9 := Aside0.mk h9
          have z0 := blk_cell hx9 0; have z1 := blk_cell hx9 1; have z2 := blk_cell hx9 2; have z3 := blk_cell hx9 3
          have n0 := blk_cell hm9 0; have n1 := blk_cell hm9 1; have n2 := blk_cell hm9 2; have n3 := blk_cell hm9 3
          have b0 := blk_cell hg9 0; have b1 := blk_cell hg9 1; have b2 := blk_cell hg9 2; have b3 := blk_cell hg9 3
          have f0 := blk_frozen hg9 0; have f1 := blk_frozen hg9 1; have f2 := blk_frozen hg9 2; have f3 := blk_frozen hg9 3
          simp only [List.getElem?_toArray, List.getElem?_cons_zero, List.getElem?_cons_succ] at z0 z1 z2 z3 n0 n1 n2 n3 b0 b1 b2 b3
          have HG9 := Aside0.mk hg9
          have HX9 := Aside0.mk hx9
          clear h9 hx9 hm9 hg9 hd9 H8 H7
          go_wp2_with fail
          have HF : Aside0 (SwI w d g (k + 1) ((((w9.setCell ⟨g, 0, none⟩ (.int .u64 (s + 1))).setCell ⟨g, 1, none⟩ (.int .i64 yr)).setCell ⟨g, 2, none⟩ (.int .i64 yk)).setCell ⟨g, 3, none⟩ (.int .i64 yd))) := ⟨⟨_, _, (s + 1), yr, yk, yd, ((((H9.out.lx.set H9.out.n1 H9.out.l1 0 _).set H9.out.n1 H9.out.l1 1 _).set H9.out.n1 H9.out.l1 2 _).set H9.out.n1 H9.out.l1 3 _), H9.out.n1, H9.out.l1, set4 HG9.out, HS7.out, by have := HS.out.2; omega⟩⟩
          go_roundw
          case rel => exact ⟨k + 1, by omega, by go_num, HF⟩
          case measure => simp [intOf]; omega
        · have HS7 := Aside0.mk hS
          refine (H7.out.lx.best 2).mono ?_
          rintro e w8 ⟨rfl, hb8⟩
          rw [hS.best]
          simp only
          clear hS
          obtain ⟨g10, hg10⟩ : ∃ g, g = w8.heap.size := ⟨_, rfl⟩
          obtain ⟨W8, hW8⟩ : ∃ W, W = w8.alloc (.cells #[.int .u64 s, .int .i64 r, .int .i64 kk, .int .i64 dd] 52) := ⟨_, rfl⟩
          have hb : Below w7.heap.size w7 W8 := by rw [hW8]; exact below_alloc hb8 _
          have hx8 : W8.heap[g10]? = some (.cells #[.int .u64 s, .int .i64 r, .int .i64 kk, .int .i64 dd] 52) := by rw [hW8, hg10]; exact blk_new w8 _
          have H8 := Aside0.mk (And.intro (H7.out.step hb) hx8)
          clear hb hb8 hx8
          go_wp2_with fail
          rw [← hW8, ← hg10]
          clear hW8 hg10
          refine (num4_calls 0 W8).mono ?_
          rintro e w9 ⟨rfl, hd9⟩
          have h9 := H8.out.1.step hd9.below
          have hx9 := (hd9.below.block g10 (blk_lt H8.out.2)).trans H8.out.2
          have hm9 := h9.h2; have hg9 := h9.h1
          have H9 := Aside0.mk h9
          have z0 := blk_cell hx9 0; have z1 := blk_cell hx9 1; have z2 := blk_cell hx9 2; have z3 := blk_cell hx9 3
          have n0 := blk_cell hm9 0; have n1 := blk_cell hm9 1; have n2 := blk_cell hm9 2; have n3 := blk_cell hm9 3
          have b0 := blk_cell hg9 0; have b1 := blk_cell hg9 1; have b2 := blk_cell hg9 2; have b3 := blk_cell hg9 3
          have f0 := blk_frozen hg9 0; have f1 := blk_frozen hg9 1; have f2 := blk_frozen hg9 2; have f3 := blk_frozen hg9 3
          simp only [List.getElem?_toArray, List.getElem?_cons_zero, List.getElem?_cons_succ] at z0 z1 z2 z3 n0 n1 n2 n3 b0 b1 b2 b3
          have HG9 := Aside0.mk hg9
          have HX9 := Aside0.mk hx9
          clear h9 hx9 hm9 hg9 hd9 H8 H7
          have htf : decide (s = s + 1 ∧ r = yr ∧ kk = yk ∧ dd = yd) = false := decide_eq_false (fun hx => by omega)
          have hgE : (gE == 0) = false := by simpa using hne
          go_wp2_with fail
          refine (num4_calls gE w9).mono ?_
          rintro e w10 ⟨rfl, ⟨nd, rfl⟩⟩
          go_wp2_with fail
          have HF : Aside0 (SwI w d g (k + 1) (((((w9.drewN nd).setCell ⟨g, 0, none⟩ (.int .u64 s)).setCell ⟨g, 1, none⟩ (.int .i64 r)).setCell ⟨g, 2, none⟩ (.int .i64 kk)).setCell ⟨g, 3, none⟩ (.int .i64 dd))) := ⟨by
            have h9 := H9.out.step (pw_below_drewN (Below.refl _ _) nd)
            exact ⟨_, _, s, r, kk, dd, ((((h9.lx.set h9.n1 h9.l1 0 _).set h9.n1 h9.l1 1 _).set h9.n1 h9.l1 2 _).set h9.n1 h9.l1 3 _), h9.n1, h9.l1, set4 h9.h1, HS7.out, by have := HS.out.2; omega⟩⟩
          go_roundw
          case rel => exact ⟨k + 1, by omega, by go_num, HF⟩
          case measure => simp [intOf]; omega
        · have HS7 := Aside0.mk hS
          refine (H7.out.lx.best 2).mono ?_
          rintro e w8 ⟨rfl, hb8⟩
          rw [hS.best]
          simp only
          clear hS
          obtain ⟨g10, hg10⟩ : ∃ g, g = w8.heap.size := ⟨_, rfl⟩
          obtain ⟨W8, hW8⟩ : ∃ W, W = w8.alloc (.cells #[.int .u64 (s + 1), .int .i64 yr, .int .i64 yk, .int .i64 yd] 52) := ⟨_, rfl⟩
          have hb : Below w7.heap.size w7 W8 := by rw [hW8]; exact below_alloc hb8 _
          have hx8 : W8.heap[g10]? = some (.cells #[.int .u64 (s + 1), .int .i64 yr, .int .i64 yk, .int .i64 yd] 52) := by rw [hW8, hg10]; exact blk_new w8 _
          have H8 := Aside0.mk (And.intro (H7.out.step hb) hx8)
          clear hb hb8 hx8
          go_wp2_with fail
          rw [← hW8, ← hg10]
          clear hW8 hg10
          refine (num4_calls 0 W8).mono ?_
          rintro e w9 ⟨rfl, hd9⟩
          have h9 := H8.out.1.step hd9.below
          have hx9 := (hd9.below.block g10 (blk_lt H8.out.2)).trans H8.out.2
          have hm9 := h9.h2; have hg9 := h9.h1
          have H9 := Aside0.mk h9
          have z0 := blk_cell hx9 0; have z1 := blk_cell hx9 1; have z2 := blk_cell hx9 2; have z3 := blk_cell hx9 3
          have n0 := blk_cell hm9 0; have n1 := blk_cell hm9 1; have n2 := blk_cell hm9 2; have n3 := blk_cell hm9 3
          have b0 := blk_cell hg9 0; have b1 := blk_cell hg9 1; have b2 := blk_cell hg9 2; have b3 := blk_cell hg9 3
          have f0 := blk_frozen hg9 0; have f1 := blk_frozen hg9 1; have f2 := blk_frozen hg9 2; have f3 := blk_frozen hg9 3
          simp only [List.getElem?_toArray, List.getElem?_cons_zero, List.getElem?_cons_succ] at z0 z1 z2 z3 n0 n1 n2 n3 b0 b1 b2 b3
          have HG9 := Aside0.mk hg9
          have HX9 := Aside0.mk hx9
          clear h9 hx9 hm9 hg9 hd9 H8 H7
          go_wp2_with fail
          have HF : Aside0 (SwI w d g (k + 1) ((((w9.setCell ⟨g, 0, none⟩ (.int .u64 (s + 1))).setCell ⟨g, 1, none⟩ (.int .i64 yr)).setCell ⟨g, 2, none⟩ (.int .i64 yk)).setCell ⟨g, 3, none⟩ (.int .i64 yd))) := ⟨⟨_, _, (s + 1), yr, yk, yd, ((((H9.out.lx.set H9.out.n1 H9.out.l1 0 _).set H9.out.n1 H9.out.l1 1 _).set H9.out.n1 H9.out.l1 2 _).set H9.out.n1 H9.out.l1 3 _), H9.out.n1, H9.out.l1, set4 HG9.out, HS7.out, by have := HS.out.2; omega⟩⟩
          go_roundw
          case rel => exact ⟨k + 1, by omega, by go_num, HF⟩
          case measure => simp [intOf]; omega
        · have HS7 := Aside0.mk hS
          refine (H7.out.lx.best 2).mono ?_
          rintro e w8 ⟨rfl, hb8⟩
          rw [hS.best]
          simp only
          clear hS
          obtain ⟨g10, hg10⟩ : ∃ g, g = w8.heap.size := ⟨_, rfl⟩
          obtain ⟨W8, hW8⟩ : ∃ W, W = w8.alloc (.cells #[.int .u64 s, .int .i64 r, .int .i64 kk, .int .i64 dd] 52) := ⟨_, rfl⟩
          have hb : Below w7.heap.size w7 W8 := by rw [hW8]; exact below_alloc hb8 _
          have hx8 : W8.heap[g10]? = some (.cells #[.int .u64 s, .int .i64 r, .int .i64 kk, .int .i64 dd] 52) := by rw [hW8, hg10]; exact blk_new w8 _
          have H8 := Aside0.mk (And.intro (H7.out.step hb) hx8)
          clear hb hb8 hx8
          go_wp2_with fail
          rw [← hW8, ← hg10]
          clear hW8 hg10
          refine (num4_calls 0 W8).mono ?_
          rintro e w9 ⟨rfl, hd9⟩
          have h9 := H8.out.1.step hd9.below
          have hx9 := (hd9.below.block g10 (blk_lt H8.out.2)).trans H8.out.2
          have hm9 := h9.h2; have hg9 := h9.h1
          have H9 := Aside0.mk h9
          have z0 := blk_cell hx9 0; have z1 := blk_cell hx9 1; have z2 := blk_cell hx9 2; have z3 := blk_cell hx9 3
          have n0 := blk_cell hm9 0; have n1 := blk_cell hm9 1; have n2 := blk_cell hm9 2; have n3 := blk_cell hm9 3
          have b0 := blk_cell hg9 0; have b1 := blk_cell hg9 1; have b2 := blk_cell hg9 2; have b3 := blk_cell hg9 3
          have f0 := blk_frozen hg9 0; have f1 := blk_frozen hg9 1; have f2 := blk_frozen hg9 2; have f3 := blk_frozen hg9 3
          simp only [List.getElem?_toArray, List.getElem?_cons_zero, List.getElem?_cons_succ] at z0 z1 z2 z3 n0 n1 n2 n3 b0 b1 b2 b3
          have HG9 := Aside0.mk hg9
          have HX9 := Aside0.mk hx9
          clear h9 hx9 hm9 hg9 hd9 H8 H7
          have htf : decide (s = s + 1 ∧ r = yr ∧ kk = yk ∧ dd = yd) = false := decide_eq_false (fun hx => by omega)
          have hgE : (gE == 0) = false := by simpa using hne
          go_wp2_with fail
          refine (num4_calls gE w9).mono ?_
          rintro e w10 ⟨rfl, ⟨nd, rfl⟩⟩
          go_wp2_with fail
          have HF : Aside0 (SwI w d g (k + 1) (((((w9.drewN nd).setCell ⟨g, 0, none⟩ (.int .u64 s)).setCell ⟨g, 1, none⟩ (.int .i64 r)).setCell ⟨g, 2, none⟩ (.int .i64 kk)).setCell ⟨g, 3, none⟩ (.int .i64 dd))) := ⟨by
            have h9 := H9.out.step (pw_below_drewN (Below.refl _ _) nd)
            exact ⟨_, _, s, r, kk, dd, ((((h9.lx.set h9.n1 h9.l1 0 _).set h9.n1 h9.l1 1 _).set h9.n1 h9.l1 2 _).set h9.n1 h9.l1 3 _), h9.n1, h9.l1, set4 h9.h1, HS7.out, by have := HS.out.2; omega⟩⟩
          go_roundw
          case rel => exact ⟨k + 1, by omega, by go_num, HF⟩
          case measure => simp [intOf]; omega
      · have hb0 : (E == 0) = false := by simpa using hE0
        have hS0 := HRD.out.2.1 HE2.out hE0
        have HT2 : Aside0 (MSw.Sw (D3.crashed yK yT) (s + 1) yr yk yd ∨ ((1 : Int) ≠ 0 ∧ MSw.Sw (D3.crashed yK yT) s r kk dd)) := ⟨.inr ⟨by decide, hS0⟩⟩
        clear HRD HE2 hS0
        go_wp2_with fail
        obtain ⟨X6, h6⟩ : ∃ X6, X6 = X3 := ⟨_, rfl⟩
        rw [← h6] at H5
        obtain ⟨w6, h6'⟩ : ∃ W, W = w5 := ⟨_, rfl⟩
        rw [← h6'] at H5 ⊢
        have HT1 := H5
        clear H5 h6 h6'
        have x7 := pw_cell_below HT1.out.lx.bel HC.out.2.1
        have x8 := pw_cell_below HT1.out.lx.bel HC.out.2.2
        have HCR : Aside0 (∀ W, Below w6.heap.size w6 W → Calls Try.prog 22 #[.pointer (some ⟨d, 0, none⟩), .slice Ak yK.length ck, .slice At yT.length ct] W fun e w' => e = .returned (.tuple #[]) ∧ Nxt w W X6 w' d (D3.crashed yK yT)) := ⟨fun W hW => by
          have h := HT1.out.step hW
          exact h.lx.crash yK yT Ak At ck ct (Kd.C_kept_came (Kd.heap_int _) HK1.out.1.2 h.lx.bel h.lx.lo) (Kd.C_kept_came heap_KT HK1.out.2.2 h.lx.bel h.lx.lo) HNT.out.2⟩
        go_region_law (go_simp; go_at_call 22; refine (HCR.out _ (below_drew (Below.refl _ _))).mono ?_; rintro e w7 ⟨rfl, h7⟩; obtain ⟨X7, h7⟩ := (HT1.out.step (below_drew (Below.refl _ _))).nxt h7; have H7 := Aside0.mk h7; clear h7)
        all_goals clear x7 x8 HCR
        all_goals go_wp2_with fail
        all_goals rcases HT2.out with hS | ⟨hne, hS⟩
        · have HS7 := Aside0.mk hS
          refine (H7.out.lx.best 2).mono ?_
          rintro e w8 ⟨rfl, hb8⟩
          rw [hS.best]
          simp only
          clear hS
          obtain ⟨g10, hg10⟩ : ∃ g, g = w8.heap.size := ⟨_, rfl⟩
          obtain ⟨W8, hW8⟩ : ∃ W, W = w8.alloc (.cells #[.int .u64 (s + 1), .int .i64 yr, .int .i64 yk, .int .i64 yd] 52) := ⟨_, rfl⟩
          have hb : Below w7.heap.size w7 W8 := by rw [hW8]; exact below_alloc hb8 _
          have hx8 : W8.heap[g10]? = some (.cells #[.int .u64 (s + 1), .int .i64 yr, .int .i64 yk, .int .i64 yd] 52) := by rw [hW8, hg10]; exact blk_new w8 _
          have H8 := Aside0.mk (And.intro (H7.out.step hb) hx8)
          clear hb hb8 hx8
          go_wp2_with fail
          rw [← hW8, ← hg10]
          clear hW8 hg10
          refine (num4_calls 0 W8).mono ?_
          rintro e w9 ⟨rfl, hd9⟩
          have h9 := H8.out.1.step hd9.below
          have hx9 := (hd9.below.block g10 (blk_lt H8.out.2)).trans H8.out.2
          have hm9 := h9.h2; have hg9 := h9.h1
          have H9 := Aside0.mk h9
          have z0 := blk_cell hx9 0; have z1 := blk_cell hx9 1; have z2 := blk_cell hx9 2; have z3 := blk_cell hx9 3
          have n0 := blk_cell hm9 0; have n1 := blk_cell hm9 1; have n2 := blk_cell hm9 2; have n3 := blk_cell hm9 3
          have b0 := blk_cell hg9 0; have b1 := blk_cell hg9 1; have b2 := blk_cell hg9 2; have b3 := blk_cell hg9 3
          have f0 := blk_frozen hg9 0; have f1 := blk_frozen hg9 1; have f2 := blk_frozen hg9 2; have f3 := blk_frozen hg9 3
          simp only [List.getElem?_toArray, List.getElem?_cons_zero, List.getElem?_cons_succ] at z0 z1 z2 z3 n0 n1 n2 n3 b0 b1 b2 b3
          have HG9 := Aside0.mk hg9
          have HX9 := Aside0.mk hx9
          clear h9 hx9 hm9 hg9 hd9 H8 H7
          go_wp2_with fail
          have HF : Aside0 (SwI w d g (k + 1) ((((w9.setCell ⟨g, 0, none⟩ (.int .u64 (s + 1))).setCell ⟨g, 1, none⟩ (.int .i64 yr)).setCell ⟨g, 2, none⟩ (.int .i64 yk)).setCell ⟨g, 3, none⟩ (.int .i64 yd))) := ⟨⟨_, _, (s + 1), yr, yk, yd, ((((H9.out.lx.set H9.out.n1 H9.out.l1 0 _).set H9.out.n1 H9.out.l1 1 _).set H9.out.n1 H9.out.l1 2 _).set H9.out.n1 H9.out.l1 3 _), H9.out.n1, H9.out.l1, set4 HG9.out, HS7.out, by have := HS.out.2; omega⟩⟩
          go_roundw
          case rel => exact ⟨k + 1, by omega, by go_num, HF⟩
          case measure => simp [intOf]; omega
        · have HS7 := Aside0.mk hS
          refine (H7.out.lx.best 2).mono ?_
          rintro e w8 ⟨rfl, hb8⟩
          rw [hS.best]
          simp only
          clear hS
          obtain ⟨g10, hg10⟩ : ∃ g, g = w8.heap.size := ⟨_, rfl⟩
          obtain ⟨W8, hW8⟩ : ∃ W, W = w8.alloc (.cells #[.int .u64 s, .int .i64 r, .int .i64 kk, .int .i64 dd] 52) := ⟨_, rfl⟩
          have hb : Below w7.heap.size w7 W8 := by rw [hW8]; exact below_alloc hb8 _
          have hx8 : W8.heap[g10]? = some (.cells #[.int .u64 s, .int .i64 r, .int .i64 kk, .int .i64 dd] 52) := by rw [hW8, hg10]; exact blk_new w8 _
          have H8 := Aside0.mk (And.intro (H7.out.step hb) hx8)
          clear hb hb8 hx8
          go_wp2_with fail
          rw [← hW8, ← hg10]
          clear hW8 hg10
          refine (num4_calls 0 W8).mono ?_
          rintro e w9 ⟨rfl, hd9⟩
          have h9 := H8.out.1.step hd9.below
          have hx9 := (hd9.below.block g10 (blk_lt H8.out.2)).trans H8.out.2
          have hm9 := h9.h2; have hg9 := h9.h1
          have H9 := Aside0.mk h9
          have z0 := blk_cell hx9 0; have z1 := blk_cell hx9 1; have z2 := blk_cell hx9 2; have z3 := blk_cell hx9 3
          have n0 := blk_cell hm9 0; have n1 := blk_cell hm9 1; have n2 := blk_cell hm9 2; have n3 := blk_cell hm9 3
          have b0 := blk_cell hg9 0; have b1 := blk_cell hg9 1; have b2 := blk_cell hg9 2; have b3 := blk_cell hg9 3
          have f0 := blk_frozen hg9 0; have f1 := blk_frozen hg9 1; have f2 := blk_frozen hg9 2; have f3 := blk_frozen hg9 3
          simp only [List.getElem?_toArray, List.getElem?_cons_zero, List.getElem?_cons_succ] at z0 z1 z2 z3 n0 n1 n2 n3 b0 b1 b2 b3
          have HG9 := Aside0.mk hg9
          have HX9 := Aside0.mk hx9
          clear h9 hx9 hm9 hg9 hd9 H8 H7
          have htf : decide (s = s + 1 ∧ r = yr ∧ kk = yk ∧ dd = yd) = false := decide_eq_false (fun hx => by omega)
          go_wp2_with fail
          refine (num4_calls 1 w9).mono ?_
          rintro e w10 ⟨rfl, ⟨nd, rfl⟩⟩
          go_wp2_with fail
          have HF : Aside0 (SwI w d g (k + 1) (((((w9.drewN nd).setCell ⟨g, 0, none⟩ (.int .u64 s)).setCell ⟨g, 1, none⟩ (.int .i64 r)).setCell ⟨g, 2, none⟩ (.int .i64 kk)).setCell ⟨g, 3, none⟩ (.int .i64 dd))) := ⟨by
            have h9 := H9.out.step (pw_below_drewN (Below.refl _ _) nd)
            exact ⟨_, _, s, r, kk, dd, ((((h9.lx.set h9.n1 h9.l1 0 _).set h9.n1 h9.l1 1 _).set h9.n1 h9.l1 2 _).set h9.n1 h9.l1 3 _), h9.n1, h9.l1, set4 h9.h1, HS7.out, by have := HS.out.2; omega⟩⟩
          go_roundw
          case rel => exact ⟨k + 1, by omega, by go_num, HF⟩
          case measure => simp [intOf]; omega
        · have HS7 := Aside0.mk hS
          refine (H7.out.lx.best 2).mono ?_
          rintro e w8 ⟨rfl, hb8⟩
          rw [hS.best]
          simp only
          clear hS
          obtain ⟨g10, hg10⟩ : ∃ g, g = w8.heap.size := ⟨_, rfl⟩
          obtain ⟨W8, hW8⟩ : ∃ W, W = w8.alloc (.cells #[.int .u64 (s + 1), .int .i64 yr, .int .i64 yk, .int .i64 yd] 52) := ⟨_, rfl⟩
          have hb : Below w7.heap.size w7 W8 := by rw [hW8]; exact below_alloc hb8 _
          have hx8 : W8.heap[g10]? = some (.cells #[.int .u64 (s + 1), .int .i64 yr, .int .i64 yk, .int .i64 yd] 52) := by rw [hW8, hg10]; exact blk_new w8 _
          have H8 := Aside0.mk (And.intro (H7.out.step hb) hx8)
          clear hb hb8 hx8
          go_wp2_with fail
          rw [← hW8, ← hg10]
          clear hW8 hg10
          refine (num4_calls 0 W8).mono ?_
          rintro e w9 ⟨rfl, hd9⟩
          have h9 := H8.out.1.step hd9.below
          have hx9 := (hd9.below.block g10 (blk_lt H8.out.2)).trans H8.out.2
          have hm9 := h9.h2; have hg9 := h9.h1
          have H9 := Aside0.mk h9
          have z0 := blk_cell hx9 0; have z1 := blk_cell hx9 1; have z2 := blk_cell hx9 2; have z3 := blk_cell hx9 3
          have n0 := blk_cell hm9 0; have n1 := blk_cell hm9 1; have n2 := blk_cell hm9 2; have n3 := blk_cell hm9 3
          have b0 := blk_cell hg9 0; have b1 := blk_cell hg9 1; have b2 := blk_cell hg9 2; have b3 := blk_cell hg9 3
          have f0 := blk_frozen hg9 0; have f1 := blk_frozen hg9 1; have f2 := blk_frozen hg9 2; have f3 := blk_frozen hg9 3
          simp only [List.getElem?_toArray, List.getElem?_cons_zero, List.getElem?_cons_succ] at z0 z1 z2 z3 n0 n1 n2 n3 b0 b1 b2 b3
          have HG9 := Aside0.mk hg9
          have HX9 := Aside0.mk hx9
          clear h9 hx9 hm9 hg9 hd9 H8 H7
          go_wp2_with fail
          have HF : Aside0 (SwI w d g (k + 1) ((((w9.setCell ⟨g, 0, none⟩ (.int .u64 (s + 1))).setCell ⟨g, 1, none⟩ (.int .i64 yr)).setCell ⟨g, 2, none⟩ (.int .i64 yk)).setCell ⟨g, 3, none⟩ (.int .i64 yd))) := ⟨⟨_, _, (s + 1), yr, yk, yd, ((((H9.out.lx.set H9.out.n1 H9.out.l1 0 _).set H9.out.n1 H9.out.l1 1 _).set H9.out.n1 H9.out.l1 2 _).set H9.out.n1 H9.out.l1 3 _), H9.out.n1, H9.out.l1, set4 HG9.out, HS7.out, by have := HS.out.2; omega⟩⟩
          go_roundw
          case rel => exact ⟨k + 1, by omega, by go_num, HF⟩
          case measure => simp [intOf]; omega
        · have HS7 := Aside0.mk hS
          refine (H7.out.lx.best 2).mono ?_
          rintro e w8 ⟨rfl, hb8⟩
          rw [hS.best]
          simp only
          clear hS
          obtain ⟨g10, hg10⟩ : ∃ g, g = w8.heap.size := ⟨_, rfl⟩
          obtain ⟨W8, hW8⟩ : ∃ W, W = w8.alloc (.cells #[.int .u64 s, .int .i64 r, .int .i64 kk, .int .i64 dd] 52) := ⟨_, rfl⟩
          have hb : Below w7.heap.size w7 W8 := by rw [hW8]; exact below_alloc hb8 _
          have hx8 : W8.heap[g10]? = some (.cells #[.int .u64 s, .int .i64 r, .int .i64 kk, .int .i64 dd] 52) := by rw [hW8, hg10]; exact blk_new w8 _
          have H8 := Aside0.mk (And.intro (H7.out.step hb) hx8)
          clear hb hb8 hx8
          go_wp2_with fail
          rw [← hW8, ← hg10]
          clear hW8 hg10
          refine (num4_calls 0 W8).mono ?_
          rintro e w9 ⟨rfl, hd9⟩
          have h9 := H8.out.1.step hd9.below
          have hx9 := (hd9.below.block g10 (blk_lt H8.out.2)).trans H8.out.2
          have hm9 := h9.h2; have hg9 := h9.h1
          have H9 := Aside0.mk h9
          have z0 := blk_cell hx9 0; have z1 := blk_cell hx9 1; have z2 := blk_cell hx9 2; have z3 := blk_cell hx9 3
          have n0 := blk_cell hm9 0; have n1 := blk_cell hm9 1; have n2 := blk_cell hm9 2; have n3 := blk_cell hm9 3
          have b0 := blk_cell hg9 0; have b1 := blk_cell hg9 1; have b2 := blk_cell hg9 2; have b3 := blk_cell hg9 3
          have f0 := blk_frozen hg9 0; have f1 := blk_frozen hg9 1; have f2 := blk_frozen hg9 2; have f3 := blk_frozen hg9 3
          simp only [List.getElem?_toArray, List.getElem?_cons_zero, List.getElem?_cons_succ] at z0 z1 z2 z3 n0 n1 n2 n3 b0 b1 b2 b3
          have HG9 := Aside0.mk hg9
          have HX9 := Aside0.mk hx9
          clear h9 hx9 hm9 hg9 hd9 H8 H7
          have htf : decide (s = s + 1 ∧ r = yr ∧ kk = yk ∧ dd = yd) = false := decide_eq_false (fun hx => by omega)
          go_wp2_with fail
          refine (num4_calls 1 w9).mono ?_
          rintro e w10 ⟨rfl, ⟨nd, rfl⟩⟩
          go_wp2_with fail
          have HF : Aside0 (SwI w d g (k + 1) (((((w9.drewN nd).setCell ⟨g, 0, none⟩ (.int .u64 s)).setCell ⟨g, 1, none⟩ (.int .i64 r)).setCell ⟨g, 2, none⟩ (.int .i64 kk)).setCell ⟨g, 3, none⟩ (.int .i64 dd))) := ⟨by
            have h9 := H9.out.step (pw_below_drewN (Below.refl _ _) nd)
            exact ⟨_, _, s, r, kk, dd, ((((h9.lx.set h9.n1 h9.l1 0 _).set h9.n1 h9.l1 1 _).set h9.n1 h9.l1 2 _).set h9.n1 h9.l1 3 _), h9.n1, h9.l1, set4 h9.h1, HS7.out, by have := HS.out.2; omega⟩⟩
          go_roundw
          case rel => exact ⟨k + 1, by omega, by go_num, HF⟩
          case measure => simp [intOf]; omega
    · obtain rfl : k = l.length := by omega
      obtain ⟨X, D, s, r, kk, dd, hL, _⟩ := HI.out
      have HB := Aside0.mk hL.bel
      clear hL
      go_wp2_with fail
      refine (live4_calls _).mono ?_
      rintro e w2 ⟨rfl, hb2⟩
      have HB2 := Aside0.mk (below_step HB.out hb2)
      clear hb2
      go_wp2_with fail
      go_ret
      exact ⟨rfl, HB2.out⟩
end Go.Proofs.YteimienhaodfcaaK
