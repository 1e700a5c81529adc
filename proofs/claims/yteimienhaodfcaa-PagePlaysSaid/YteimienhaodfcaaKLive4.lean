/- A disk of the call's own; the life of law 4. -/
import Derived.Test.YteimienhaodfcaaKMetaC
import Derived.Test.YteimienhaodfcaaKFlow
import Derived.Test.YteimienhaodfcaaKClone
import Derived.Deep.QuietTactic
import Derived.BigQuiet
import Derived.Deep.RegionHeld3
import Derived.Lib.AppendZerosOnto
import Derived.Lib.SliceRun
import Derived.Lib.Walk
namespace Go.Proofs.YteimienhaodfcaaK
open Go.RowKit Go.Proofs.YteimienhaodfcaaW.PrintWords Go.Proofs.YteimienhaodfcaaW.PrintLast Go.Proofs.YteimienhaodfcaaW.PrintMore Go.Crc
open Go.ChangeMaps (setBlock)
attribute [local go_sem] max2_int min2_int max_two min_two
set_option linter.unusedVariables false
set_option linter.unusedSimpArgs false
variable {w w' : World} {X X' S : Nat → Prop} {d sb mb clock : Nat} {es : Array MapEntry} {safe : List Int} {D : Dk}
/-- A disk of the call's own, whose blocks all lie from base on. -/
structure LS (w W : World) (d : Nat) (D : Dk) : Prop where
  at_ : DAt W (fun k => w.heap.size ≤ k) d D
  bel : Below w.heap.size w W
section
variable {w W W2 : World} {d : Nat} {D : Dk}
theorem LS.step (h : LS w W d D) (hb : Below W.heap.size W W2) : LS w W2 d D := ⟨h.at_.below hb, below_step h.bel hb⟩
theorem LS.tight (h : LS w W d D) : ∃ sb mb es clock safe, DParts W (fun k => w.heap.size ≤ k ∧ k < W.heap.size) d sb mb es clock safe D := by
  obtain ⟨sb, mb, es, clock, safe, h⟩ := h.at_; exact ⟨sb, mb, es, clock, safe, h.bound⟩
theorem LS.of (h : LS w W d D) {X : Nat → Prop} {D' : Dk} (hX : ∀ k, X k → w.heap.size ≤ k) (hd : DAt W2 X d D') (hf : Frm (fun k => w.heap.size ≤ k) W W2) : LS w W2 d D' :=
  ⟨hd.mono hX, h.bel.trans (hf.below (fun _ hk => hk) h.bel.size)⟩
theorem LS.new (w : World) (s z : Nat) (h1 : 1 ≤ s) (h2 : s ≤ 65536) (h3 : 64 ≤ z) (h4 : z ≤ 1024) : Calls Try.prog 16 #[.int .i64 (s : Int), .int .i64 (z : Int)] w fun e w' => ∃ d, e = .returned (.tuple #[.pointer (some ⟨d, 0, none⟩), .int .i64 0]) ∧ LS w w' d (Dk.made s z) :=
  (new_ok s z h1 h2 h3 h4 w).mono fun e w' ⟨d, he, hd, hb⟩ => ⟨d, he, hd, hb⟩
/-- A disk made behind the base. -/
theorem LS.new_at {w W : World} (hb : Below w.heap.size w W) (s z : Nat) (h1 : 1 ≤ s) (h2 : s ≤ 65536) (h3 : 64 ≤ z) (h4 : z ≤ 1024) : Calls Try.prog 16 #[.int .i64 (s : Int), .int .i64 (z : Int)] W fun e w' => ∃ d, e = .returned (.tuple #[.pointer (some ⟨d, 0, none⟩), .int .i64 0]) ∧ LS w w' d (Dk.made s z) ∧ Below W.heap.size W w' :=
  (new_ok s z h1 h2 h3 h4 W).mono fun e w' ⟨d, he, hd, hb'⟩ => ⟨d, he, ⟨hd.mono fun k hk => Nat.le_trans hb.size hk, below_step hb hb'⟩, hb'⟩
theorem LS.mwrite (h : LS w W d D) (per s r k dd : Int) (hs : 0 ≤ s ∧ s < 18446744073709551616) : Calls Try.prog 35 #[.pointer (some ⟨d, 0, none⟩), .int .i64 per, .agg #[.int .u64 s, .int .i64 r, .int .i64 k, .int .i64 dd]] W fun e w' => e = .returned (.int .i64 (D.mwriteE per s r k dd)) ∧ LS w w' d (D.mwritten per s r k dd) ∧ Frm (fun k => w.heap.size ≤ k ∧ k < W.heap.size) W w' := by
  obtain ⟨sb, mb, es, clock, safe, hp⟩ := h.tight
  refine (mwrite_calls hp per s r k dd hs).mono ?_
  rintro e w' ⟨he, h1, h2⟩
  exact ⟨he, h.of (fun k hk => hk.elim (fun h => h.1) (fun hk => Nat.le_trans h.bel.size hk)) h1 (h2.mono fun k hk => hk.1), h2⟩
theorem LS.best (h : LS w W d D) (per : Int) : Calls Try.prog 34 #[.pointer (some ⟨d, 0, none⟩), .int .i64 per] W fun e w' => BestPost D per W e w' ∧ LS w w' d D := by
  obtain ⟨sb, mb, es, clock, safe, hp⟩ := h.tight
  refine (best_calls hp per).mono ?_
  rintro e w' ⟨he, hb⟩
  exact ⟨⟨he, hb⟩, h.step hb⟩
theorem LS.sync (h : LS w W d D) : Calls Try.prog 19 #[.pointer (some ⟨d, 0, none⟩)] W fun e w' => e = .returned (.int .i64 D.beginE) ∧ LS w w' d D.synced ∧ Frm (fun k => w.heap.size ≤ k ∧ k < W.heap.size) W w' := by
  obtain ⟨sb, mb, es, clock, safe, hp⟩ := h.tight
  refine (sync_calls hp).mono ?_
  rintro e w' ⟨he, h1, h2⟩
  exact ⟨he, h.of (fun k hk => hk.1) h1 (h2.mono fun k hk => hk.1), h2⟩
theorem LS.write (h : LS w W d D) (n : Int) (A : Option Addr) (c : Nat) (xs : List (List Int)) (hr : Kd.C (Kd.slice 5 (Kd.int .u8)) W A xs.length xs) (hl : xs.flatten.length ≤ 1099511627776) (hby : Bytes xs.flatten) :
    Calls Try.prog 18 #[.pointer (some ⟨d, 0, none⟩), .int .i64 n, .slice A xs.length c] W fun e w' => e = .returned (.int .i64 (D.writeE n xs.flatten)) ∧ LS w w' d (D.written n xs.flatten) ∧ Frm (fun k => w.heap.size ≤ k ∧ k < W.heap.size) W w' := by
  obtain ⟨sb, mb, es, clock, safe, hp⟩ := h.tight
  refine (write_calls hp n A c xs hr hl hby).mono ?_
  rintro e w' ⟨he, h1, h2⟩
  exact ⟨he, h.of (fun k hk => hk.elim (fun h => h.1) (fun hk => Nat.le_trans h.bel.size hk)) h1 (h2.mono fun k hk => hk.1), h2⟩
theorem LS.read (h : LS w W d D) (n : Int) : Calls Try.prog 21 #[.pointer (some ⟨d, 0, none⟩), .int .i64 n] W fun e w' => ∃ v, e = .returned (.tuple #[v, .int .i64 (D.readE n)]) ∧ Kd.R (Kd.int .u8) 5 w' W.heap.size (fun _ => True) v (D.readB n) ∧ LS w w' d D ∧ Below W.heap.size W w' := by
  obtain ⟨sb, mb, es, clock, safe, hp⟩ := h.tight
  refine (read_calls hp n).mono ?_
  rintro e w' ⟨v, he, hr, hb⟩
  exact ⟨v, he, hr, h.step hb, hb⟩
theorem LS.arm (h : LS w W d D) (n : Int) (hn : -9223372036854775808 ≤ n ∧ n ≤ 9223372036854775807) : Calls Try.prog 23 #[.pointer (some ⟨d, 0, none⟩), .int .i64 n] W fun e w' => e = .returned (.tuple #[]) ∧ LS w w' d (D.armed n) ∧ Frm (fun k => w.heap.size ≤ k ∧ k < W.heap.size) W w' := by
  obtain ⟨sb, mb, es, clock, safe, hp⟩ := h.tight
  refine (arm_calls hp n hn).mono ?_
  rintro e w' ⟨he, h1, h2, _⟩
  have h3 : Frm (fun k => w.heap.size ≤ k ∧ k < W.heap.size) W w' := h2.mono fun k hk => by subst hk; exact hp.xd
  exact ⟨he, h.of (fun k hk => hk.1) ⟨_, _, _, _, _, h1⟩ (h3.mono fun k hk => hk.1), h3⟩
/-- The lists that Crash is given lie apart from the disk. -/
theorem LS.crash (h : LS w W d D) (hb : Below W.heap.size W W2) (keep : List Int) (torn : List (Int × Int)) (A1 A2 : Option Addr) (c1 c2 : Nat) (hr1 : ∀ W', Kept W2 W' (fun k => w.heap.size ≤ k ∧ k < W.heap.size) → Kd.C (Kd.int .i64) W' A1 keep.length keep) (hr2 : ∀ W', Kept W2 W' (fun k => w.heap.size ≤ k ∧ k < W.heap.size) → KT.C W' A2 torn.length torn)
    (htw : ∀ t ∈ torn, -9223372036854775808 ≤ t.2 ∧ t.2 ≤ 9223372036854775807) :
    Calls Try.prog 22 #[.pointer (some ⟨d, 0, none⟩), .slice A1 keep.length c1, .slice A2 torn.length c2] W2 fun e w' => e = .returned (.tuple #[]) ∧ LS w w' d (D.crashed keep torn) ∧ Frm (fun k => w.heap.size ≤ k ∧ k < W.heap.size) W2 w' := by
  obtain ⟨sb, mb, es, clock, safe, hp⟩ := h.tight
  refine (crash_calls (hp.frm (S := fun _ => False) (Frm.of_below hb) (fun _ _ h => h)) keep torn A1 A2 c1 c2 hr1 hr2 htw).mono ?_
  rintro e w' ⟨he, h1, h2⟩
  exact ⟨he, (h.step hb).of (fun k hk => hk.1) h1 (h2.mono fun k hk => hk.1), h2⟩
theorem LS.ops (h : LS w W d D) : Calls Try.prog 25 #[.pointer (some ⟨d, 0, none⟩)] W fun e w' => e = .returned (.int .i64 D.ops) ∧ Drawn0 W w' := by
  obtain ⟨sb, mb, es, clock, safe, hp⟩ := h.tight; exact ops_calls hp
theorem LS.dead (h : LS w W d D) : Calls Try.prog 24 #[.pointer (some ⟨d, 0, none⟩)] W fun e w' => e = .returned (.bool D.dead) ∧ Drawn0 W w' := by
  obtain ⟨sb, mb, es, clock, safe, hp⟩ := h.tight; exact dead_calls hp
end
theorem num4_calls (e : Int) (w : World) : Calls Try.prog 33 #[.int .i64 e] w fun r w' => r = .returned (.int .i64 e) ∧ Drawn0 w w' := by
  go_enter Try.func33, Try.ntmps33
  go_wp2
  go_ret
  exact ⟨rfl, by repeat (first | exact Drawn0.refl _ | apply Drawn0.step)⟩
namespace L4
def d0 : Dk := Dk.made 8 64
def d1 : Dk := d0.mwritten 2 1 3 4 1
def d2 : Dk := d1.synced
def d3 : Dk := d2.mwritten 2 2 0 0 0
def d4 : Dk := d3.crashed [] [(0, 35)]
theorem b0 : bestD d0 2 = (0, 0, 0, 0, 40) := by decide +kernel
theorem e1 : d0.mwriteE 2 1 3 4 1 = 0 := by decide +kernel
theorem e2 : d1.beginE = 0 := by decide +kernel
theorem e3 : d2.mwriteE 2 2 0 0 0 = 0 := by decide +kernel
theorem b3 : bestD d3 2 = (2, 0, 0, 0, 0) := by decide +kernel
theorem b4 : bestD d4 2 = (1, 3, 4, 1, 0) := by decide +kernel
end L4
def flat2 : List (Int × Int) → List Value
  | [] => []
  | t :: l => .int .i64 t.1 :: .int .i64 t.2 :: flat2 l
theorem flat2_get : ∀ (l : List (Int × Int)) (j : Nat) (p : Int × Int), l[j]? = some p → (flat2 l)[j * 2]? = some (.int .i64 p.1) ∧ (flat2 l)[j * 2 + 1]? = some (.int .i64 p.2)
  | [], j, p, h => by simp at h
  | t :: l, 0, p, h => by
    obtain rfl : t = p := by simpa using h
    exact ⟨rfl, rfl⟩
  | t :: l, j + 1, p, h => by
    have := flat2_get l j p (by simpa using h)
    rw [Nat.add_mul, Nat.one_mul]
    exact this
theorem torn_lit {w : World} {g t : Nat} {fr : Nat × Nat} (l : List (Int × Int)) (hl : l.length ≤ 9223372036854775807) (hb : w.heap[g]? = some (.cells (flat2 l).toArray t fr)) : KT.C w (some ⟨g, 0, none⟩) l.length l := by
  refine ⟨rfl, hl, fun _ => ⟨_, rfl, fun j p hj => ⟨[.int .i64 p.1, .int .i64 p.2], rfl, ⟨[.int .i64 p.1], [.int .i64 p.2], rfl, rfl, rfl⟩, fun i u hu => ?_⟩⟩⟩
  obtain ⟨h0, h1⟩ := flat2_get l j p hj
  rw [add_plain, cell_of_row w g _ _ t fr hb]
  show (flat2 l).toArray[j * 2 + i]? = _
  match i, hu with
  | 0, hu => obtain rfl : u = .int .i64 p.1 := by simpa using hu.symm
             simpa using h0
  | 1, hu => obtain rfl : u = .int .i64 p.2 := by simpa using hu.symm
             simpa using h1
  | i + 2, hu => simp at hu
set_option maxHeartbeats 4000000 in
set_option maxRecDepth 100000 in
theorem live4_calls (w : World) : Calls Try.prog 28 #[] w fun e w' => e = .returned (.bool true) ∧ Below w.heap.size w w' := by
  go_enter Try.func28, Try.ntmps28
  go_wp2_with fail
  refine (LS.new w 8 64 (by decide) (by decide) (by decide) (by decide)).mono ?_
  rintro e w1 ⟨d, rfl, h1⟩
  have H1 := Aside0.mk (show LS w w1 d L4.d0 from h1)
  clear h1
  go_wp2_with fail
  refine (num4_calls 0 w1).mono ?_
  rintro e w2 ⟨rfl, hd2⟩
  have H2 := Aside0.mk (H1.out.step hd2.below)
  clear hd2
  go_wp2_with fail
  refine (H2.out.best 2).mono ?_
  rintro e w3 ⟨⟨rfl, _⟩, h3⟩
  rw [L4.b0]
  have H3 := Aside0.mk (h3.step (below_alloc (Below.refl _ _) (.cells #[.int .u64 0, .int .i64 0, .int .i64 0, .int .i64 0] 52)))
  clear h3
  simp only
  go_wp2_with fail
  refine (H3.out.mwrite 2 1 3 4 1 (by decide)).mono ?_
  rintro e w4 ⟨rfl, h4, _⟩
  rw [L4.e1]
  have H4 := Aside0.mk (show LS w w4 d L4.d1 from h4)
  clear h4
  go_wp2_with fail
  refine (H4.out.sync).mono ?_
  rintro e w5 ⟨rfl, h5, _⟩
  rw [L4.e2]
  have H5 := Aside0.mk (show LS w w5 d L4.d2 from h5)
  clear h5
  go_wp2_with fail
  refine (H5.out.mwrite 2 2 0 0 0 (by decide)).mono ?_
  rintro e w6 ⟨rfl, h6, _⟩
  rw [L4.e3]
  have H6 := Aside0.mk (show LS w w6 d L4.d3 from h6)
  clear h6
  go_wp2_with fail
  refine (H6.out.best 2).mono ?_
  rintro e w7 ⟨⟨rfl, _⟩, h7⟩
  rw [L4.b3]
  obtain ⟨xb, hxb⟩ : ∃ n, n = w7.heap.size := ⟨_, rfl⟩
  obtain ⟨W8, hW8⟩ : ∃ W, W = w7.alloc (.cells #[.int .u64 2, .int .i64 0, .int .i64 0, .int .i64 0] 52) := ⟨_, rfl⟩
  have hb8 : Below w7.heap.size w7 W8 := by rw [hW8]; exact below_alloc (Below.refl _ _) _
  have hx8 : W8.heap[xb]? = some (.cells #[.int .u64 2, .int .i64 0, .int .i64 0, .int .i64 0] 52) := by rw [hW8, hxb]; exact blk_new w7 _
  have HX8 := Aside0.mk hx8; have H7 := Aside0.mk h7; have HB8 := Aside0.mk hb8
  have HXB := Aside0.mk hxb
  have HZ8 : Aside0 (W8.heap.size = xb + 1) := ⟨by rw [hW8, hxb, World.size_alloc]⟩
  clear h7 hx8 hb8
  simp only
  go_wp2_with fail
  rw [← hW8, ← hxb]
  clear hW8 hxb
  obtain ⟨W9, hW9⟩ : ∃ W, W = W8.alloc (.cells #[.int .i64 0, .int .i64 35] 44) := ⟨_, rfl⟩
  have h8s : W8.heap.size = xb + 1 := HZ8.out
  have ht9 : W9.heap[xb + 1]? = some (.cells (flat2 [(0, 35)]).toArray 44) := by
    rw [hW9, ← h8s]; exact blk_new W8 _
  have hb9 : Below w7.heap.size w7 W9 := by rw [hW9]; exact below_alloc HB8.out _
  have hx9 := blk_below HX8.out (show Below W8.heap.size W8 W9 by rw [hW9]; exact below_alloc (Below.refl _ _) _)
  rw [← hW9]
  clear hW9
  refine (LS.crash H7.out hb9 [] [(0, 35)] none (some ⟨xb + 1, 0, none⟩) 0 1 (fun W' _ => Kd.C_nil _ _) (fun W' hk => torn_lit _ (by decide) (blk_kept ht9 hk (fun h => by have := HXB.out; omega))) (by intro t ht; obtain rfl : t = (0, 35) := (by simpa using ht); decide)).mono ?_
  rintro e w10 ⟨rfl, h10, hf10⟩
  have H10 := Aside0.mk (show LS w w10 d L4.d4 from h10)
  have hx10 := hf10.blk hx9 (fun h => by have := HXB.out; omega)
  have HX10 := Aside0.mk hx10
  clear h10 hf10 hx10 hx9 ht9 hb9 h8s
  go_wp2_with fail
  refine (H10.out.best 2).mono ?_
  rintro e w11 ⟨⟨rfl, hb11⟩, h11⟩
  rw [L4.b4]
  obtain ⟨yb, hyb⟩ : ∃ n, n = w11.heap.size := ⟨_, rfl⟩
  obtain ⟨W12, hW12⟩ : ∃ W, W = w11.alloc (.cells #[.int .u64 1, .int .i64 3, .int .i64 4, .int .i64 1] 52) := ⟨_, rfl⟩
  have hb12 : Below w.heap.size w W12 := by rw [hW12]; exact below_alloc h11.bel _
  have hy12 : W12.heap[yb]? = some (.cells #[.int .u64 1, .int .i64 3, .int .i64 4, .int .i64 1] 52) := by rw [hW12, hyb]; exact blk_new w11 _
  have hx12 : W12.heap[xb]? = some (.cells #[.int .u64 2, .int .i64 0, .int .i64 0, .int .i64 0] 52) := by rw [hW12]; exact blk_alloc (blk_below HX10.out hb11) _
  have H12 := Aside0.mk (And.intro hb12 (And.intro hy12 hx12))
  clear hb12 hy12 hx12 h11 hb11
  simp only
  go_wp2_with fail
  rw [← hW12, ← hyb]
  clear hW12 hyb
  refine (num4_calls 40 W12).mono ?_
  rintro e w13 ⟨rfl, ⟨n13, rfl⟩⟩
  go_wp2_with fail
  refine (num4_calls 0 _).mono ?_
  rintro e w14 ⟨rfl, ⟨n14, rfl⟩⟩
  go_wp2_with fail
  refine (num4_calls 0 _).mono ?_
  rintro e w15 ⟨rfl, ⟨n15, rfl⟩⟩
  go_wp2_with fail
  refine (num4_calls 0 _).mono ?_
  rintro e w16 ⟨rfl, ⟨n16, rfl⟩⟩
  go_wp2_with fail
  refine (num4_calls 0 _).mono ?_
  rintro e w17 ⟨rfl, ⟨n17, rfl⟩⟩
  have x0 := blk_cell H12.out.2.2 0
  have y0 := blk_cell H12.out.2.1 0; have y1 := blk_cell H12.out.2.1 1; have y2 := blk_cell H12.out.2.1 2; have y3 := blk_cell H12.out.2.1 3
  simp only [List.getElem?_toArray, List.getElem?_cons_zero, List.getElem?_cons_succ] at x0 y0 y1 y2 y3
  go_wp2_with fail
  go_ret
  exact ⟨rfl, by repeat (first | (with_reducible first | exact H12.out.1 | apply below_alloc | apply pw_below_drewN | apply below_drew1) | exact H12.out.1)⟩
end Go.Proofs.YteimienhaodfcaaK
