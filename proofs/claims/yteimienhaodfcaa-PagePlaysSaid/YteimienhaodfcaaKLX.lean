/- A disk of the call's own, in blocks X. -/
import Derived.Test.YteimienhaodfcaaKLive4
import Derived.Test.YteimienhaodfcaaKMetaP
import Derived.Test.YteimienhaodfcaaKMetaT
import Derived.Test.YteimienhaodfcaaKFlow
import Derived.Test.YteimienhaodfcaaKClone
import Derived.Deep.QuietTactic
import Derived.BigQuiet
import Derived.Deep.RegionHeld3
import Derived.Lib.AppendZerosOnto
import Derived.Lib.SliceRun
import Derived.Lib.Walk
namespace Go.Proofs.YteimienhaodfcaaK
open Go.RowKit Go.Proofs.YteimienhaodfcaaW.PrintWords Go.Proofs.YteimienhaodfcaaW.PrintLast Go.Proofs.YteimienhaodfcaaW.PrintMore Go.Crc
open Go.ChangeMaps (setBlock)
attribute [local go_sem] max2_int min2_int max_two min_two
set_option linter.unusedVariables false
set_option linter.unusedSimpArgs false
variable {w w' : World} {X X' S : Nat → Prop} {d sb mb clock : Nat} {es : Array MapEntry} {safe : List Int} {D : Dk}
/-- A disk of the call's own, in the blocks X. -/
structure LX (w W : World) (X : Nat → Prop) (d : Nat) (D : Dk) : Prop where
  at_ : DAt W X d D
  bel : Below w.heap.size w W
  lo : ∀ k, X k → w.heap.size ≤ k
  hi : ∀ k, X k → k < W.heap.size
/-- A disk behind a call that was given the blocks X to write. -/
def Nxt (w W : World) (X : Nat → Prop) (w' : World) (d : Nat) (D' : Dk) : Prop := ∃ X', LX w w' X' d D' ∧ (∀ k, X' k → X k ∨ W.heap.size ≤ k) ∧ Frm X W w'
section
variable {w W W2 : World} {X : Nat → Prop} {d : Nat} {D : Dk}
theorem LX.step (h : LX w W X d D) (hb : Below W.heap.size W W2) : LX w W2 X d D := ⟨h.at_.below hb, below_step h.bel hb, h.lo, fun k hk => Nat.lt_of_lt_of_le (h.hi k hk) hb.size⟩
theorem LS.lx (h : LS w W d D) : LX w W (fun k => w.heap.size ≤ k ∧ k < W.heap.size) d D := by
  obtain ⟨sb, mb, es, clock, safe, hp⟩ := h.tight
  exact ⟨⟨_, _, _, _, _, hp⟩, h.bel, fun k hk => hk.1, fun k hk => hk.2⟩
theorem LX.ls (h : LX w W X d D) : LS w W d D := ⟨h.at_.mono h.lo, h.bel⟩
theorem LX.set (h : LX w W X d D) {g : Nat} (hg : ¬ X g) (hw : w.heap.size ≤ g) (j : Nat) (u : Value) : LX w (W.setCell ⟨g, j, none⟩ u) X d D := by
  have hf := Frm.cellD W g j u
  refine ⟨h.at_.frm hf (fun k hk e => hg (by rw [← e]; exact hk)), h.bel.trans (hf.below (fun k hk => by rw [hk]; exact hw) h.bel.size), h.lo, fun k hk => ?_⟩
  have := h.hi k hk
  exact Nat.lt_of_lt_of_le this hf.size
theorem LX.nxt (h : LX w W X d D) {w' : World} {X' : Nat → Prop} {D' : Dk} (hX : ∀ k, X' k → X k ∨ W.heap.size ≤ k) (hd : DAt w' X' d D') (hf : Frm X W w') : Nxt w W X w' d D' := by
  obtain ⟨sb, mb, es, clock, safe, hp⟩ := hd
  exact ⟨fun k => X' k ∧ k < w'.heap.size, ⟨⟨_, _, _, _, _, hp.bound⟩, h.bel.trans (hf.below (fun k hk => h.lo k hk) h.bel.size), fun k hk => (hX k hk.1).elim (h.lo k) (fun hk => Nat.le_trans h.bel.size hk), fun k hk => hk.2⟩, fun k hk => hX k hk.1, hf⟩
theorem LX.arm (h : LX w W X d D) (n : Int) (hn : -9223372036854775808 ≤ n ∧ n ≤ 9223372036854775807) : Calls Try.prog 23 #[.pointer (some ⟨d, 0, none⟩), .int .i64 n] W fun e w' => e = .returned (.tuple #[]) ∧ Nxt w W X w' d (D.armed n) := by
  obtain ⟨sb, mb, es, clock, safe, hp⟩ := h.at_
  refine (arm_calls hp n hn).mono ?_
  rintro e w' ⟨he, h1, h2, _⟩
  exact ⟨he, h.nxt (fun k hk => .inl hk) ⟨_, _, _, _, _, h1⟩ (h2.mono fun k hk => by subst hk; exact hp.xd)⟩
theorem LX.mwrite (h : LX w W X d D) (per s r k dd : Int) (hs : 0 ≤ s ∧ s < 18446744073709551616) : Calls Try.prog 35 #[.pointer (some ⟨d, 0, none⟩), .int .i64 per, .agg #[.int .u64 s, .int .i64 r, .int .i64 k, .int .i64 dd]] W fun e w' => e = .returned (.int .i64 (D.mwriteE per s r k dd)) ∧ Nxt w W X w' d (D.mwritten per s r k dd) := by
  obtain ⟨sb, mb, es, clock, safe, hp⟩ := h.at_
  refine (mwrite_calls hp per s r k dd hs).mono ?_
  rintro e w' ⟨he, h1, h2⟩
  exact ⟨he, h.nxt (fun k hk => hk) h1 h2⟩
theorem LX.sync (h : LX w W X d D) : Calls Try.prog 19 #[.pointer (some ⟨d, 0, none⟩)] W fun e w' => e = .returned (.int .i64 D.beginE) ∧ Nxt w W X w' d D.synced := by
  obtain ⟨sb, mb, es, clock, safe, hp⟩ := h.at_
  refine (sync_calls hp).mono ?_
  rintro e w' ⟨he, h1, h2⟩
  exact ⟨he, h.nxt (fun k hk => .inl hk) h1 h2⟩
theorem LX.write (h : LX w W X d D) (n : Int) (A : Option Addr) (c : Nat) (xs : List (List Int)) (hr : Kd.C (Kd.slice 5 (Kd.int .u8)) W A xs.length xs) (hl : xs.flatten.length ≤ 1099511627776) (hby : Bytes xs.flatten) :
    Calls Try.prog 18 #[.pointer (some ⟨d, 0, none⟩), .int .i64 n, .slice A xs.length c] W fun e w' => e = .returned (.int .i64 (D.writeE n xs.flatten)) ∧ Nxt w W X w' d (D.written n xs.flatten) := by
  obtain ⟨sb, mb, es, clock, safe, hp⟩ := h.at_
  refine (write_calls hp n A c xs hr hl hby).mono ?_
  rintro e w' ⟨he, h1, h2⟩
  exact ⟨he, h.nxt (fun k hk => hk) h1 h2⟩
theorem LX.crash (h : LX w W X d D) (keep : List Int) (torn : List (Int × Int)) (A1 A2 : Option Addr) (c1 c2 : Nat) (hr1 : ∀ W', Kept W W' X → Kd.C (Kd.int .i64) W' A1 keep.length keep) (hr2 : ∀ W', Kept W W' X → KT.C W' A2 torn.length torn)
    (htw : ∀ t ∈ torn, -9223372036854775808 ≤ t.2 ∧ t.2 ≤ 9223372036854775807) :
    Calls Try.prog 22 #[.pointer (some ⟨d, 0, none⟩), .slice A1 keep.length c1, .slice A2 torn.length c2] W fun e w' => e = .returned (.tuple #[]) ∧ Nxt w W X w' d (D.crashed keep torn) := by
  obtain ⟨sb, mb, es, clock, safe, hp⟩ := h.at_
  refine (crash_calls hp keep torn A1 A2 c1 c2 hr1 hr2 htw).mono ?_
  rintro e w' ⟨he, h1, h2⟩
  exact ⟨he, h.nxt (fun k hk => .inl hk) h1 h2⟩
theorem LX.best (h : LX w W X d D) (per : Int) : Calls Try.prog 34 #[.pointer (some ⟨d, 0, none⟩), .int .i64 per] W fun e w' => BestPost D per W e w' := by
  obtain ⟨sb, mb, es, clock, safe, hp⟩ := h.at_
  exact (best_calls hp per).mono fun e w' ⟨he, hb⟩ => ⟨he, hb⟩
theorem LX.read (h : LX w W X d D) (n : Int) : Calls Try.prog 21 #[.pointer (some ⟨d, 0, none⟩), .int .i64 n] W fun e w' => ∃ v, e = .returned (.tuple #[v, .int .i64 (D.readE n)]) ∧ Kd.R (Kd.int .u8) 5 w' W.heap.size (fun _ => True) v (D.readB n) ∧ Below W.heap.size W w' := by
  obtain ⟨sb, mb, es, clock, safe, hp⟩ := h.at_
  exact (read_calls hp n).mono fun e w' ⟨v, he, hr, hb⟩ => ⟨v, he, hr, hb⟩
theorem Nxt.blk {w' : World} {D' : Dk} {g : Nat} {o : Obj} (h : Nxt w W X w' d D') (hg : ¬ X g) (hb : W.heap[g]? = some o) : ∃ X', LX w w' X' d D' ∧ ¬ X' g ∧ w'.heap[g]? = some o := by
  obtain ⟨X', h1, h2, h3⟩ := h
  exact ⟨X', h1, fun hx => (h2 g hx).elim hg (fun hk => by have := blk_lt hb; omega), h3.blk hb hg⟩
end
/-- A disk of the call's own, and two blocks of the call's own beside it. -/
structure Blks (w W : World) (X : Nat → Prop) (d : Nat) (D : Dk) (g : Nat) (o : Obj) (g' : Nat) (o' : Obj) : Prop where
  lx : LX w W X d D
  n1 : ¬ X g
  l1 : w.heap.size ≤ g
  h1 : W.heap[g]? = some o
  n2 : ¬ X g'
  l2 : w.heap.size ≤ g'
  h2 : W.heap[g']? = some o'
section
variable {w W W2 : World} {X : Nat → Prop} {d : Nat} {D : Dk} {g g' : Nat} {o o' : Obj}
theorem Blks.step (h : Blks w W X d D g o g' o') (hb : Below W.heap.size W W2) : Blks w W2 X d D g o g' o' :=
  ⟨h.lx.step hb, h.n1, h.l1, (hb.block g (blk_lt h.h1)).trans h.h1, h.n2, h.l2, (hb.block g' (blk_lt h.h2)).trans h.h2⟩
theorem Blks.nxt (h : Blks w W X d D g o g' o') {D' : Dk} (hn : Nxt w W X W2 d D') : ∃ X', Blks w W2 X' d D' g o g' o' := by
  obtain ⟨X', h1, h2, h3⟩ := hn
  exact ⟨X', h1, fun hx => (h2 g hx).elim h.n1 (fun hk => by have := blk_lt h.h1; omega), h.l1, h3.blk h.h1 h.n1, fun hx => (h2 g' hx).elim h.n2 (fun hk => by have := blk_lt h.h2; omega), h.l2, h3.blk h.h2 h.n2⟩
end
end Go.Proofs.YteimienhaodfcaaK
