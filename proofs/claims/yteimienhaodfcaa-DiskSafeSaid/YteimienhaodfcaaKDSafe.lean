/- DiskSafe: plain laws; acts of law 2. -/
import Derived.Test.YteimienhaodfcaaKLive2
import Derived.Test.YteimienhaodfcaaKLX
import Derived.Test.YteimienhaodfcaaKStr
import Derived.Test.YteimienhaodfcaaKMetaP
import Derived.Test.YteimienhaodfcaaKMetaT
import Derived.Test.YteimienhaodfcaaKFlow
import Derived.Test.YteimienhaodfcaaKClone
import Derived.Deep.QuietTactic
import Derived.BigQuiet
import Derived.Deep.RegionHeld3
import Derived.Lib.AppendZerosOnto
import Derived.Lib.SliceRun
import Derived.Lib.Walk
namespace Go.Proofs.YteimienhaodfcaaK
open Go.RowKit Go.Proofs.YteimienhaodfcaaW.PrintWords Go.Proofs.YteimienhaodfcaaW.PrintLast Go.Proofs.YteimienhaodfcaaW.PrintMore Go.Crc
open Go.ChangeMaps (setBlock)
attribute [local go_sem] max2_int min2_int max_two min_two
set_option linter.unusedVariables false
set_option linter.unusedSimpArgs false
variable {w w' : World} {X X' S : Nat → Prop} {d sb mb clock : Nat} {es : Array MapEntry} {safe : List Int} {D : Dk}
abbrev A2 := Int × Int × List Int × List Int × List (Int × Int)
abbrev KA2 : Kd A2 := Kd.iso (Kd.pair (Kd.int .i64) (Kd.pair (Kd.int .i64) (Kd.pair (Kd.slice 5 (Kd.int .u8)) (Kd.pair (Kd.slice 3 (Kd.int .i64)) (Kd.slice 44 (Kd.iso KT id)))))) id
theorem heap_KT2 : Kd.Heap KT := Kd.heap_pair (Kd.heap_int _) (Kd.heap_int _)
/-- An act's cells. -/
theorem act2_get {w : World} {A : Option Addr} {n : Nat} {l : List A2} (h : Kd.C KA2 w A n l) {i : Nat} (hi : i < l.length) : ∃ ad, A = some ad ∧ ∃ Ap cp Ak ck At ct,
    w.cell? (ad.add (i * 5)) = some (.int .i64 l[i].1) ∧ w.cell? ⟨(ad.add (i * 5)).block, (ad.add (i * 5)).off + 1, none⟩ = some (.int .i64 l[i].2.1) ∧
    w.cell? ⟨(ad.add (i * 5)).block, (ad.add (i * 5)).off + 2, none⟩ = some (.slice Ap l[i].2.2.1.length cp) ∧ w.cell? ⟨(ad.add (i * 5)).block, (ad.add (i * 5)).off + 3, none⟩ = some (.slice Ak l[i].2.2.2.1.length ck) ∧ w.cell? ⟨(ad.add (i * 5)).block, (ad.add (i * 5)).off + 4, none⟩ = some (.slice At l[i].2.2.2.2.length ct) ∧
    (l[i].2.2.1.length ≤ cp ∧ Kd.C (Kd.int .u8) w Ap l[i].2.2.1.length l[i].2.2.1) ∧ (l[i].2.2.2.1.length ≤ ck ∧ Kd.C (Kd.int .i64) w Ak l[i].2.2.2.1.length l[i].2.2.2.1) ∧ (l[i].2.2.2.2.length ≤ ct ∧ KT.C w At l[i].2.2.2.2.length l[i].2.2.2.2) := by
  have hn := h.1
  obtain ⟨ad, cs, hA, hlen, hK, hcell⟩ := Kd.C_get h (0, 0, [], [], []) (i : Int) (by omega) (by omega)
  rw [Int.toNat_natCast, List.getD_eq_getElem?_getD, List.getElem?_eq_getElem hi, Option.getD_some] at hK
  obtain ⟨c0, c1, rfl, rfl, c4, c5, rfl, rfl, c6, c7, rfl, ⟨Ap, cp, rfl, hp1, hp2⟩, c8, c9, rfl, ⟨Ak, ck, rfl, hk1, hk2⟩, ⟨At, ct, rfl, ht1, ht2⟩⟩ := hK
  rw [Int.toNat_natCast] at hcell
  have e : ∀ (j : Nat) (hj : 0 < j) u, _ → w.cell? ⟨(ad.add (i * 5)).block, (ad.add (i * 5)).off + j, none⟩ = some u := fun j hj u h => by
    have := hcell j u h
    rw [← add_field ad (i * 5) j hj]; exact this
  exact ⟨ad, hA, Ap, cp, Ak, ck, At, ct, hcell 0 _ rfl, e 1 (by decide) _ rfl, e 2 (by decide) _ rfl, e 3 (by decide) _ rfl, e 4 (by decide) _ rfl, ⟨hp1, hp2⟩, ⟨hk1, hk2⟩, ⟨ht1, ht2⟩⟩
def Small2 (l : List A2) : Prop := l.length ≤ 150 ∧ ∀ a ∈ l, a.2.2.1.length ≤ 40000
def BoolIf2 (p : Prop) (e : Ending) : Prop := ∃ b, e = .returned (.bool b) ∧ (b = false → p)
set_option maxHeartbeats 1000000 in
theorem huge2_calls (A : Option Addr) (c : Nat) (l : List A2) (w : World) (hr : Kd.C KA2 w A l.length l) (hs : ∀ a ∈ l, a.2.2.1.length ≤ 140737488351232 ∧ a.2.2.2.1.length ≤ 140737488351232 ∧ a.2.2.2.2.length ≤ 140737488351232) :
    Calls Try.prog 14 #[.slice A l.length c] w fun e w' => BoolIf2 (Small2 l) e ∧ Drawn0 w w' := by
  have hlm : l.length ≤ 9223372036854775807 := hr.2.1
  have HR := Aside0.mk hr
  have HS := Aside0.mk hs
  clear hr hs
  go_enter Try.func14, Try.ntmps14
  go_wp2
  go_loopw [3, 4] (fun x i wr => ∃ (y : Int) (k : Nat), k ≤ l.length ∧ x = .int .i64 y ∧ i = .int .i64 k ∧ Aside0 (Drawn0 w wr) ∧ Aside0 (k ≤ 151 ∧ 0 ≤ y ∧ y ≤ k * 422212465053696 ∧ ∀ a ∈ l.take k, (a.2.2.1.length : Int) ≤ y)) (fun _ i _ => l.length - (intOf i).toNat)
  case atStart => exact ⟨0, 0, Nat.zero_le _, rfl, rfl, ⟨by repeat (first | exact Drawn0.refl _ | apply Drawn0.step)⟩, ⟨by decide, by decide, by decide, by simp⟩⟩
  case round =>
    obtain ⟨y, k, hk, rfl, rfl, HD, HY⟩ := hrel
    by_cases hlt : k < l.length
    · by_cases h60 : k ≤ 150
      · obtain ⟨ad, hA, Ap, cp, Ak, ck, At, ct, x0, x1, x6, x7, x8, _⟩ := act2_get (Kd.C_below HR.out HD.out.below) hlt
        subst hA
        have hsz := HS.out _ (List.getElem_mem hlt)
        have HT : Aside0 (l.take (k + 1) = l.take k ++ [l[k]]) := ⟨List.take_succ_eq_append_getElem hlt⟩
        obtain ⟨n6, hn6⟩ : ∃ n, n = l[k].2.2.1.length := ⟨_, rfl⟩
        obtain ⟨n7, hn7⟩ : ∃ n, n = l[k].2.2.2.1.length := ⟨_, rfl⟩
        obtain ⟨n8, hn8⟩ : ∃ n, n = l[k].2.2.2.2.length := ⟨_, rfl⟩
        have HN6 := Aside0.mk hn6
        rw [← hn6] at x6 hsz; rw [← hn7] at x7 hsz; rw [← hn8] at x8 hsz
        have hy := HY.out
        have hky : ((k : Int)) * 422212465053696 ≤ 63331869758054400 := by omega
        have e1 : IntKind.i64.wrap (y + (n6 : Int)) = y + n6 := IntWalk.i64_in _ (by omega)
        have e2 : IntKind.i64.wrap (y + (n6 : Int) + (n7 : Int)) = y + n6 + n7 := IntWalk.i64_in _ (by omega)
        have e3 : IntKind.i64.wrap (y + (n6 : Int) + (n7 : Int) + (n8 : Int)) = y + n6 + n7 + n8 := IntWalk.i64_in _ (by omega)
        have HY2 : Aside0 (k + 1 ≤ 151 ∧ 0 ≤ y + n6 + n7 + n8 ∧ y + n6 + n7 + n8 ≤ ((k + 1 : Nat) : Int) * 422212465053696 ∧ ∀ a ∈ l.take (k + 1), (a.2.2.1.length : Int) ≤ y + n6 + n7 + n8) := ⟨by
          refine ⟨by omega, by omega, by omega, fun a ha => ?_⟩
          rw [HT.out] at ha
          rcases List.mem_append.1 ha with ha | ha
          · have := hy.2.2.2 a ha; omega
          · rw [List.mem_singleton.1 ha, ← HN6.out]; omega⟩
        clear x0 x1 hn6 hn7 hn8 hy hky hsz
        go_wp2_with fail
        go_quiet (fail)
        go_wp2_with fail
        go_roundw
        case rel => exact ⟨_, k + 1, by omega, rfl, by go_num, ⟨by repeat (first | exact HD.out | apply Drawn0.step)⟩, HY2⟩
        case measure => simp [intOf]; omega
      · go_wp2_with fail
        all_goals go_ret
        all_goals exact ⟨⟨true, rfl, fun hb => absurd hb (by decide)⟩, by repeat (first | exact HD.out | apply Drawn0.step)⟩
    · have HE : Aside0 (∀ a ∈ l, (a.2.2.1.length : Int) ≤ y) := ⟨by
        have := HY.out.2.2.2
        rwa [List.take_of_length_le (by omega)] at this⟩
      by_cases h150 : 150 < (l.length : Int)
      · have d1 : decide (150 < (l.length : Int)) = true := decide_eq_true h150
        go_wp2_with fail
        all_goals go_ret
        all_goals exact ⟨⟨true, rfl, fun hb => absurd hb (by decide)⟩, by repeat (first | exact HD.out | apply Drawn0.step)⟩
      · have d1 : decide (150 < (l.length : Int)) = false := decide_eq_false h150
        by_cases hn : 40000 < y
        · have d2 : decide (40000 < y) = true := decide_eq_true hn
          go_wp2_with fail
          all_goals go_ret
          all_goals exact ⟨⟨true, rfl, fun hb => absurd hb (by decide)⟩, by repeat (first | exact HD.out | apply Drawn0.step)⟩
        · have d2 : decide (40000 < y) = false := decide_eq_false hn
          have HF := Aside0.mk (show Small2 l from ⟨by omega, fun a ha => by have := HE.out a ha; omega⟩)
          go_wp2_with fail
          all_goals go_ret
          all_goals exact ⟨⟨_, rfl, fun _ => HF.out⟩, by repeat (first | exact HD.out | apply Drawn0.step)⟩
theorem LX.grown {w W w1 : World} {X : Nat → Prop} {d : Nat} {D : Dk} (h : LX w W X d D) {row : Option Nat} (hg : W.grownBy w1 row) (hr : ∀ k, row = some k → ¬ X k ∧ w.heap.size ≤ k) : LX w w1 X d D := by
  have hf : Frm (fun k => row = some k) W w1 := ⟨hg.os, hg.tape, hg.output, hg.size, fun i hi hn => hg.block i hi (fun e => hn e.symm)⟩
  exact ⟨h.at_.frm hf (fun k hk e => (hr k e).1 hk), h.bel.trans (hf.below (fun k hk => (hr k hk).2) h.bel.size), h.lo, fun k hk => Nat.lt_of_lt_of_le (h.hi k hk) hg.size⟩
theorem rows_nxt {α : Type} {kd : Kd α} {e base : Nat} {W w' : World} {X X' ok0 : Nat → Prop} {v : Value} {xs : List α} (hR : kd.R e W base (fun k => ¬ X k ∧ ok0 k) v xs) (hX : ∀ k, X' k → X k ∨ W.heap.size ≤ k) (hf : Frm X W w') : kd.R e w' base (fun k => ¬ X' k ∧ ok0 k) v xs :=
  Kd.R_mono (Kd.R_kept (Kd.R_bound hR) hf.kept (fun k hk => hk.1.1)) (fun k hk => ⟨fun hx => (hX k hx).elim hk.1.1 (fun h => by have := hk.2.2.1; omega), hk.1.2⟩)
namespace DSf
structure P16 (D : Dk) : Prop where
  sec : D.sectors = 16
  siz : D.size = 64
  dead : D.dead = false
  left : D.left = -1
  ls : ∀ n, n < 16 → (D.sec n).length = 64
  lf : ∀ n l, D.fresh n = some l → l.length = 64
theorem P16.start : P16 (Dk.made 16 64) := ⟨rfl, rfl, rfl, rfl, fun _ _ => rfl, fun n l h => by cases h⟩
theorem P16.may {D : Dk} (h : P16 D) : ¬ (D.dead = true ∨ D.left = 0) := by rw [h.dead, h.left]; simp
theorem P16.begE {D : Dk} (h : P16 D) : D.beginE = 0 := by unfold Dk.beginE; rw [if_neg h.may]
theorem P16.beg {D : Dk} (h : P16 D) : P16 D.begun ∧ D.begun.sec = D.sec ∧ D.begun.fresh = D.fresh := by
  unfold Dk.begun; rw [if_neg h.may]
  refine ⟨⟨h.sec, h.siz, h.dead, ?_, h.ls, h.lf⟩, rfl, rfl⟩
  show (if 0 < D.left then D.left - 1 else D.left) = _
  rw [h.left]; rfl
theorem P16.written {D : Dk} (h : P16 D) (n : Int) (p : List Int) : P16 (D.written n p) ∧ (D.written n p).sec = D.sec := by
  unfold Dk.written
  by_cases h1 : D.has n = false
  · rw [if_pos h1]; exact ⟨h, rfl⟩
  rw [if_neg h1]
  by_cases h2 : D.size < p.length
  · rw [if_pos h2]; exact ⟨h, rfl⟩
  rw [if_neg h2, if_pos h.begE]
  have hb := h.beg
  refine ⟨⟨hb.1.sec, hb.1.siz, hb.1.dead, hb.1.left, hb.1.ls, fun m l hl => ?_⟩, hb.2.1⟩
  have hl' : (if m = n.toNat then some (p ++ zeros (D.size - p.length)) else D.begun.fresh m) = some l := hl
  split at hl'
  · cases hl'
    have := h.siz
    rw [List.length_append, zeros, List.length_replicate]; omega
  · exact hb.1.lf m l hl'
theorem P16.sync {D : Dk} (h : P16 D) : P16 D.synced ∧ (∀ n, D.synced.fresh n = none) := by
  unfold Dk.synced
  rw [if_pos h.begE]
  have hb := h.beg
  refine ⟨⟨hb.1.sec, hb.1.siz, hb.1.dead, hb.1.left, fun n hn => ?_, fun n l hl => by cases hl⟩, fun _ => rfl⟩
  show (match D.begun.fresh n with | some l => l.take D.size ++ (D.begun.sec n).drop D.size | none => D.begun.sec n).length = 64
  have h1 := hb.1.ls n hn
  cases hf : D.begun.fresh n with
  | none => exact h1
  | some l =>
    have := hb.1.lf n l hf
    show (l.take D.size ++ (D.begun.sec n).drop D.size).length = 64
    rw [List.length_append, List.length_take, List.length_drop, h.siz]; omega
theorem P16.now {D : Dk} (h : P16 D) {n : Nat} (hn : n < 16) : (D.now n).length = 64 := by
  unfold Dk.now
  cases hf : D.fresh n with
  | none => exact h.ls n hn
  | some l => exact h.lf n l hf
theorem P16.read {D : Dk} (h : P16 D) {n : Nat} (hn : n < 16) : D.readE (n : Int) = 0 ∧ D.readB (n : Int) = D.now n := by
  have h1 : D.readE (n : Int) = 0 := by
    unfold Dk.readE
    have hh : D.has (n : Int) = true := by unfold Dk.has; rw [h.sec, Bool.and_eq_true]; exact ⟨decide_eq_true (by omega), decide_eq_true (by omega)⟩
    rw [hh, if_neg (by decide), h.dead, if_neg (by decide)]
  refine ⟨h1, ?_⟩
  unfold Dk.readB; rw [if_pos h1, Int.toNat_natCast]
theorem P16.crash {D : Dk} (h : P16 D) (keep : List Int) (torn : List (Int × Int)) : P16 (D.crashed keep torn) ∧ (∀ n, (D.crashed keep torn).fresh n = none) ∧ ∀ n, n < 16 → ∃ c, c ≤ 64 ∧ (D.crashed keep torn).now n = (D.now n).take c ++ (D.sec n).drop c := by
  have hs : ∀ n, (D.crashed keep torn).sec n = (match D.fresh n with | some l => l.take (keptOf keep torn D.size n) ++ (D.sec n).drop (keptOf keep torn D.size n) | none => D.sec n) := fun _ => rfl
  have hk : ∀ n, keptOf keep torn D.size n ≤ 64 := fun n => by have := keptOf_le keep torn D.size n; rw [h.siz] at this; rw [h.siz]; exact this
  have hn : ∀ n, n < 16 → ∃ c, c ≤ 64 ∧ (D.crashed keep torn).sec n = (D.now n).take c ++ (D.sec n).drop c := fun n hn => by
    refine ⟨keptOf keep torn D.size n, hk n, ?_⟩
    rw [hs]; unfold Dk.now
    cases hf : D.fresh n with
    | none => exact (List.take_append_drop _ _).symm
    | some l => rfl
  refine ⟨⟨h.sec, h.siz, rfl, rfl, fun n hn' => ?_, fun n l hl => by cases hl⟩, fun _ => rfl, fun n hn' => hn n hn'⟩
  obtain ⟨c, hc, he⟩ := hn n hn'
  have h1 := h.now hn'; have h2 := h.ls n hn'
  rw [he, List.length_append, List.length_take, List.length_drop]; omega
/-- Where the new bytes end, the old ones begin. -/
theorem cut_eq {b a o : List Int} {c j : Nat} (ha : a.length = 64) (ho : o.length = 64) (hc : c ≤ 64) (hb : b = a.take c ++ o.drop c) (hj : j ≤ 64) (he : j = 64 ∨ rd b j ≠ rd a j) : b.drop j = o.drop j := by
  have hcj : c ≤ j := by
    rcases he with he | he
    · omega
    · refine Classical.byContradiction fun hlt => he ?_
      unfold rd
      rw [hb, List.getD_eq_getElem?_getD, List.getD_eq_getElem?_getD, Int.toNat_natCast, List.getElem?_append_left (by rw [List.length_take]; omega), List.getElem?_take, if_pos (by omega)]
  rw [hb, List.drop_append, List.drop_eq_nil_of_le (by rw [List.length_take]; omega), List.nil_append, List.drop_drop, List.length_take]
  congr 1; omega
end DSf
end Go.Proofs.YteimienhaodfcaaK
