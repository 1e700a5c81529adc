import Derived.RangeFuncNested
import Derived.RangeFuncBound
import Derived.RangeFuncCalls
import Derived.RangeFuncLeaves
import Derived.Shelf.Abstract
import Derived.Shelf.RegionOpen
import Derived.WalkKit
import Derived.OwnWalkIn
import Derived.TacticsInMore
import Derived.LoopNIn
import Derived.LoopIn
import Derived.Test.YteimienhaodfcaaKBlk
import Derived.Test.YteimienhaodfcaaKLX
import Derived.Test.YteimienhaodfcaaKMetaP
import Derived.Test.YteimienhaodfcaaKMetaT
import Derived.Test.YteimienhaodfcaaKFlow
import Derived.Test.YteimienhaodfcaaKClone
import Derived.Deep.QuietTactic
import Derived.BigQuiet
import Derived.Deep.RegionHeld3
import Derived.Lib.AppendZerosOnto
import Derived.Lib.SliceRun
import Derived.Lib.Walk
import Derived.Test.YteimienhaodfcaaKPage
/- slices.Chunk: its iterator's contract (SeqStopsK), for rows that lie whole in a block. -/
namespace Go.Proofs.YteimienhaodfcaaK
open Go.RowKit Go.Shelf Go.Proofs.YteimienhaodfcaaW.PrintWords Go.Proofs.YteimienhaodfcaaW.PrintLast Go.Proofs.YteimienhaodfcaaW.PrintMore
attribute [local go_sem] max2_int min2_int max_two min_two Oper.semAt_some
set_option linter.unusedVariables false
set_option linter.unusedSimpArgs false
theorem grown_drewN (W : World) (n : Nat) : W.grownBy (W.drewN n) none := by
  induction n with
  | zero => exact ⟨rfl, rfl, rfl, Nat.le_refl _, fun _ _ _ => rfl⟩
  | succ n ih => exact ⟨rfl, rfl, rfl, Nat.le_refl _, fun _ _ _ => rfl⟩
/-- The j-th chunk of n of what lies at off in block b. -/
def chunkAt (b off n j : Nat) : Value := .slice (some ⟨b, off + j * n, none⟩) n n
set_option maxRecDepth 100000 in
set_option maxHeartbeats 4000000 in
theorem chunk1_in (F : Fence) (fn : Nat) (h92 : F.fn 92) (hro : F.round = none) (hn1 : 1 ≤ fn) (l Bs Bn b off n m L cap n₀ : Nat) (J Jx : List Nat → World → Prop) (hJ : AbidesFrom n₀ J) (h1 : 1 ≤ n) (hL : L = m * n) (hm : L ≤ 1000000) (hcap : L ≤ cap) (Kp : World → World → Prop)
    (hKp : ∀ A B, Kp A B → B.cell? ⟨Bs, 0, none⟩ = A.cell? ⟨Bs, 0, none⟩ ∧ B.cell? ⟨Bn, 0, none⟩ = A.cell? ⟨Bn, 0, none⟩)
    (hY : ∀ pre x W, J pre W → pre.length < m → YieldAt F (fn - 1) Try.prog l #[chunkAt b off n (x % m)] W fun e W' =>
      (e = .returned (.bool true) ∧ J (pre ++ [x]) W' ∧ Kp W W') ∨ (e = .returned (.bool false) ∧ Jx (pre ++ [x]) W'))
    (W : World) (hBs : W.cell? ⟨Bs, 0, none⟩ = some (.slice (some ⟨b, off, none⟩) L cap)) (hBn : W.cell? ⟨Bn, 0, none⟩ = some (.int .i64 n)) (h0 : J [] W) :
    CallsIn F fn Try.prog 92 #[.func (.yield l) #[] #[], .pointer (some ⟨Bs, 0, none⟩), .pointer (some ⟨Bn, 0, none⟩)] W fun e W' => (∃ v, e = .returned v) ∧
      ((∃ ys, ys = List.range m ∧ J ys W') ∨ (∃ pre, (∃ k, k ≤ m ∧ pre = List.range k) ∧ Jx pre W')) := by
  cases F; simp only at hro; subst hro
  refine callsIn_of_wp Try.func92 rfl h92 ?_ rfl
  simp only [Try.ntmps92, List.size_toArray, List.length_cons, List.length_nil, Nat.reduceAdd, Nat.reduceSub, Array.replicate_succ, Array.replicate_zero, List.push_toArray, List.append_toArray, List.nil_append, List.cons_append]
  gi_wp2
  gi_loopw [4] (fun i wr => ∃ k q : Nat, k ≤ m ∧ q = k * n ∧ i = .int .i64 (q : Int) ∧ J (List.range k) wr ∧ wr.cell? ⟨Bs, 0, none⟩ = some (.slice (some ⟨b, off, none⟩) L cap) ∧ wr.cell? ⟨Bn, 0, none⟩ = some (.int .i64 n))
    (fun i _ => L - (intOf i).toNat)
  case atStart => exact ⟨0, 0, Nat.zero_le _, by simp, rfl, h0, hBs, hBn⟩
  case round =>
    obtain ⟨k, q, hk, hq, rfl, hJs, hs, hnn⟩ := hrel
    by_cases hlt : k < m
    · have hqL : q + n ≤ L := by rw [hq, hL, ← Nat.succ_mul]; exact Nat.mul_le_mul_right _ hlt
      have hc1 : (q : Int) < (L : Int) := by omega
      have HQ := Aside0.mk hq; have HL := Aside0.mk hL
      clear hq hL
      gi_wp2
      gi_quiet (fail)
      obtain ⟨wn, hwn⟩ : ∃ x, x = wr.drewN nq := ⟨_, rfl⟩
      have hg := grown_drewN wr nq
      rw [← hwn] at hg ⊢
      have hJn : J (List.range k) wn := hJ _ _ _ none hJs hg (fun _ e => by cases e)
      have hsn : wn.cell? ⟨Bs, 0, none⟩ = some (.slice (some ⟨b, off, none⟩) L cap) := by rw [hwn, World.cell?_drewN]; exact hs
      have hnnn : wn.cell? ⟨Bn, 0, none⟩ = some (.int .i64 n) := by rw [hwn, World.cell?_drewN]; exact hnn
      clear hs hnn hwn hg hJs
      obtain ⟨fnr, tmps, assign, body, hy, hR⟩ := hY _ k wn hJn (by rw [List.length_range]; exact hlt)
      simp only [chunkAt, Nat.mod_eq_of_lt hlt, ← HQ.out] at hy
      gi_wp2
      refine hR.mono ?_
      rintro e W3 (⟨rfl, hJ3, hk3⟩ | ⟨rfl, hJx3⟩)
      · have hs3 := (hKp _ _ hk3).1.trans hsn
        have hn3 := (hKp _ _ hk3).2.trans hnnn
        gi_wp2
        go_roundw
        case rel => exact ⟨k + 1, q + n, by omega, by rw [HQ.out, Nat.succ_mul], by go_num, by rw [List.range_succ]; exact hJ3, hs3, hn3⟩
        case measure => simp [intOf]; omega
      · gi_wp2
        refine bodyPost_ret (results_none rfl _ _ _) rfl ?_
        exact ⟨⟨_, rfl⟩, .inr ⟨_, ⟨k + 1, by omega, (List.range_succ).symm⟩, hJx3⟩⟩
    · obtain rfl : k = m := by omega
      have hc1 : ¬ ((q : Int) < (L : Int)) := by rw [hq, hL]; omega
      clear hq hL
      gi_wp2
      go_end0
      exact ⟨⟨_, rfl⟩, .inl hJs⟩
/-- slices.Chunk(b, n): both arguments are boxed; the function value captures the boxes. -/
theorem chunk_in (F : Fence) (fn : Nat) (h81 : F.fn 81) (hro : F.round = none) (a : Option Addr) (len cap n : Nat) (h1 : 1 ≤ n) (w : World) :
    CallsIn F fn Try.prog 81 #[.slice a len cap, .int .i64 (n : Int)] w fun e w' => e = .returned (.func (.func 92) #[] #[.pointer (some ⟨w.heap.size, 0, none⟩), .pointer (some ⟨w.heap.size + 1, 0, none⟩)]) ∧ w' = (w.alloc (.cells #[.slice a len cap] 33)).alloc (.cells #[.int .i64 n] 3) := by
  have hc1 : ¬ ((n : Int) < 1) := by omega
  refine callsIn_of_wp Try.func81 rfl h81 ?_ hro
  simp only [Try.ntmps81, List.size_toArray, List.length_cons, List.length_nil, Nat.reduceAdd, Nat.reduceSub, Array.replicate_succ, Array.replicate_zero, List.push_toArray, List.append_toArray, List.nil_append, List.cons_append]
  gi_wp2
  go_ret
  exact ⟨rfl, rfl⟩
theorem chunk_stops (F : Fence) (fn : Nat) (h92 : F.fn 92) (hro : F.round = none) (hn1 : 1 ≤ fn) (Bs Bn b off n m L cap : Nat) (h1 : 1 ≤ n) (hL : L = m * n) (hm : L ≤ 1000000) (hcap : L ≤ cap) (Kp : World → World → Prop)
    (hKp : ∀ A B, Kp A B → B.cell? ⟨Bs, 0, none⟩ = A.cell? ⟨Bs, 0, none⟩ ∧ B.cell? ⟨Bn, 0, none⟩ = A.cell? ⟨Bn, 0, none⟩)
    (w : World) (hBs0 : Bs < w.heap.size) (hBn0 : Bn < w.heap.size) (hBs : w.cell? ⟨Bs, 0, none⟩ = some (.slice (some ⟨b, off, none⟩) L cap)) (hBn : w.cell? ⟨Bn, 0, none⟩ = some (.int .i64 n)) :
    SeqStopsK F fn Try.prog 92 #[.pointer (some ⟨Bs, 0, none⟩), .pointer (some ⟨Bn, 0, none⟩)] (fun x : Nat => #[chunkAt b off n (x % m)]) Kp (fun ys => ys = List.range m) (fun pre => ∃ k, k ≤ m ∧ pre = List.range k) m w := fun l J Jx W hW hJ hJx hY h0 =>
  chunk1_in F fn h92 hro hn1 l Bs Bn b off n m L cap _ J Jx hJ h1 hL hm hcap Kp hKp hY W ((hW.cell (p := ⟨Bs, 0, none⟩) hBs0).trans hBs) ((hW.cell (p := ⟨Bn, 0, none⟩) hBn0).trans hBn) h0
end Go.Proofs.YteimienhaodfcaaK
/- A disk within a loop over an iterator: Write with the map's block kept (writeM_calls), LM. -/
namespace Go.Proofs.YteimienhaodfcaaK
open Go.RowKit Go.Proofs.YteimienhaodfcaaW.PrintWords Go.Proofs.YteimienhaodfcaaW.PrintLast Go.Proofs.YteimienhaodfcaaW.PrintMore Go.Crc
open Go.ChangeMaps (setBlock)
attribute [local go_sem] max2_int min2_int max_two min_two
set_option linter.unusedVariables false
set_option linter.unusedSimpArgs false
variable {w w' : World} {X X' S : Nat → Prop} {d sb mb clock : Nat} {es : Array MapEntry} {safe : List Int} {D : Dk}
set_option maxHeartbeats 4000000 in
set_option maxRecDepth 100000 in
theorem writeM_calls (h : DParts w X d sb mb es clock safe D) (n : Int) (A : Option Addr) (c : Nat) (xs : List (List Int)) (hr : Kd.C (Kd.slice 5 (Kd.int .u8)) w A xs.length xs) (hl : xs.flatten.length ≤ 1099511627776) (hby : Bytes xs.flatten) :
    Calls Try.prog 18 #[.pointer (some ⟨d, 0, none⟩), .int .i64 n, .slice A xs.length c] w fun e w' => e = .returned (.int .i64 (D.writeE n xs.flatten)) ∧ (∃ sb' es' clock' safe', DParts w' (fun k => X k ∨ w.heap.size ≤ k) d sb' mb es' clock' safe' (D.written n xs.flatten)) ∧ Frm X w w' := by
  have HD := Aside0.mk h; have HR := Aside0.mk hr; have HBY := Aside0.mk hby
  clear h hr hby
  obtain ⟨p, hp⟩ : ∃ p, p = xs.flatten := ⟨_, rfl⟩
  have HP := Aside0.mk hp
  rw [← hp] at hl HBY ⊢
  clear hp
  go_enter Try.func18, Try.ntmps18
  go_wp2_with fail
  refine (concat_calls A c xs w HR.out (by rw [← HP.out]; exact hl)).mono ?_
  rintro e w1 ⟨v1, rfl, hr1, hb1⟩
  rw [← HP.out] at hr1
  obtain ⟨A1, c1, rfl⟩ := Kd.R_slice hr1
  obtain ⟨_, hc1, hC1⟩ := Kd.R_reads' hr1
  have HD1 := Aside0.mk (HD.out.frm (S := fun _ => False) (Frm.of_below hb1) (fun _ _ h => h))
  have HC1 := Aside0.mk hC1; have HB1 := Aside0.mk hb1
  have HCK : Aside0 (∀ W', Kept w1 W' (fun k => k < w.heap.size) → Kd.C (Kd.int .u8) W' A1 p.length p) := ⟨Kd.C_kept_own (Kd.R_bound hr1) (fun k hk hlt => by have := hk.2.1; omega)⟩
  clear hr1 hC1 hb1
  go_wp2_with fail
  refine (has_calls HD1.out n).mono ?_
  rintro e w2 ⟨rfl, hd2⟩
  have HD2 := Aside0.mk (HD1.out.frm (S := fun _ => False) (Frm.of_below hd2.below) (fun _ _ h => h))
  have HK2 : Aside0 (Kept w1 w2 (fun k => k < w.heap.size)) := ⟨Kept.of_below hd2.below _⟩
  have HB2 := Aside0.mk (below_step HB1.out hd2.below)
  clear hd2
  cases hh : D.has n with
  | false =>
    go_wp2_with fail
    go_ret
    refine ⟨by simp [Dk.writeE, hh], ?_, Frm.of_below HB2.out⟩
    rw [show D.written n p = D by simp [Dk.written, hh]]
    exact ⟨_, _, _, _, HD2.out.mono fun _ h => .inl h⟩
  | true =>
    have HH := Aside0.mk hh
    clear hh
    obtain ⟨c0, k1, k2, k3, k4, k5, k6⟩ := HD2.out.cells
    by_cases hsz : D.size < p.length
    · have ds : decide (D.size < p.length) = true := decide_eq_true hsz
      go_wp2_with fail
      go_ret
      refine ⟨by simp [Dk.writeE, HH.out, hsz], ?_, Frm.of_below HB2.out⟩
      rw [show D.written n p = D by simp [Dk.written, HH.out, hsz]]
      exact ⟨_, _, _, _, HD2.out.mono fun _ h => .inl h⟩
    · have ds : decide (D.size < p.length) = false := decide_eq_false hsz
      have HS := Aside0.mk hsz
      clear hsz
      go_wp2_with fail
      refine (begin_calls HD2.out).mono ?_
      rintro e w3 ⟨rfl, hD3, hf3, hs3⟩
      have HD3 := Aside0.mk hD3; have HF3 := Aside0.mk (((Frm.of_below (S := X) HB2.out)).then_ hf3 fun k hk => by subst hk; exact .inl HD.out.xd)
      have hdlt : d < w.heap.size := blk_lt HD.out.hd
      have HK3 : Aside0 (Kept w1 w3 (fun k => k < w.heap.size)) := ⟨HK2.out.then_ hf3.kept fun k hk => .inl (by omega)⟩
      have hC3 := HCK.out _ HK3.out
      have hgt : w.heap.size ≤ w3.heap.size := Nat.le_trans HB2.out.size hf3.size
      clear hD3 hf3 hs3 hdlt
      by_cases he : D.beginE = 0
      · have HE := Aside0.mk he
        rw [he]
        clear he
        have hb4 := HD.out.b4
        obtain ⟨c0, k1, k2, k3, k4, k5, k6⟩ := HD3.out.cells
        rw [D.begun_size] at k1
        have hmk := fun W => make_bytes W D.size (by omega)
        obtain ⟨W4, hW4⟩ : ∃ W, W = w3.alloc (.cells ((zeros D.size).map (.int .u8)).toArray 5) := ⟨_, rfl⟩
        have hB4 : Below w3.heap.size w3 W4 := by rw [hW4]; exact below_alloc (Below.refl _ _) _
        have hblk : Blk W4 w3.heap.size (zeros D.size) := by rw [hW4]; exact blk_new w3 _
        have hlp : p.length ≤ D.size := by have := HS.out; omega
        have hzl : (zeros D.size).length = D.size := by simp [zeros]
        obtain ⟨W5, hcp, hblk5, hB5⟩ := copy_bytes W4 w3.heap.size 0 D.size D.size A1 p (zeros D.size) c1 hblk (Kd.C_below hC3 hB4) hlp (by rw [hzl]; omega)
        have hB35 : Below w3.heap.size w3 W5 := by
          have h4 : w3.heap.size ≤ W4.heap.size := hB4.size
          exact hB4.trans hB5
        have hD5 := HD3.out.frm (S := fun _ => False) (Frm.of_below hB35) (fun _ _ h => h)
        have q3 := hD5.cells.2.2.2.1
        obtain ⟨m, hm⟩ : ∃ m : Nat, n = m := ⟨n.toNat, by have := HH.out; simp [Dk.has] at this; omega⟩
        subst hm
        have hmlt : m < D.sectors := by have := HH.out; simp [Dk.has] at this; exact this
        obtain ⟨es6, clock6, hup, hst6, hks6, hent6, hall6, hnew6⟩ := map_store (P := Try.prog) (t := 98) (v := .slice (some ⟨w3.heap.size, 0, none⟩) D.size D.size) (k := (m : Int)) Try.underlying98 Try.underlying3 hD5.hm hD5.st hD5.keys
        have HD5 := Aside0.mk hD5; have HB35 := Aside0.mk hB35; have HN := Aside0.mk (And.intro hst6 (And.intro hent6 (And.intro hall6 hnew6))); have HBL := Aside0.mk hblk5
        clear hD5 hB35 hst6 hent6 hall6 hnew6 hblk5 hC3 hks6 hB5 hblk hB4 hzl
        rw [hW4] at hcp
        clear hW4
        go_wp2_with fail
        go_ret
        obtain ⟨hst6, hent6, hall6, hnew6⟩ := HN.out
        have hz : (zeros D.size).take 0 ++ (p ++ (zeros D.size).drop (0 + p.length)) = p ++ zeros (D.size - p.length) := by simp [zeros, List.drop_replicate]
        have hbl := HBL.out
        rw [hz] at hbl
        have hlen : (p ++ zeros (D.size - p.length)).length = D.begun.size := by rw [D.begun_size, List.length_append, zeros, List.length_replicate]; omega
        have hput := HD5.out.put m (by rw [D.begun_sectors]; exact hmlt) _ hlen (Bytes.append HBY.out (zeros_bytes _)) w3.heap.size hbl (fun e => by have := blk_lt HD3.out.hs; omega) es6 clock6 (heap_setB_same HD5.out.hm) (Frm.one _ _) hst6 (by rw [D.begun_size]; exact hent6) hall6 hnew6
        refine ⟨by simp [Dk.writeE, HH.out, HS.out, HE.out], ?_, ?_⟩
        · rw [show D.written (m : Int) p = D.begun.put m (p ++ zeros (D.size - p.length)) by simp [Dk.written, HH.out, HS.out, HE.out]]
          exact ⟨_, _, _, _, hput.mono fun k hk => hk.imp id fun e => by omega⟩
        · exact (HF3.out.step HB35.out).setB (.inl HD5.out.xm) _
      · have HE := Aside0.mk he
        have de : (D.beginE == 0) = false := by simpa using he
        clear he
        go_wp2_with fail
        go_ret
        refine ⟨by simp [Dk.writeE, HH.out, HS.out], ?_, HF3.out⟩
        rw [show D.written n p = D.begun by simp [Dk.written, HH.out, HS.out, HE.out]]
        exact ⟨_, _, _, _, HD3.out.mono fun _ h => .inl h⟩
/-- A block of cells. -/
def isC (W : World) (k : Nat) : Prop := ∃ o, W.heap[k]? = some o ∧ o.isCells = true
theorem DParts.tidy (h : DParts w X d sb mb es clock safe D) : DParts w (fun k => X k ∧ (k = mb ∨ isC w k)) d sb mb es clock safe D :=
  { h with
    ent := fun e he => by
      obtain ⟨n, l, b, h1⟩ := h.ent e he
      exact ⟨n, l, b, { h1 with own := ⟨h1.own, .inr ⟨_, h1.blk, rfl⟩⟩ }⟩
    xd := ⟨h.xd, .inr ⟨_, h.hd, rfl⟩⟩
    xs := ⟨h.xs, .inr ⟨_, h.hs, rfl⟩⟩
    xm := ⟨h.xm, .inl rfl⟩ }
/-- A disk within a loop over an iterator that began in world W0. S: what the loop writes of what lay ahead of it; Xd: what of it is the disk's. -/
structure LM (W0 W : World) (S Xd : Nat → Prop) (mb d : Nat) (D : Dk) : Prop where
  at_ : ∃ X sb es clock safe, DParts W X d sb mb es clock safe D ∧ (∀ k, X k → Xd k ∨ W0.heap.size ≤ k) ∧ (∀ k, X k → k = mb ∨ isC W k) ∧ ∀ k, X k → k < W.heap.size
  lt : mb < W0.heap.size
  frm : Frm S W0 W
  xs : ∀ k, Xd k → S k
section
variable {w W0 W W2 : World} {S Xd : Nat → Prop} {mb d : Nat} {D : Dk}
theorem LX.lm (h : LX w W0 Xd d D) (hS : ∀ k, Xd k → S k) : ∃ mb, LM W0 W0 S Xd mb d D := by
  obtain ⟨sb, mb, es, clock, safe, hp⟩ := h.at_
  exact ⟨mb, ⟨_, _, _, _, _, hp.tidy, fun k hk => .inl hk.1, fun k hk => hk.2, fun k hk => h.hi k hk.1⟩, h.hi _ hp.xm, Frm.refl _ _, hS⟩
theorem LM.lx (h : LM W0 W S Xd mb d D) (h0 : LX w W0 Xd d D) (hb : Below w.heap.size w W) : ∃ X', LX w W X' d D ∧ ∀ k, X' k → Xd k ∨ W0.heap.size ≤ k := by
  obtain ⟨X, sb, es, clock, safe, hp, h1, h2, h3⟩ := h.at_
  exact ⟨X, ⟨⟨_, _, _, _, _, hp⟩, hb, fun k hk => (h1 k hk).elim (h0.lo k) (fun hk => Nat.le_trans h0.bel.size hk), h3⟩, h1⟩
theorem LM.via (h : LM W0 W S Xd mb d D) {T : Nat → Prop} (hf : Frm T W W2) (hT : ∀ k, T k → S k ∨ W0.heap.size ≤ k) (hn : ∀ k, T k → k ≠ mb ∧ ¬ isC W k ∨ (¬ Xd k ∧ k < W0.heap.size)) : LM W0 W2 S Xd mb d D := by
  obtain ⟨X, sb, es, clock, safe, hp, h1, h2, h3⟩ := h.at_
  have hXT : ∀ k, X k → ¬ T k := fun k hk ht => by
    rcases hn k ht with ⟨a, b⟩ | ⟨a, b⟩
    · exact (h2 k hk).elim a b
    · exact (h1 k hk).elim a (by omega)
  refine ⟨⟨X, sb, es, clock, safe, hp.frm hf hXT, h1, fun k hk => (h2 k hk).imp id fun ⟨o, ho, hc⟩ => ⟨o, hf.blk ho (hXT k hk), hc⟩, fun k hk => Nat.lt_of_lt_of_le (h3 k hk) hf.size⟩, h.lt, h.frm.then_ hf hT, h.xs⟩
theorem LM.step (h : LM W0 W S Xd mb d D) (hb : Below W.heap.size W W2) : LM W0 W2 S Xd mb d D := h.via (Frm.of_below (S := fun _ => False) hb) (fun _ hk => hk.elim) (fun _ hk => hk.elim)
theorem LM.set (h : LM W0 W S Xd mb d D) {g : Nat} (hS : S g) (hx : ¬ Xd g) (hg : g < W0.heap.size) (j : Nat) (u : Value) : LM W0 (W.setCell ⟨g, j, none⟩ u) S Xd mb d D :=
  h.via (Frm.cellD W g j u) (fun k hk => .inl (by rw [hk]; exact hS)) (fun k hk => .inr (by rw [hk]; exact ⟨hx, hg⟩))
theorem LM.grown {row : Option Nat} (h : LM W0 W S Xd mb d D) (hg : W.grownBy W2 row) (hr : ∀ r, row = some r → W0.heap.size ≤ r ∧ ∃ o : Obj, W.heap[r]? = some o ∧ o.isCells = false) : LM W0 W2 S Xd mb d D := by
  have hf : Frm (fun k => row = some k) W W2 := ⟨hg.os, hg.tape, hg.output, hg.size, fun i hi hn => hg.block i hi (fun e => hn e.symm)⟩
  refine h.via hf (fun k hk => .inr (hr k hk).1) (fun k hk => .inl ?_)
  obtain ⟨hB, o, ho, hc⟩ := hr k hk
  refine ⟨fun e => by have := h.lt; omega, fun ⟨o', ho', hc'⟩ => ?_⟩
  rw [ho] at ho'; cases ho'; rw [hc] at hc'; cases hc'
/-- What lay ahead of the loop and is not the loop's to write. -/
def KpL (W0 : World) (S : Nat → Prop) (A B : World) : Prop := ∀ k, k < W0.heap.size → ¬ S k → B.heap[k]? = A.heap[k]?
theorem KpL.trans {A B C : World} (h : KpL W0 S A B) (k : KpL W0 S B C) : KpL W0 S A C := fun i hi hn => (k i hi hn).trans (h i hi hn)
theorem KpL.of_below (h : Below W.heap.size W W2) (hs : W0.heap.size ≤ W.heap.size) : KpL W0 S W W2 := fun k hk _ => h.block k (by omega)
theorem KpL.put (W : World) (l : Nat) (o o' : Obj) (hl : W0.heap.size ≤ l) : KpL W0 S W (W.putObj l o') := fun k hk _ => World.putObj_heap_other (fun e => by omega)
theorem KpL.set (W : World) {g : Nat} (hS : S g) (j : Nat) (u : Value) : KpL W0 S W (W.setCell ⟨g, j, none⟩ u) := fun k _ hn => Below.heap_setCell W ⟨g, j, none⟩ u k (fun e => hn (by rw [e]; exact hS))
theorem KpL.cell {A B : World} (h : KpL W0 S A B) {p : Addr} (hp : p.block < W0.heap.size) (hn : ¬ S p.block) : B.cell? p = A.cell? p := World.cell?_of_block (h _ hp hn)
theorem KeepsFrom.of_below {B : Nat} (h : Below W.heap.size W W2) : KeepsFrom B W W2 := ⟨h.size, fun k o _ hk _ => (h.block k (Array.getElem?_eq_some_iff.1 hk).1).trans hk⟩
theorem LM.write (h : LM W0 W S Xd mb d D) (n : Int) (A : Option Addr) (c : Nat) (xs : List (List Int)) (hr : Kd.C (Kd.slice 5 (Kd.int .u8)) W A xs.length xs) (hl : xs.flatten.length ≤ 1099511627776) (hby : Bytes xs.flatten) :
    Calls Try.prog 18 #[.pointer (some ⟨d, 0, none⟩), .int .i64 n, .slice A xs.length c] W fun e w' => e = .returned (.int .i64 (D.writeE n xs.flatten)) ∧ LM W0 w' S Xd mb d (D.written n xs.flatten) ∧ KeepsFrom W0.heap.size W w' ∧ KpL W0 S W w' ∧ ∀ k, k < W0.heap.size → ¬ Xd k → w'.heap[k]? = W.heap[k]? := by
  obtain ⟨X, sb, es, clock, safe, hp, h1, h2, h3⟩ := h.at_
  refine (writeM_calls hp n A c xs hr hl hby).mono ?_
  rintro e w' ⟨he, ⟨sb', es', clock', safe', hp'⟩, hf⟩
  have hsz : W0.heap.size ≤ W.heap.size := h.frm.size
  refine ⟨he, ⟨⟨_, _, _, _, _, hp'.bound.tidy, fun k hk => ?_, fun k hk => hk.2, fun k hk => hk.1.2⟩, h.lt, h.frm.then_ hf fun k hk => (h1 k hk).imp (h.xs k) id, h.xs⟩, ⟨hf.size, fun k o hB ho hc => hf.blk ho fun hx => ?_⟩, fun k hk hn => hf.block k (by omega) fun hx => ?_, fun k hk hn => hf.block k (by omega) fun hx => (h1 k hx).elim hn (by omega)⟩
  · exact hk.1.1.elim (h1 k) (fun hk => .inr (by omega))
  · rcases h2 k hx with e | ⟨o', ho', hc'⟩
    · have := h.lt; omega
    · rw [ho] at ho'; cases ho'; rw [hc] at hc'; cases hc'
  · exact (h1 k hx).elim (fun hx => hn (h.xs k hx)) (by omega)
end
end Go.Proofs.YteimienhaodfcaaK
/- page.Write, walked whole (countQ_calls: Count as a quiet callee; Dk.pages, Dk.pwr; pwrite_calls). -/
namespace Go.Proofs.YteimienhaodfcaaK
open Go.Shelf Go.RowKit Go.Proofs.YteimienhaodfcaaW.PrintWords Go.Proofs.YteimienhaodfcaaW.PrintLast Go.Proofs.YteimienhaodfcaaW.PrintMore Go.Crc
open Go.ChangeMaps (setBlock)
attribute [local go_sem] max2_int min2_int max_two min_two Oper.semAt_some
set_option linter.unusedVariables false
set_option linter.unusedSimpArgs false
variable {w w' : World} {X X' S : Nat → Prop} {d sb mb clock : Nat} {es : Array MapEntry} {safe : List Int} {D : Dk}
theorem drawn0_tr {a b c : World} (h : Drawn0 a b) (k : Drawn0 b c) : Drawn0 a c := by
  obtain ⟨⟨m, e⟩⟩ := k
  rw [e]
  exact h.step m
set_option maxHeartbeats 1000000 in
theorem countQ_calls {w : World} {X : Nat → Prop} {d sb mb clock : Nat} {es : Array MapEntry} {safe : List Int} {D : Dk} (h : DParts w X d sb mb es clock safe D) (per : Int) : Calls Try.prog 47 #[.pointer (some ⟨d, 0, none⟩), .int .i64 per] w fun e w' => e = .returned (.int .i64 (countD D per)) ∧ Drawn0 w w' := by
  have HD := Aside0.mk h
  have hb3 := h.b3; have hb4 := h.b4; have hb1 := h.b1; have hb2 := h.b2
  clear h
  by_cases h1 : per < 1
  · have d1 : decide (per < 1) = true := decide_eq_true h1
    go_enter Try.func47, Try.ntmps47
    go_wp2_with fail
    go_ret
    exact ⟨by rw [countD, if_pos (.inl h1)]; rfl, Drawn0.refl _⟩
  have d1 : decide (per < 1) = false := decide_eq_false h1
  by_cases h2 : 8192 < per
  · have d2 : decide (8192 < per) = true := decide_eq_true h2
    go_enter Try.func47, Try.ntmps47
    go_wp2_with fail
    go_ret
    exact ⟨by rw [countD, if_pos (.inr (.inl h2))]; rfl, Drawn0.refl _⟩
  have d2 : decide (8192 < per) = false := decide_eq_false h2
  have hp : 0 ≤ per * (D.size : Int) ∧ per * (D.size : Int) ≤ 8192 * 1024 := ⟨Int.mul_nonneg (by omega) (by omega), Int.mul_le_mul (by omega) (by omega) (by omega) (by omega)⟩
  have hw : IntKind.i64.wrap (per * (D.size : Int)) = per * (D.size : Int) := IntWalk.i64_in _ (by omega)
  have hw2 : wrap64 (per * (D.size : Int)) = per * (D.size : Int) := by unfold wrap64; omega
  go_enter Try.func47, Try.ntmps47
  go_wp2_with fail
  refine (size_calls HD.out).mono ?_
  rintro e w1 ⟨rfl, hd1⟩
  have HD1 := Aside0.mk (HD.out.frm (S := fun _ => False) (Frm.of_below hd1.below) (fun _ _ h => h)); have HB1 := Aside0.mk hd1
  clear hd1
  go_wp2_with fail
  refine (room_calls _ _).mono ?_
  rintro e w2 ⟨rfl, hd2⟩
  have HD2 := Aside0.mk (HD1.out.frm (S := fun _ => False) (Frm.of_below hd2.below) (fun _ _ h => h)); have HB2 := Aside0.mk (drawn0_tr HB1.out hd2)
  clear hd2
  by_cases h3 : room (per * (D.size : Int)) = 0
  · have d3 : (room (per * (D.size : Int)) == 0) = true := by simpa using h3
    have H3 := Aside0.mk h3
    clear h3
    go_wp2_with fail
    go_ret
    exact ⟨by rw [countD, if_pos (.inr (.inr H3.out))]; rfl, HB2.out⟩
  have d3 : (room (per * (D.size : Int)) == 0) = false := by simpa using h3
  have H3 := Aside0.mk h3
  clear h3
  go_wp2_with fail
  refine (sectors_calls HD2.out).mono ?_
  rintro e w3 ⟨rfl, hd3⟩
  have HB3 := Aside0.mk (drawn0_tr HB2.out hd3)
  clear hd3
  have hq := Int.ediv_le_self per (show (0 : Int) ≤ (D.sectors : Int) by omega)
  have hq0 : 0 ≤ (D.sectors : Int) / per := Int.ediv_nonneg (by omega) (by omega)
  have e0 : Aside0 (countD D per = if 16384 < (D.sectors : Int) / per then 16384 else (D.sectors : Int) / per) := ⟨by
    rw [countD, if_neg (fun h => h.elim (fun h => by omega) (fun h => h.elim (fun h => by omega) H3.out))]⟩
  by_cases h4 : 16384 < (D.sectors : Int) / per
  · have d4 : decide (16384 < (D.sectors : Int) / per) = true := decide_eq_true h4
    go_wp2_with fail
    go_ret
    exact ⟨by rw [e0.out, if_pos h4]; rfl, HB3.out⟩
  · have d4 : decide (16384 < (D.sectors : Int) / per) = false := decide_eq_false h4
    have H4 := Aside0.mk h4
    go_wp2_with fail
    go_ret
    exact ⟨by rw [e0.out, if_neg (by have := H4.out; omega)]; rfl, HB3.out⟩
/-- The sectors of a page, written one behind the other. -/
def Dk.pages : List (List Int) → Int → Dk → Dk × Int
  | [], _, D => (D, 0)
  | c :: cs, n, D => if D.writeE n c = 0 then Dk.pages cs (n + 1) (D.written n c) else (D.written n c, D.writeE n c)
def Dk.pwr (D : Dk) (per kind id : Int) (l : List Int) : Dk × Int :=
  if countD D per ≤ id then (D, 2) else if putE (per * D.size) kind l ≠ 0 then (D, putE (per * D.size) kind l)
  else Dk.pages ((List.range per.toNat).map fun j => secOf (putB (per * D.size).toNat kind id l) D.size j) (id * per) D
theorem res49 (tmps : Array Value) (W : World) (g : Nat) (v : Int) (ht : tmps[6]?.getD undef = .pointer (some ⟨g, 0, none⟩)) (hc : W.cell? ⟨g, 0, none⟩ = some (.int .i64 v)) : (results Try.f49 tmps).run Try.prog W = .ok (.int .i64 v) W := by
  have h : Try.f49.results = #[.cell 6 28] := rfl
  have h28 := Try.underlying28
  simp [results, h, ht, asAddr, go_sem, hc, h28]
theorem LX.still {w W W2 : World} {X : Nat → Prop} {d : Nat} {D : Dk} (h : LX w W X d D) (hb : Below W.heap.size W W2) : Nxt w W X W2 d D := ⟨X, h.step hb, fun _ hk => .inl hk, Frm.of_below hb⟩
theorem LX.sizeC {w W : World} {X : Nat → Prop} {d : Nat} {D : Dk} (h : LX w W X d D) : Calls Try.prog 27 #[.pointer (some ⟨d, 0, none⟩)] W fun e w' => e = .returned (.int .i64 (D.size : Int)) ∧ Drawn0 W w' := by
  obtain ⟨sb, mb, es, clock, safe, hp⟩ := h.at_
  exact size_calls hp
theorem countD_pos {D : Dk} {per id : Int} (h : ¬ countD D per ≤ id) (hi : 0 ≤ id) : 1 ≤ per ∧ per ≤ 8192 ∧ room (per * D.size) ≠ 0 := by
  unfold countD at h
  split at h
  · omega
  · omega
theorem rows1w {W : World} {A : Option Addr} {c b2 : Nat} {l : List Int} (hC : Kd.C (Kd.int .u8) W A l.length l) (hc : l.length ≤ c) (h2 : W.heap[b2]? = some (.cells #[.slice A l.length c] 33 (0, 0))) : Kd.C (Kd.slice 5 (Kd.int .u8)) W (some ⟨b2, 0, none⟩) 1 [l] := by
  refine ⟨rfl, by decide, fun _ => ⟨_, rfl, fun j p hj => ?_⟩⟩
  match j, hj with
  | 0, hj =>
    obtain rfl : l = p := by simpa using hj
    refine ⟨[.slice A l.length c], rfl, ⟨_, _, rfl, hc, hC⟩, fun i u hu => ?_⟩
    obtain ⟨rfl, rfl⟩ : i = 0 ∧ u = .slice A l.length c := by
      rcases i with _ | i
      · exact ⟨rfl, by simpa using hu.symm⟩
      · simp at hu
    rw [add_plain, blk_cell h2]; rfl
  | j + 1, hj => simp at hj
theorem LM.nxt {w W W8 W' : World} {X SS : Nat → Prop} {mb d : Nat} {D Dn : Dk} (h : LM W8 W' SS X mb d Dn) (h0 : LX w W X d D) (h8 : LX w W8 X d D) (hb : Below W.heap.size W W8) (hS : ∀ k, SS k → X k ∨ W.heap.size ≤ k) : Nxt w W X W' d Dn := by
  have hf : Frm X W W' := (Frm.of_below hb).then_ h.frm hS
  obtain ⟨X', sb, es, clock, safe, hp, h1, h2, h3⟩ := h.at_
  exact ⟨X', ⟨⟨_, _, _, _, _, hp⟩, h0.bel.trans (hf.below (fun k hk => h0.lo k hk) h0.bel.size), fun k hk => (h1 k hk).elim (h0.lo k) (fun hk => Nat.le_trans h8.bel.size hk), h3⟩, fun k hk => (h1 k hk).imp id (fun hk => Nat.le_trans hb.size hk), hf⟩
theorem cells_grown {A B : World} {row : Option Nat} {n0 : Nat} (hg : A.grownBy B row) (hr : ∀ r, row = some r → n0 ≤ r ∧ ∃ o : Obj, A.heap[r]? = some o ∧ o.isCells = false) {g t : Nat} {cs : Array Value} {fr : Nat × Nat} (h : A.heap[g]? = some (.cells cs t fr)) : B.heap[g]? = some (.cells cs t fr) :=
  (hg.block g (blk_lt h) (fun e => by obtain ⟨_, o, ho, hc⟩ := hr g e.symm; rw [h] at ho; cases ho; cases hc)).trans h
/-- A page's bytes, just laid. -/
def PgC (s : Nat) (u : Value) : Prop := ∃ g : Nat, u = .slice (some ⟨g, 0, none⟩) s s
def PgR (B s : Nat) (pb : List Int) (u : Value) (W : World) : Prop := ∃ g : Nat, B ≤ g ∧ u = .slice (some ⟨g, 0, none⟩) s s ∧ Blk W g pb
def PgT (s : Nat) (u : Value) : Prop := ∃ g : Nat, u = .tuple #[.slice (some ⟨g, 0, none⟩) s s, .int .i64 0]
def PgU (B s : Nat) (pb : List Int) (u : Value) (W : World) : Prop := ∃ g : Nat, B ≤ g ∧ u = .tuple #[.slice (some ⟨g, 0, none⟩) s s, .int .i64 0] ∧ Blk W g pb
set_option maxHeartbeats 4000000 in
set_option maxRecDepth 100000 in
theorem pwrite_calls {w W : World} {X : Nat → Prop} {d : Nat} {D : Dk} (h : LX w W X d D) (per kind id : Int) (A : Option Addr) (c : Nat) (l : List Int) (hr : Kd.C (Kd.int .u8) W A l.length l) (hc : l.length ≤ c) (hk : 0 ≤ kind ∧ kind < 256) (hi : 0 ≤ id ∧ id < 4294967296) (hL : Bytes l) :
    Calls Try.prog 49 #[.pointer (some ⟨d, 0, none⟩), .int .i64 per, .agg #[.int .u8 kind, .int .u32 id, .slice A l.length c]] W fun e w' => e = .returned (.int .i64 (D.pwr per kind id l).2) ∧ Nxt w W X w' d (D.pwr per kind id l).1 := by
  have H := Aside0.mk h; have HR := Aside0.mk hr; have HC := Aside0.mk hc; have HK := Aside0.mk hk; have HI := Aside0.mk hi; have HL := Aside0.mk hL
  clear h hr hc hk hL
  refine (callsIn_wide (n := 6)).1 ?_
  refine callsIn_of_wp_marks Try.func49 rfl trivial ?_ rfl
  simp only [Try.ntmps49, List.size_toArray, List.length_cons, List.length_nil, Nat.reduceAdd, Nat.reduceSub, Array.replicate_succ, Array.replicate_zero, List.push_toArray, List.append_toArray, List.nil_append, List.cons_append]
  refine wpIn_wide.2 ?_
  obtain ⟨g, hg⟩ : ∃ g, g = W.heap.size := ⟨_, rfl⟩
  obtain ⟨W3, hW3⟩ : ∃ W3, W3 = ((W.alloc (.cells #[.pointer (some ⟨d, 0, none⟩)] 27)).alloc (.cells #[.int .u8 kind, .int .u32 id, .slice A l.length c] 83)).alloc (.cells #[.int .i64 0] 28) := ⟨_, rfl⟩
  have hb3 : Below W.heap.size W W3 := by rw [hW3]; exact below_alloc (below_alloc (below_alloc (Below.refl _ _) _) _) _
  have q0 : W3.heap[g]? = some (.cells #[.pointer (some ⟨d, 0, none⟩)] 27 (0, 0)) := by
    rw [hW3, hg]; exact ((below_alloc (below_alloc (Below.refl _ _) _) _).block _ (by simp)).trans (blk_new W _)
  have q1 : W3.heap[g + 1]? = some (.cells #[.int .u8 kind, .int .u32 id, .slice A l.length c] 83 (0, 0)) := by
    have h := blk_new (W.alloc (.cells #[.pointer (some ⟨d, 0, none⟩)] 27)) (.cells #[.int .u8 kind, .int .u32 id, .slice A l.length c] 83)
    rw [World.size_alloc] at h
    rw [hW3, hg]; exact ((below_alloc (Below.refl _ _) _).block _ (by simp)).trans h
  have q2 : W3.heap[g + 1 + 1]? = some (.cells #[.int .i64 0] 28 (0, 0)) := by
    have h := blk_new ((W.alloc (.cells #[.pointer (some ⟨d, 0, none⟩)] 27)).alloc (.cells #[.int .u8 kind, .int .u32 id, .slice A l.length c] 83)) (.cells #[.int .i64 0] 28)
    rw [World.size_alloc, World.size_alloc] at h
    rw [hW3, hg]; exact h
  have H3 := Aside0.mk (H.out.step hb3)
  go_upto_region 3 with (fail)
  rw [← hW3, ← hg]
  have HB3 := Aside0.mk hb3
  have HQ := Aside0.mk (And.intro q0 (And.intro q1 q2))
  have HG := Aside0.mk hg
  clear hW3 hb3 hg
  obtain ⟨sb, mb, es, clock, safe, hp⟩ := H3.out.at_
  have hcq := fun W' (hd : Drawn0 W3 W') => countQ_calls (hp.frm (S := fun _ => False) (Frm.of_below hd.below) (fun _ _ h => h)) per
  have k0 := blk_cell q0 0; have k1 := blk_cell q1 0; have k2 := blk_cell q1 1; have k3 := blk_cell q1 2
  simp only [List.getElem?_toArray, List.getElem?_cons_zero, List.getElem?_cons_succ] at k0 k1 k2 k3
  have HP := Aside0.mk hp; have HCQ := Aside0.mk hcq
  clear hp hcq q0 q1 q2
  go_quiet (first | (go_at_call 47; (refine (HCQ.out _ ⟨⟨_, rfl⟩⟩).mono ?_); rintro e w' ⟨rfl, ⟨nd, rfl⟩⟩; exact ⟨rfl, _, World.drewN_drewN _ _ _⟩))
  obtain ⟨W4, hW4⟩ : ∃ W4, W4 = W3.drewN nq := ⟨_, rfl⟩
  have hb4 : Below W3.heap.size W3 W4 := by rw [hW4]; exact pw_below_drewN (Below.refl _ _) _
  rw [← hW4]
  clear hW4 k0 k1 k2 k3
  have H4 := Aside0.mk (H3.out.step hb4)
  have HB4 := Aside0.mk (below_step HB3.out hb4)
  have q0 := blk_below HQ.out.1 hb4; have q1 := blk_below HQ.out.2.1 hb4; have q2 := blk_below HQ.out.2.2 hb4
  have k0 := blk_cell q0 0; have k1 := blk_cell q1 0; have k2 := blk_cell q1 1; have k3 := blk_cell q1 2; have k4 := blk_cell q2 0; have f4 := blk_frozen q2 0
  simp only [List.getElem?_toArray, List.getElem?_cons_zero, List.getElem?_cons_succ] at k0 k1 k2 k3 k4
  have HQ4 := Aside0.mk (And.intro q0 (And.intro q1 q2))
  clear hb4 q0 q1 q2 HP HCQ HQ
  by_cases hcnt : countD D per ≤ id
  · have d1 : decide (countD D per ≤ id) = true := decide_eq_true hcnt
    have HCN := Aside0.mk hcnt
    go_wp2_with fail
    have hg := HG.out
    have e0 : D.pwr per kind id l = (D, 2) := by rw [Dk.pwr, if_pos HCN.out]
    rw [e0]
    exact ⟨_, res49 _ _ (g + 1 + 1) 2 rfl (World.cell?_setCell_same' _ _ _ (by rw [k4]; rfl)), rfl, H.out.still (HB4.out.setCell (p := ⟨g + 1 + 1, 0, none⟩) (by show W.heap.size ≤ g + 1 + 1; omega) _)⟩
  · have d1 : decide (countD D per ≤ id) = false := decide_eq_false hcnt
    have HCN := Aside0.mk hcnt
    have hcp := countD_pos hcnt hi.1
    have hdb : 64 ≤ D.size ∧ D.size ≤ 1024 := by obtain ⟨sb, mb, es, clock, safe, hp⟩ := H4.out.at_; exact ⟨hp.b3, hp.b4⟩
    have hp0 : 0 ≤ per * (D.size : Int) ∧ per * (D.size : Int) ≤ 8192 * 1024 := ⟨Int.mul_nonneg (by omega) (by omega), Int.mul_le_mul (by omega) (by omega) (by omega) (by omega)⟩
    have hw : IntKind.i64.wrap (per * (D.size : Int)) = per * (D.size : Int) := IntWalk.i64_in _ (by omega)
    have hw2 : wrap64 (per * (D.size : Int)) = per * (D.size : Int) := by unfold wrap64; omega
    have HCP := Aside0.mk (And.intro hcp hdb)
    obtain ⟨ps, hps⟩ : ∃ n : Nat, n = (per * (D.size : Int)).toNat := ⟨_, rfl⟩
    obtain ⟨pb, hpb⟩ : ∃ L : List Int, L = putB ps kind id l := ⟨_, rfl⟩
    have HPS := Aside0.mk hps; have HPB := Aside0.mk hpb
    clear hps hpb
    by_cases hpe : putE (per * (D.size : Int)) kind l = 0
    · have HPE := Aside0.mk hpe
      clear hpe
      have HG4 : Aside0 (g + 1 + 1 < W4.heap.size) := ⟨blk_lt HQ4.out.2.2⟩
      go_upto_region 5 with (fail)
      obtain ⟨Jnv, hJnv⟩ : ∃ J : World → Prop, J = fun W' => Below W4.heap.size W4 W' := ⟨_, rfl⟩
      have HJD : Aside0 (∀ W', Jnv W' → Below W4.heap.size W4 W') := ⟨fun W' h => by rw [hJnv] at h; exact h⟩
      have HDJ : Aside0 (∀ W', Below W4.heap.size W4 W' → Jnv W') := ⟨fun W' h => by rw [hJnv]; exact h⟩
      have SF : Aside0 (∀ W', Jnv W' → W'.cell? ⟨g, 0, none⟩ = some (.pointer (some ⟨d, 0, none⟩)) ∧ W'.cell? ⟨g + 1, 0, none⟩ = some (.int .u8 kind) ∧ W'.cell? ⟨g + 1, 1, none⟩ = some (.int .u32 id) ∧ W'.cell? ⟨g + 1, 2, none⟩ = some (.slice A l.length c)) := ⟨fun W' hW => by
        have hb := HJD.out W' hW
        refine ⟨by rw [blk_cell (blk_below HQ4.out.1 hb) 0]; rfl, by rw [blk_cell (blk_below HQ4.out.2.1 hb) 0]; rfl, by rw [blk_cell (blk_below HQ4.out.2.1 hb) 1]; rfl, by rw [blk_cell (blk_below HQ4.out.2.1 hb) 2]; rfl⟩⟩
      have HSZ : Aside0 (∀ W', Jnv W' → Calls Try.prog 27 #[.pointer (some ⟨d, 0, none⟩)] W' fun e w' => e = .returned (.int .i64 (D.size : Int)) ∧ Jnv w' ∧ Below W'.heap.size W' w') := ⟨fun W' hW => (H4.out.step (HJD.out _ hW)).sizeC.mono fun e w' ⟨he, hd⟩ => ⟨he, HDJ.out _ (below_step (HJD.out _ hW) hd.below), hd.below⟩⟩
      have HRF : Aside0 (∀ W : World, Below W.heap.size W W) := ⟨fun W => Below.refl _ _⟩
      clear k0 k1 k2 k3 k4 f4 hJnv
      refine' wp_region_flow (by kernel_rfl) (by kernel_rfl) Jnv (fun W W' => Below W.heap.size W W') HRF.out (HDJ.out _ (below_drew1 (Below.refl _ _))) _ ?_
      rotate_left
      refine' Flow.val _ 0 (some 24) (Op.move (Operand.tmp 1)) 3 (none) [] _ rfl (by kernel_rfl) (by kernel_rfl) (by kernel_rfl) (by rfl) ?_ ?_ HRF.out
      rotate_left 2
      · (intro W hW hK; go_simp; first | done | with_reducible rfl)
      try simp only [Act.put, List.setIfInBounds_toArray, List.set_cons_zero, List.set_cons_succ]
      refine' Flow.val _ 1 (some 25) (Op.load 27 (Operand.tmp 3)) 27 (none) [] _ rfl (by kernel_rfl) (by kernel_rfl) (by kernel_rfl) (by rfl) ?_ ?_ HRF.out
      rotate_left 2
      · (intro W hW hK; have hF := SF.out W hW; go_simp; first | done | with_reducible rfl)
      try simp only [Act.put, List.setIfInBounds_toArray, List.set_cons_zero, List.set_cons_succ]
      refine' Flow.call _ 2 (some 26) (Op.call { callee := Callee.value (Operand.func 27), args := #[Operand.tmp 25], argTypes := #[27] }) 3 (none) [] _ 27 _ rfl (by kernel_rfl) (by kernel_rfl) (by kernel_rfl) (by rfl) ?_ ?_ ?_
      rotate_left 3
      · (intro W; go_simp; first | done | with_reducible rfl)
      · (intro W hW hK; refine (HSZ.out W hW).mono ?_; intro e w' h; exact h)
      try simp only [Act.put, List.setIfInBounds_toArray, List.set_cons_zero, List.set_cons_succ]
      refine' Flow.val _ 3 (some 27) (Op.binOp BinOp.mul 3 (Operand.tmp 24) (Operand.tmp 26) 3) 3 (none) [] _ rfl (by kernel_rfl) (by kernel_rfl) (by kernel_rfl) (by rfl) ?_ ?_ HRF.out
      rotate_left 2
      · (intro W hW hK; go_simp; first | done | with_reducible rfl)
      try simp only [Act.put, List.setIfInBounds_toArray, List.set_cons_zero, List.set_cons_succ]
      refine' Flow.val _ 4 (some 28) (Op.load 83 (Operand.tmp 5)) 83 (none) [] _ rfl (by kernel_rfl) (by kernel_rfl) (by kernel_rfl) (by rfl) ?_ ?_ HRF.out
      rotate_left 2
      · (intro W hW hK; have hF := SF.out W hW; go_simp; first | done | with_reducible rfl)
      try simp only [Act.put, List.setIfInBounds_toArray, List.set_cons_zero, List.set_cons_succ]
      refine' Flow.op [(6, PgT ps, PgU W4.heap.size ps pb), (7, PgC ps, PgR W4.heap.size ps pb), (8, (fun u => u = (.int .i64 0 : Value)), fun _ _ => True), (9, PgC ps, PgR W4.heap.size ps pb), (10, (fun u => u = (.int .i64 0 : Value)), fun _ _ => True)] 5 (some 29) (Op.call { callee := Callee.value (Operand.func 77), args := #[Operand.tmp 27, Operand.tmp 28], argTypes := #[3, 83] }) 39 (none) [] (PgT ps) (PgU W4.heap.size ps pb) rfl (by kernel_rfl) (by kernel_rfl) (by kernel_rfl) ⟨_, 0, rfl⟩ ?_ (by rfl) ?_ ?_
      · rintro v w1 w2 hu ⟨g9, hb, e, hk⟩; exact ⟨g9, hb, e, blk_below hk hu⟩
      · intro W hW hK
        refine .inr ⟨77, #[.int .i64 (per * (D.size : Int)), .agg #[.int .u8 kind, .int .u32 id, .slice A l.length c]], by go_simp, (put_calls A c _ kind id l W (Kd.C_below HR.out (below_step HB4.out (HJD.out _ hW))) HC.out HK.out hi HL.out).mono ?_⟩
        rintro e w' ⟨v1, rfl, _, hv1, hb⟩
        obtain ⟨g9, hg9, rfl, hk9⟩ := hv1 HPE.out
        rw [← HPS.out] at hk9 ⊢
        rw [← HPB.out] at hk9
        rw [HPE.out]
        exact ⟨_, rfl, ⟨_, rfl⟩, HDJ.out _ (below_step (HJD.out _ hW) hb), hb, ⟨g9, Nat.le_trans (HJD.out _ hW).size hg9, rfl, hk9⟩⟩
      rintro v ⟨g5, rfl⟩
      try simp only [Act.put, List.setIfInBounds_toArray, List.set_cons_zero, List.set_cons_succ]
      refine' Flow.op _ 6 (some 23) (Op.move (Operand.tmp 29)) 39 (none) [5] (PgT ps) (PgU W4.heap.size ps pb) rfl (by kernel_rfl) (by kernel_rfl) (by kernel_rfl) ⟨_, 0, rfl⟩ ?_ (by rfl) ?_ ?_
      · rintro v w1 w2 hu ⟨g9, hb, e, hk⟩; exact ⟨g9, hb, e, blk_below hk hu⟩
      · intro W hW hK
        have h5 := hK 5 (by simp)
        simp only [updK, if_true, if_false, reduceIte] at h5
        obtain ⟨g', hb', e, hC⟩ := h5
        obtain rfl : g5 = g' := by simpa using e
        exact .inl ⟨.tuple #[.slice (some ⟨g5, 0, none⟩) ps ps, .int .i64 0], W, ⟨_, rfl⟩, hW, Below.refl _ _, ⟨_, hb', rfl, hC⟩, by go_simp⟩
      rintro v ⟨g6, rfl⟩
      try simp only [Act.put, List.setIfInBounds_toArray, List.set_cons_zero, List.set_cons_succ]
      refine' Flow.op _ 7 (some 30) (Op.extract (Operand.tmp 23) 0) 33 (none) [6] (PgC ps) (PgR W4.heap.size ps pb) rfl (by kernel_rfl) (by kernel_rfl) (by kernel_rfl) ⟨_, 0, rfl⟩ ?_ (by rfl) ?_ ?_
      · rintro v w1 w2 hu ⟨g9, hb, e, hk⟩; exact ⟨g9, hb, e, blk_below hk hu⟩
      · intro W hW hK
        have h5 := hK 6 (by simp)
        simp only [updK, if_true, if_false, reduceIte] at h5
        obtain ⟨g', hb', e, hC⟩ := h5
        obtain rfl : g6 = g' := by simpa using e
        exact .inl ⟨.slice (some ⟨g6, 0, none⟩) ps ps, W, ⟨_, rfl⟩, hW, Below.refl _ _, ⟨_, hb', rfl, hC⟩, by go_simp⟩
      rintro v ⟨g7, rfl⟩
      try simp only [Act.put, List.setIfInBounds_toArray, List.set_cons_zero, List.set_cons_succ]
      refine' Flow.val _ 8 (some 31) (Op.extract (Operand.tmp 23) 1) 28 (none) [] _ rfl (by kernel_rfl) (by kernel_rfl) (by kernel_rfl) (by rfl) ?_ ?_ HRF.out
      · (intro W hW hK; go_simp; first | done | with_reducible rfl)
      try simp only [Act.put, List.setIfInBounds_toArray, List.set_cons_zero, List.set_cons_succ]
      refine' Flow.op _ 9 (some 7) (Op.assign (Operand.tmp 30)) 33 (none) [7] (PgC ps) (PgR W4.heap.size ps pb) rfl (by kernel_rfl) (by kernel_rfl) (by kernel_rfl) ⟨_, 0, rfl⟩ ?_ (by rfl) ?_ ?_
      · rintro v w1 w2 hu ⟨g9, hb, e, hk⟩; exact ⟨g9, hb, e, blk_below hk hu⟩
      · intro W hW hK
        have h5 := hK 7 (by simp)
        simp only [updK, if_true, if_false, reduceIte] at h5
        obtain ⟨g', hb', e, hC⟩ := h5
        obtain rfl : g7 = g' := by simpa using e
        exact .inl ⟨.slice (some ⟨g7, 0, none⟩) ps ps, W, ⟨_, rfl⟩, hW, Below.refl _ _, ⟨_, hb', rfl, hC⟩, by go_simp⟩
      rintro v ⟨g9, rfl⟩
      try simp only [Act.put, List.setIfInBounds_toArray, List.set_cons_zero, List.set_cons_succ]
      refine' Flow.val _ 10 (some 8) (Op.assign (Operand.tmp 31)) 28 (none) [] _ rfl (by kernel_rfl) (by kernel_rfl) (by kernel_rfl) (by rfl) ?_ ?_ HRF.out
      · (intro W hW hK; go_simp; first | done | with_reducible rfl)
      try simp only [Act.put, List.setIfInBounds_toArray, List.set_cons_zero, List.set_cons_succ]
      refine Flow.done _ (by kernel_rfl) ?_
      intro W5 hW hK
      have h9 := hK 9 (by rfl)
      simp only [updK, if_true, if_false, reduceIte] at h9
      obtain ⟨g', hb', e9, hC⟩ := h9
      obtain rfl : g9 = g' := by simpa using e9
      have hb5 := HJD.out _ hW
      have H5 := Aside0.mk (H4.out.step hb5); have HB5 := Aside0.mk (below_step HB4.out hb5)
      have HQ5 := Aside0.mk (And.intro (blk_below HQ4.out.1 hb5) (And.intro (blk_below HQ4.out.2.1 hb5) (blk_below HQ4.out.2.2 hb5)))
      have HPG := Aside0.mk (And.intro hb' hC)
      clear hK hW hb5 hb' hC e9 SF HSZ HJD HDJ H4 HB4 HQ4 HRF
      have hid : id * per ≤ 16384 * 8192 ∧ 0 ≤ id * per := by
        have h1 := HCN.out; have h2 := HCP.out.1
        have h3 : id ≤ 16384 := by
          unfold countD at h1
          split at h1
          · omega
          · split at h1 <;> omega
        exact ⟨Int.mul_le_mul h3 h2.2.1 (by omega) (by omega), Int.mul_nonneg hi.1 (by omega)⟩
      have hw3 : IntKind.i64.wrap (id * per) = id * per := IntWalk.i64_in _ (by omega)
      have hw4 : wrap64 (id * per) = id * per := by unfold wrap64; omega
      obtain ⟨k0, hk0⟩ : ∃ k, k = id * per := ⟨_, rfl⟩
      have HK0 := Aside0.mk hk0; have HID := Aside0.mk hid
      have z0 := blk_cell HQ5.out.1 0; have z1 := blk_cell HQ5.out.2.1 0; have z2 := blk_cell HQ5.out.2.1 1
      simp only [List.getElem?_toArray, List.getElem?_cons_zero, List.getElem?_cons_succ] at z0 z1 z2
      clear hid hk0
      obtain ⟨gn, hgn⟩ : ∃ x, x = W5.heap.size := ⟨_, rfl⟩
      obtain ⟨W6, hW6⟩ : ∃ W6, W6 = W5.alloc (.cells #[.int .i64 (id * per)] 3) := ⟨_, rfl⟩
      have hb6 : Below W5.heap.size W5 W6 := by rw [hW6]; exact below_alloc (Below.refl _ _) _
      have qn : W6.heap[gn]? = some (.cells #[.int .i64 (id * per)] 3 (0, 0)) := by rw [hW6, hgn]; exact blk_new W5 _
      have H6 := Aside0.mk (H5.out.step hb6); have HB6 := Aside0.mk (below_step HB5.out hb6)
      have HQ6 := Aside0.mk (And.intro (blk_below HQ5.out.1 hb6) (And.intro (blk_below HQ5.out.2.1 hb6) (And.intro (blk_below HQ5.out.2.2 hb6) qn)))
      have HPG6 := Aside0.mk (And.intro HPG.out.1 (blk_below HPG.out.2 hb6))
      have HGN := Aside0.mk (And.intro hgn (blk_lt HPG.out.2))
      have HGE : Aside0 (W.heap.size ≤ gn) := ⟨by rw [hgn]; exact HB5.out.size⟩
      clear qn
      go_upto_region 9 with (fail)
      rw [← hW6, ← hgn]
      clear hW6 hgn hb6 H5 HB5 HQ5 HPG z0 z1 z2 hw hw2 hw3 hw4
      have z0 := blk_cell HQ6.out.1 0
      simp only [List.getElem?_toArray, List.getElem?_cons_zero, List.getElem?_cons_succ] at z0
      go_wp2_with fail
      refine (H6.out.sizeC).mono ?_
      rintro e W7 ⟨rfl, hd7⟩
      have hb7 := hd7.below
      have H7 := Aside0.mk (H6.out.step hb7); have HB7 := Aside0.mk (below_step HB6.out hb7)
      have HQ7 := Aside0.mk (And.intro (blk_below HQ6.out.1 hb7) (And.intro (blk_below HQ6.out.2.1 hb7) (And.intro (blk_below HQ6.out.2.2.1 hb7) (blk_below HQ6.out.2.2.2 hb7))))
      have HPG7 := Aside0.mk (And.intro HPG6.out.1 (blk_below HPG6.out.2 hb7))
      clear hd7 hb7 H6 HB6 HQ6 HPG6 z0
      go_wp2_with fail
      refine ((callsIn_wide (n := 6)).1 (chunk_in Fence.wide 6 trivial rfl (some ⟨g9, 0, none⟩) ps ps D.size (by have := HCP.out.2; omega) W7)).mono ?_
      rintro e W8 ⟨rfl, hW8⟩
      have hb8 : Below W7.heap.size W7 W8 := by rw [hW8]; exact below_alloc (below_alloc (Below.refl _ _) _) _
      have qs : W8.heap[W7.heap.size]? = some (.cells #[.slice (some ⟨g9, 0, none⟩) ps ps] 33 (0, 0)) := by rw [hW8]; exact ((below_alloc (Below.refl _ _) _).block _ (by simp)).trans (blk_new W7 _)
      have qm : W8.heap[W7.heap.size + 1]? = some (.cells #[.int .i64 (D.size : Int)] 3 (0, 0)) := by
        have h := blk_new (W7.alloc (.cells #[.slice (some ⟨g9, 0, none⟩) ps ps] 33)) (.cells #[.int .i64 (D.size : Int)] 3)
        rw [World.size_alloc] at h
        rw [hW8]; exact h
      have H8 := Aside0.mk (H7.out.step hb8); have HB8 := Aside0.mk (below_step HB7.out hb8)
      have HQ8 := Aside0.mk (And.intro (blk_below HQ7.out.1 hb8) (And.intro (blk_below HQ7.out.2.1 hb8) (And.intro (blk_below HQ7.out.2.2.1 hb8) (And.intro (blk_below HQ7.out.2.2.2 hb8) (And.intro qs qm)))))
      have HPG8 := Aside0.mk (And.intro HPG7.out.1 (blk_below HPG7.out.2 hb8))
      have H7Q := Aside0.mk (And.intro HQ7.out.2.2.1 HQ7.out.2.2.2)
      have HXL : Aside0 (∀ k, X k → k < W7.heap.size) := ⟨H7.out.hi⟩
      have HXG : Aside0 (∀ k, X k → k < W.heap.size) := ⟨H.out.hi⟩
      clear hb8 H7 HB7 HQ7 HPG7 hW8 qs qm
      go_wp2_with fail
      obtain ⟨SS, hSS⟩ : ∃ S : Nat → Prop, S = fun k => X k ∨ k = gn ∨ k = g + 1 + 1 := ⟨_, rfl⟩
      obtain ⟨mb, hlm⟩ := H8.out.lm (S := SS) (fun k hk => by rw [hSS]; exact .inl hk)
      obtain ⟨ch, hch⟩ : ∃ c : Nat → List Int, c = fun j => secOf pb D.size (j % per.toNat) := ⟨_, rfl⟩
      have hSS' := hSS; have HLM := Aside0.mk hlm; have HSS := Aside0.mk hSS; have HCH := Aside0.mk hch
      have q3 := blk_cell HQ8.out.2.2.2.2.1 0; have q4 := blk_cell HQ8.out.2.2.2.2.2 0
      simp only [List.getElem?_toArray, List.getElem?_cons_zero] at q3 q4
      have HC3 := Aside0.mk q3; have HC4 := Aside0.mk q4
      have HPSN : Aside0 (ps = per.toNat * D.size) := ⟨by
        have h1 := HPS.out; have h2 := HCP.out.1
        rw [h1, Int.toNat_mul (by omega) (by omega)]; rfl⟩
      have HPS2 : Aside0 (ps ≤ 1000000 ∧ 1 ≤ D.size ∧ W7.heap.size < W8.heap.size ∧ W7.heap.size + 1 < W8.heap.size) := ⟨by
        have h1 := HPS.out; have h2 := HCP.out; have h3 := putE_zero HPE.out
        refine ⟨by omega, by omega, blk_lt HQ8.out.2.2.2.2.1, blk_lt HQ8.out.2.2.2.2.2⟩⟩
      have HPW : Aside0 (D.pwr per kind id l = Dk.pages ((List.range per.toNat).map ch) k0 D) := ⟨by
        rw [Dk.pwr, if_neg (by have := HCN.out; omega), if_neg (by simpa using HPE.out), ← HPS.out, ← HPB.out, ← HK0.out]
        congr 1
        refine List.map_congr_left fun j hj => ?_
        rw [hch]
        show secOf pb D.size j = secOf pb D.size (j % per.toNat)
        rw [Nat.mod_eq_of_lt (List.mem_range.1 hj)]⟩
      have HSX : Aside0 (SS (g + 1 + 1) ∧ ¬ X (g + 1 + 1) ∧ g + 1 + 1 < W8.heap.size ∧ SS gn ∧ ¬ X gn ∧ gn < W8.heap.size ∧ ∀ k, SS k → X k ∨ W.heap.size ≤ k) := ⟨by
        have h1 := HG.out; have h2 := HGN.out.1; have h3 := H.out.hi; have h4 := blk_lt HQ8.out.2.2.1; have h5 := blk_lt HQ8.out.2.2.2.1; have h6 := HGE.out
        rw [hSS']
        refine ⟨.inr (.inr rfl), fun h => by have := h3 _ h; omega, h4, .inr (.inl rfl), fun h => by have := h3 _ h; omega, h5, fun k hk => ?_⟩
        rcases hk with h | h | h
        · exact .inl h
        · right; omega
        · right; omega⟩
      have HPL : Aside0 (pb.length = ps) := ⟨by
        have h3 := putE_zero HPE.out
        rw [HPB.out, putB_length _ _ _ _ (by have := HPS.out; omega)]⟩
      have HPBY : Aside0 (Bytes pb) := ⟨by rw [HPB.out]; exact layL_bytes _ _ _ _ (putBody_bytes _ _ _ _ HK.out HL.out)⟩
      have HG9 : Aside0 (¬ SS g9 ∧ ¬ SS g) := ⟨by
        have h1 := HPG8.out.1; have h2 := HGN.out; have h3 := HXG.out; have h4 := HG.out; have h5 := HG4.out
        rw [hSS']
        refine ⟨fun h => ?_, fun h => ?_⟩ <;> rcases h with h | h | h <;> first | omega | (have := h3 _ h; omega)⟩
      have HNS : Aside0 (¬ SS W7.heap.size ∧ ¬ SS (W7.heap.size + 1)) := ⟨by
        have h1 := blk_lt H7Q.out.1; have h2 := blk_lt H7Q.out.2; have h3 := HXL.out
        rw [hSS']
        refine ⟨fun h => ?_, fun h => ?_⟩ <;> rcases h with h | h | h <;> first | omega | (have := h3 _ h; omega)⟩
      clear hlm hSS hSS' hch q3 q4
      refine (wpIn_wide (n := 6)).1 ?_
      refine' wpIn_rangeFunc_ownG rfl (by omega) (gf := 92) (lb := #[.pointer (some ⟨W7.heap.size, 0, none⟩), .pointer (some ⟨W7.heap.size + 1, 0, none⟩)]) rfl trivial (enters_of Try.func92 (by kernel_rfl) rfl)
        (chunk_stops Fence.wide (6 - 1) trivial rfl (by omega) W7.heap.size (W7.heap.size + 1) g9 0 D.size per.toNat ps ps HPS2.out.2.1 HPSN.out HPS2.out.1 (Nat.le_refl _) (KpL W8 SS) (fun A B hk => ⟨hk.cell (p := ⟨W7.heap.size, 0, none⟩) HPS2.out.2.2.1 HNS.out.1, hk.cell (p := ⟨W7.heap.size + 1, 0, none⟩) HPS2.out.2.2.2 HNS.out.2⟩) W8 HPS2.out.2.2.1 HPS2.out.2.2.2 HC3.out HC4.out)
        KpL.trans (fun W l o o' hl _ _ _ => KpL.put W l o o' hl) (Below.refl _ _) (fun _ => rfl)
        (fun pre W' => ∃ Dn, (∀ cs, Dk.pages (pre.map ch ++ cs) k0 D = Dk.pages cs (k0 + (pre.length : Int)) Dn) ∧ LM W8 W' SS X mb d Dn ∧ W'.heap[gn]? = some (.cells #[.int .i64 (k0 + (pre.length : Int))] 3 (0, 0)) ∧ W'.heap[g + 1 + 1]? = some (.cells #[.int .i64 0] 28 (0, 0)))
        (fun c pre W' => c = .ret ∧ ∃ Dn e, (∀ cs, Dk.pages (pre.map ch ++ cs) k0 D = (Dn, e)) ∧ LM W8 W' SS X mb d Dn ∧ W'.heap[g + 1 + 1]? = some (.cells #[.int .i64 e] 28 (0, 0)))
        ?hI ?hIx ?h0 _ ?assign ?body ?done ?stop
      case assign =>
        intro l0 x Wx K hK
        gi_wp2
        exact hK
      case hI =>
        rintro pre A1 B1 row ⟨Dn, h1, h2, h3, h4⟩ hg hr
        exact ⟨Dn, h1, h2.grown hg hr, cells_grown hg hr h3, cells_grown hg hr h4⟩
      case hIx =>
        rintro c pre A1 B1 row ⟨hc, Dn, e, h1, h2, h4⟩ hg hr
        exact ⟨hc, Dn, e, h1, h2.grown hg hr, cells_grown hg hr h4⟩
      case h0 =>
        refine ⟨D, fun cs => by simp, HLM.out, ?_, HQ8.out.2.2.1⟩
        have h := HQ8.out.2.2.2.1
        rw [← HK0.out] at h
        simpa using h
      case body =>
        rintro l0 pre x Wx ⟨Dn, hpg, hm, hn, hr⟩ hlen
        have hxm : x % per.toNat < per.toNat := Nat.mod_lt _ (by omega)
        have hcx : ch x = (pb.drop (x % per.toNat * D.size)).take D.size := by rw [HCH.out]; rfl
        obtain ⟨j, hj⟩ : ∃ j, j = x % per.toNat * D.size := ⟨_, rfl⟩
        have hjl : j + D.size ≤ pb.length := by
          rw [HPL.out, HPSN.out, hj, ← Nat.succ_mul]; exact Nat.mul_le_mul_right _ hxm
        have hbk : Blk Wx g9 pb := hm.frm.blk HPG8.out.2 HG9.out.1
        have hCC := blk_C hbk (by have := HPS2.out.1; rw [HPL.out]; omega) j D.size hjl
        rw [← hj] at hcx
        rw [← hcx] at hCC
        have hcl : (ch x).length = D.size := by rw [hcx, List.length_take, List.length_drop]; omega
        have hcb : Bytes (ch x) := by rw [hcx]; exact fun y hy => HPBY.out y (List.mem_of_mem_drop (List.mem_of_mem_take hy))
        obtain ⟨W1, hW1⟩ : ∃ W1, W1 = Wx.alloc (.cells #[.slice (some ⟨g9, j, none⟩) D.size D.size] 33) := ⟨_, rfl⟩
        obtain ⟨b2, hb2⟩ : ∃ b, b = Wx.heap.size := ⟨_, rfl⟩
        have hbl : Below Wx.heap.size Wx W1 := by rw [hW1]; exact below_alloc (Below.refl _ _) _
        have hm1 := hm.step hbl
        have hsz : W8.heap.size ≤ Wx.heap.size := hm.frm.size
        rw [← hcl] at hCC
        have hr2 : Kd.C (Kd.slice 5 (Kd.int .u8)) W1 (some ⟨b2, 0, none⟩) 1 [ch x] := rows1w (c := D.size) (Kd.C_below hCC hbl) (by omega) (by rw [hW1, hb2, hcl]; exact blk_new Wx _)
        have hcw := fun n => hm1.write n (some ⟨b2, 0, none⟩) 1 [ch x] hr2 (by have := HCP.out.2; simp; omega) (by simpa using hcb)
        have efl : ([ch x] : List (List Int)).flatten = ch x := by simp
        rw [efl] at hcw
        have hq0 := hm.frm.blk HQ8.out.1 HG9.out.2
        have y0 := blk_cell hq0 0; have y1 := blk_cell hn 0
        simp only [List.getElem?_toArray, List.getElem?_cons_zero] at y0 y1
        have HCW := Aside0.mk hcw; have HM := Aside0.mk hm; have HN := Aside0.mk hn; have HRB := Aside0.mk hr; have HPGS := Aside0.mk hpg; have HBL := Aside0.mk hbl; have HSZ := Aside0.mk hsz
        have hg0 : g < Wx.heap.size := blk_lt hq0
        have hgn0 : gn < Wx.heap.size := blk_lt hn
        have HW1 := Aside0.mk hW1; have HB2 := Aside0.mk hb2; have HCL := Aside0.mk hcl
        rw [show chunkAt g9 0 D.size (x % per.toNat) = .slice (some ⟨g9, j, none⟩) D.size D.size from by rw [chunkAt, hj, Nat.zero_add]]
        clear hm hn hr hpg hcw hr2 efl hCC hm1 hbl hsz hbk hq0 hcx hW1 hb2 hcl hj hcb hjl hxm
        gi_wp2_with fail
        refine ⟨trivial, ?_⟩
        rw [← HW1.out, ← HB2.out]
        refine (CallsIn.inRound l0 (callsIn_wide.2 (HCW.out _))).mono ?_
        rintro e W2 ⟨rfl, hm2, hk2, hp2, ho2⟩
        have hn2 : W2.heap[gn]? = some (.cells #[.int .i64 (k0 + (pre.length : Int))] 3 (0, 0)) := (ho2 gn HSX.out.2.2.2.2.2.1 HSX.out.2.2.2.2.1).trans ((HBL.out.block gn hgn0).trans HN.out)
        have hr2 : W2.heap[g + 1 + 1]? = some (.cells #[.int .i64 0] 28 (0, 0)) := (ho2 (g + 1 + 1) HSX.out.2.2.1 HSX.out.2.1).trans ((HBL.out.block (g + 1 + 1) (blk_lt HRB.out)).trans HRB.out)
        by_cases he : Dn.writeE (k0 + (pre.length : Int)) (ch x) = 0
        · have HE := Aside0.mk he
          have HPG2 := HPGS.out
          have hwn : IntKind.i64.wrap (k0 + (pre.length : Int) + 1) = k0 + (pre.length : Int) + 1 := IntWalk.i64_in _ (by have h1 := HID.out; have h2 := HK0.out; have h3 := HCP.out.1; omega)
          have y9 := blk_cell hn2 0; have f9 := blk_frozen hn2 0
          simp only [List.getElem?_toArray, List.getElem?_cons_zero] at y9
          have HM2 := Aside0.mk hm2; have HK2 := Aside0.mk hk2; have HP2 := Aside0.mk hp2; have HN2 := Aside0.mk hn2; have HR2 := Aside0.mk hr2
          clear hm2 hk2 hp2 ho2 hn2 hr2 HPG2
          rw [he]
          clear he
          gi_wp2_with fail
          have hne : g + 1 + 1 ≠ gn := by have h1 := HG4.out; have h2 := HPG8.out.1; have h3 := HGN.out; omega
          have hs1 : (W2.setCell ⟨gn, 0, none⟩ (.int .i64 (k0 + (pre.length : Int) + 1))).heap[gn]? = some (.cells #[.int .i64 (k0 + (pre.length : Int) + 1)] 3 (0, 0)) := by simpa using blk_set HN2.out 0 (.int .i64 (k0 + (pre.length : Int) + 1))
          have el : k0 + ((pre ++ [x]).length : Int) = k0 + (pre.length : Int) + 1 := by rw [List.length_append, List.length_singleton]; omega
          refine ⟨((KeepsFrom.of_below HBL.out).trans HK2.out).trans ((KeepsOthers.setCell _ _ _).from _), ((KpL.of_below HBL.out HSZ.out).trans HP2.out).trans (KpL.set _ HSX.out.2.2.2.1 0 _), Dn.written (k0 + (pre.length : Int)) (ch x), fun cs => ?_, HM2.out.set HSX.out.2.2.2.1 HSX.out.2.2.2.2.1 HSX.out.2.2.2.2.2.1 0 _, ?_, ?_⟩
          · rw [el, List.map_append, List.append_assoc, HPGS.out]
            show Dk.pages (ch x :: cs) _ _ = _
            rw [Dk.pages, if_pos HE.out]
          · rw [el]; exact hs1
          · exact (Below.heap_setCell W2 ⟨gn, 0, none⟩ _ (g + 1 + 1) hne).trans HR2.out
        · have HE := Aside0.mk he
          obtain ⟨er, her⟩ : ∃ v, v = Dn.writeE (k0 + (pre.length : Int)) (ch x) := ⟨_, rfl⟩
          rw [← her] at he ⊢
          have HER := Aside0.mk her
          have de : (er == 0) = false := by simpa using he
          have y9 := blk_cell hr2 0; have f9 := blk_frozen hr2 0
          simp only [List.getElem?_toArray, List.getElem?_cons_zero] at y9
          have HM2 := Aside0.mk hm2; have HK2 := Aside0.mk hk2; have HP2 := Aside0.mk hp2; have HN2 := Aside0.mk hn2; have HR2 := Aside0.mk hr2
          clear hm2 hk2 hp2 ho2 hn2 hr2 her he
          gi_wp2_with fail
          refine ⟨((KeepsFrom.of_below HBL.out).trans HK2.out).trans ((KeepsOthers.setCell _ _ _).from _), rfl, Dn.written (k0 + (pre.length : Int)) (ch x), er, fun cs => ?_, HM2.out.set HSX.out.1 HSX.out.2.1 HSX.out.2.2.1 0 _, ?_⟩
          · rw [List.map_append, List.append_assoc, HPGS.out]
            show Dk.pages (ch x :: cs) _ _ = _
            rw [Dk.pages, if_neg HE.out, HER.out]
          · simpa using blk_set HR2.out 0 (.int .i64 er)
      case done =>
        rintro Dm xs Wd hD rfl ⟨Dn, hpg, hm, hn, hr⟩ hK
        have hpw := HPW.out
        have h0 := hpg []
        rw [List.append_nil, ← hpw] at h0
        have HR0 := Aside0.mk h0; have HM := Aside0.mk hm; have HKD := Aside0.mk hK; have HRB := Aside0.mk hr
        have k4' := blk_cell hr 0; have f4' := blk_frozen hr 0
        simp only [List.getElem?_toArray, List.getElem?_cons_zero] at k4'
        clear hm hK hn hr hpg h0 hpw
        go_wp2_with fail
        have hK' := (KeepsOthers.setCell Wd ⟨g + 1 + 1, 0, none⟩ (.int .i64 0)).same Dm _ HKD.out rfl
        refine ⟨by simp, .inl ⟨_, _, rfl, run_takeDeferred hK', ⟨_, res49 _ _ (g + 1 + 1) 0 rfl ?_, ?_⟩⟩⟩
        · exact cell_kept (World.cell?_setCell_same' _ _ _ (by rw [k4']; rfl)) (grownBy_putObj' _ Dm (.deferred none)) (fun r e => by cases e; exact ⟨_, hK', rfl⟩)
        · rw [HR0.out]
          refine ⟨rfl, LM.nxt ((HM.out.set HSX.out.1 HSX.out.2.1 HSX.out.2.2.1 0 (.int .i64 0)).grown (grownBy_putObj' _ Dm (.deferred none)) (fun r e => by cases e; exact ⟨hD, _, hK', rfl⟩)) H.out H8.out HB8.out HSX.out.2.2.2.2.2.2⟩
      case stop =>
        rintro Dm c1 pre Wd hD ⟨k, hk, rfl⟩ ⟨rfl, Dn, e, hpg, hm, hr⟩ hK
        have h0 := hpg (((List.range per.toNat).drop k).map ch)
        have ht : List.range k ++ (List.range per.toNat).drop k = List.range per.toNat := by
          have h := List.take_append_drop k (List.range per.toNat)
          rwa [List.take_range, Nat.min_eq_left hk] at h
        rw [← List.map_append, ht, ← HPW.out] at h0
        have HR0 := Aside0.mk h0; have HM := Aside0.mk hm; have HKD := Aside0.mk hK
        have k4' := blk_cell hr 0
        simp only [List.getElem?_toArray, List.getElem?_cons_zero] at k4'
        have HK4 := Aside0.mk k4'
        clear hm hK hr hpg h0 ht k4'
        refine wpIn_wide.2 ?_
        go_wp2_with fail
        refine ⟨by simp, .inl ⟨_, _, rfl, run_takeDeferred HKD.out, ⟨_, res49 _ _ (g + 1 + 1) e rfl ?_, ?_⟩⟩⟩
        · exact cell_kept HK4.out (grownBy_putObj' _ Dm (.deferred none)) (fun r e => by cases e; exact ⟨_, HKD.out, rfl⟩)
        · rw [HR0.out]
          refine ⟨rfl, LM.nxt (HM.out.grown (grownBy_putObj' _ Dm (.deferred none)) (fun r e => by cases e; exact ⟨hD, _, HKD.out, rfl⟩)) H.out H8.out HB8.out HSX.out.2.2.2.2.2.2⟩
    · obtain ⟨pe, hpe2⟩ : ∃ v, v = putE (per * (D.size : Int)) kind l := ⟨_, rfl⟩
      rw [← hpe2] at hpe
      have HPE := Aside0.mk hpe; have HPE2 := Aside0.mk hpe2
      have de : (pe == 0) = false := by simpa using hpe
      clear hpe hpe2
      go_upto_region 5 with (fail)
      obtain ⟨Jnv, hJnv⟩ : ∃ J : World → Prop, J = fun W' => Below W4.heap.size W4 W' := ⟨_, rfl⟩
      have HJD : Aside0 (∀ W', Jnv W' → Below W4.heap.size W4 W') := ⟨fun W' h => by rw [hJnv] at h; exact h⟩
      have HDJ : Aside0 (∀ W', Below W4.heap.size W4 W' → Jnv W') := ⟨fun W' h => by rw [hJnv]; exact h⟩
      have SF : Aside0 (∀ W', Jnv W' → W'.cell? ⟨g, 0, none⟩ = some (.pointer (some ⟨d, 0, none⟩)) ∧ W'.cell? ⟨g + 1, 0, none⟩ = some (.int .u8 kind) ∧ W'.cell? ⟨g + 1, 1, none⟩ = some (.int .u32 id) ∧ W'.cell? ⟨g + 1, 2, none⟩ = some (.slice A l.length c)) := ⟨fun W' hW => by
        have hb := HJD.out W' hW
        refine ⟨by rw [blk_cell (blk_below HQ4.out.1 hb) 0]; rfl, by rw [blk_cell (blk_below HQ4.out.2.1 hb) 0]; rfl, by rw [blk_cell (blk_below HQ4.out.2.1 hb) 1]; rfl, by rw [blk_cell (blk_below HQ4.out.2.1 hb) 2]; rfl⟩⟩
      have HSZ : Aside0 (∀ W', Jnv W' → Calls Try.prog 27 #[.pointer (some ⟨d, 0, none⟩)] W' fun e w' => e = .returned (.int .i64 (D.size : Int)) ∧ Jnv w' ∧ Below W'.heap.size W' w') := ⟨fun W' hW => (H4.out.step (HJD.out _ hW)).sizeC.mono fun e w' ⟨he, hd⟩ => ⟨he, HDJ.out _ (below_step (HJD.out _ hW) hd.below), hd.below⟩⟩
      have HPT : Aside0 (∀ W', Jnv W' → Calls Try.prog 77 #[.int .i64 (per * (D.size : Int)), .agg #[.int .u8 kind, .int .u32 id, .slice A l.length c]] W' fun e w' => e = .returned (.tuple #[.slice none 0 0, .int .i64 pe]) ∧ Jnv w' ∧ Below W'.heap.size W' w') := ⟨fun W' hW => by
        refine (put_calls A c _ kind id l W' (Kd.C_below HR.out (below_step HB4.out (HJD.out _ hW))) HC.out HK.out hi HL.out).mono ?_
        rintro e w' ⟨v1, rfl, hv0, _, hb⟩
        obtain rfl := hv0 (by rw [← HPE2.out]; exact HPE.out)
        rw [← HPE2.out]
        exact ⟨rfl, HDJ.out _ (below_step (HJD.out _ hW) hb), hb⟩⟩
      have HRF : Aside0 (∀ W : World, Below W.heap.size W W) := ⟨fun W => Below.refl _ _⟩
      clear k0 k1 k2 k3 k4 f4 hJnv
      refine' wp_region_flow (by kernel_rfl) (by kernel_rfl) Jnv (fun W W' => Below W.heap.size W W') HRF.out (HDJ.out _ (below_drew1 (Below.refl _ _))) _ ?_
      rotate_left
      refine' Flow.val _ 0 (some 24) (Op.move (Operand.tmp 1)) 3 (none) [] _ rfl (by kernel_rfl) (by kernel_rfl) (by kernel_rfl) (by rfl) ?_ ?_ HRF.out
      rotate_left 2
      · (intro W hW hK; go_simp; first | done | with_reducible rfl)
      try simp only [Act.put, List.setIfInBounds_toArray, List.set_cons_zero, List.set_cons_succ]
      refine' Flow.val _ 1 (some 25) (Op.load 27 (Operand.tmp 3)) 27 (none) [] _ rfl (by kernel_rfl) (by kernel_rfl) (by kernel_rfl) (by rfl) ?_ ?_ HRF.out
      rotate_left 2
      · (intro W hW hK; have hF := SF.out W hW; go_simp; first | done | with_reducible rfl)
      try simp only [Act.put, List.setIfInBounds_toArray, List.set_cons_zero, List.set_cons_succ]
      refine' Flow.call _ 2 (some 26) (Op.call { callee := Callee.value (Operand.func 27), args := #[Operand.tmp 25], argTypes := #[27] }) 3 (none) [] _ 27 _ rfl (by kernel_rfl) (by kernel_rfl) (by kernel_rfl) (by rfl) ?_ ?_ ?_
      rotate_left 3
      · (intro W; go_simp; first | done | with_reducible rfl)
      · (intro W hW hK; refine (HSZ.out W hW).mono ?_; intro e w' h; exact h)
      try simp only [Act.put, List.setIfInBounds_toArray, List.set_cons_zero, List.set_cons_succ]
      refine' Flow.val _ 3 (some 27) (Op.binOp BinOp.mul 3 (Operand.tmp 24) (Operand.tmp 26) 3) 3 (none) [] _ rfl (by kernel_rfl) (by kernel_rfl) (by kernel_rfl) (by rfl) ?_ ?_ HRF.out
      rotate_left 2
      · (intro W hW hK; go_simp; first | done | with_reducible rfl)
      try simp only [Act.put, List.setIfInBounds_toArray, List.set_cons_zero, List.set_cons_succ]
      refine' Flow.val _ 4 (some 28) (Op.load 83 (Operand.tmp 5)) 83 (none) [] _ rfl (by kernel_rfl) (by kernel_rfl) (by kernel_rfl) (by rfl) ?_ ?_ HRF.out
      rotate_left 2
      · (intro W hW hK; have hF := SF.out W hW; go_simp; first | done | with_reducible rfl)
      try simp only [Act.put, List.setIfInBounds_toArray, List.set_cons_zero, List.set_cons_succ]
      refine' Flow.call _ 5 (some 29) (Op.call { callee := Callee.value (Operand.func 77), args := #[Operand.tmp 27, Operand.tmp 28], argTypes := #[3, 83] }) 39 (none) [] _ 77 _ rfl (by kernel_rfl) (by kernel_rfl) (by kernel_rfl) (by rfl) ?_ ?_ ?_
      rotate_left 3
      · (intro W; go_simp; first | done | with_reducible rfl)
      · (intro W hW hK; refine (HPT.out W hW).mono ?_; intro e w' h; exact h)
      try simp only [Act.put, List.setIfInBounds_toArray, List.set_cons_zero, List.set_cons_succ]
      refine' Flow.val _ 6 (some 23) (Op.move (Operand.tmp 29)) 39 (none) [] _ rfl (by kernel_rfl) (by kernel_rfl) (by kernel_rfl) (by rfl) ?_ ?_ HRF.out
      rotate_left 2
      · (intro W hW hK; go_simp; first | done | with_reducible rfl)
      try simp only [Act.put, List.setIfInBounds_toArray, List.set_cons_zero, List.set_cons_succ]
      refine' Flow.val _ 7 (some 30) (Op.extract (Operand.tmp 23) 0) 33 (none) [] _ rfl (by kernel_rfl) (by kernel_rfl) (by kernel_rfl) (by rfl) ?_ ?_ HRF.out
      rotate_left 2
      · (intro W hW hK; go_simp; first | done | with_reducible rfl)
      try simp only [Act.put, List.setIfInBounds_toArray, List.set_cons_zero, List.set_cons_succ]
      refine' Flow.val _ 8 (some 31) (Op.extract (Operand.tmp 23) 1) 28 (none) [] _ rfl (by kernel_rfl) (by kernel_rfl) (by kernel_rfl) (by rfl) ?_ ?_ HRF.out
      rotate_left 2
      · (intro W hW hK; go_simp; first | done | with_reducible rfl)
      try simp only [Act.put, List.setIfInBounds_toArray, List.set_cons_zero, List.set_cons_succ]
      refine' Flow.val _ 9 (some 7) (Op.assign (Operand.tmp 30)) 33 (none) [] _ rfl (by kernel_rfl) (by kernel_rfl) (by kernel_rfl) (by rfl) ?_ ?_ HRF.out
      rotate_left 2
      · (intro W hW hK; go_simp; first | done | with_reducible rfl)
      try simp only [Act.put, List.setIfInBounds_toArray, List.set_cons_zero, List.set_cons_succ]
      refine' Flow.val _ 10 (some 8) (Op.assign (Operand.tmp 31)) 28 (none) [] _ rfl (by kernel_rfl) (by kernel_rfl) (by kernel_rfl) (by rfl) ?_ ?_ HRF.out
      rotate_left 2
      · (intro W hW hK; go_simp; first | done | with_reducible rfl)
      try simp only [Act.put, List.setIfInBounds_toArray, List.set_cons_zero, List.set_cons_succ]
      refine Flow.done _ (by kernel_rfl) ?_
      intro W5 hW hK
      have hb5 := HJD.out _ hW
      have q2 := blk_below HQ4.out.2.2 hb5
      have k4 := blk_cell q2 0; have f4 := blk_frozen q2 0
      simp only [List.getElem?_toArray, List.getElem?_cons_zero] at k4
      have HB5 := Aside0.mk (below_step HB4.out hb5)
      clear hK hW hb5 q2 SF HSZ HPT HJD HDJ HRF
      go_wp2_with fail
      have hg := HG.out
      have e0 : D.pwr per kind id l = (D, pe) := by rw [Dk.pwr, if_neg (by have := HCN.out; omega), if_pos (by rw [← HPE2.out]; exact HPE.out), ← HPE2.out]
      rw [e0]
      exact ⟨_, res49 _ _ (g + 1 + 1) pe rfl (World.cell?_setCell_same' _ _ _ (by rw [k4]; rfl)), rfl, H.out.still (HB5.out.setCell (p := ⟨g + 1 + 1, 0, none⟩) (by show W.heap.size ≤ g + 1 + 1; omega) _)⟩
end Go.Proofs.YteimienhaodfcaaK
