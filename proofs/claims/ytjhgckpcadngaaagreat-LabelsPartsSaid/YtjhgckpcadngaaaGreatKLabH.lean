/- Labels: blocks of bytes; strings.Replacer built once and used (given its replacer's Replace). -/
import Derived.Test.YtjhgckpcadngaaaGreatPLAx0
import Derived.Test.YtjhgckpcadngaaaGreatPLAx1
import Derived.Test.YtjhgckpcadngaaaGreatPLAx2
import Derived.Test.YtjhgckpcadngaaaGreatPLAx3
import Derived.Test.YtjhgckpcadngaaaGreatKFlow3
import Derived.Test.YtjhgckpcadngaaaGreatKEv
import Derived.Test.YtjhgckpcadngaaaGreatKOpen
import Derived.Lib.SlBytesConst
import Derived.Lib.Bytes
import Derived.Deep.RegionWith
import Derived.Deep.QuietTactic
import Derived.Deep.RegionHeld3
import Derived.BigQuiet
import Derived.Outline
import Derived.Deep.WholeRow
import Derived.Lib.SliceRun
import Derived.Lib.ConvBytes
import Derived.Laws.CopyOwn
import Derived.Lib.Strings
import Derived.Lib.Slices
import Derived.Lib.Walk
import Derived.Lib.Bytealg
import Derived.Tactics
import Derived.Tactics2
import Derived.Defers
import Derived.Laws.Pointers
import Derived.Laws.LoneSync
import Derived.RegionTactic
import Derived.RegionCalls
import Derived.ChangeAlike
import Derived.Test.YtjhgckpcadngaaaGreatKLabA
import Derived.Test.YtjhgckpcadngaaaGreatKLabB
import Derived.Test.YtjhgckpcadngaaaGreatKLabC
import Derived.Test.YtjhgckpcadngaaaGreatKFrm
import Derived.Test.YtjhgckpcadngaaaGreatKSrt
import Derived.Test.YtjhgckpcadngaaaGreatKSrtN
import Derived.Test.YtjhgckpcadngaaaGreatKLabF
namespace Go.Proofs.YtjhgckpcadngaaaGreatK
open Go.RowKit Go.Proofs.YtjhgckpcadngaaaGreatW.PrintWords Go.Proofs.YtjhgckpcadngaaaGreatW.PrintLast Go.Proofs.YtjhgckpcadngaaaGreatW.PrintMore
open Go.Proofs.YtjhgckpcadngaaaGreat.PLA Go.Proofs.YtjhgckpcadngaaaGreat Go.Proofs.YtjhgckpcadngaaaGreatSrt
attribute [local go_sem] max2_int min2_int max_two min_two max_three min_three max_four min_four
set_option linter.unusedVariables false
set_option linter.unusedSimpArgs false
def zeros (n : Nat) : List Int := List.replicate n 0
theorem infoByteL : (Tryz.prog.info? 5).map (fun i => (i.zero, i.size, i.bytes)) = some (some (.int .u8 0), 1, 1) := by kernel_rfl
theorem make_bytes (W : World) (n : Nat) (hn : n ≤ 281474976710656) : (Instr.makeSlice 73 (.int .i64 (n : Int)) (.int .i64 (n : Int))).run Tryz.prog W = .ok (.slice (some ⟨W.heap.size, 0, none⟩) n n) (W.alloc (.cells ((zeros n).map (.int .u8)).toArray 5)) := by
  obtain ⟨i, hi, h⟩ := Option.map_eq_some_iff.1 infoByteL
  simp only [Prod.mk.injEq] at h
  obtain ⟨hz, h1, h2⟩ := h
  have hr := run_make (P := Tryz.prog) W 73 5 i (.int .u8 0) Tryz.underlying73 hi hz .i64 .i64 (n : Int) (n : Int) (by omega) (by omega) (by rw [h2]; omega) (by omega)
  rw [hr, h1]
  have e : madeCells (Value.int .u8 0).cells n = ((zeros n).map (.int .u8)).toArray := by
    apply Array.ext'
    simp only [madeCells, Array.toList_map, Array.toList_range, zeros, List.map_replicate, List.toList_toArray]
    refine List.eq_replicate_iff.mpr ⟨by simp, fun b hb => ?_⟩
    obtain ⟨a, _, rfl⟩ := List.mem_map.mp hb
    have : a % (Value.int IntKind.u8 0).cells.size = 0 := Nat.mod_one a
    rw [this]; rfl
  simp [e]
/-- A block of bytes. -/
def Blk (w : World) (g : Nat) (l : List Int) : Prop := w.heap[g]? = some (.cells (l.map (Value.int .u8)).toArray 5 (0, 0))
theorem sizeByte : (Tryz.prog.info? 5).map (·.size) = some 1 := by kernel_rfl
theorem copy_bytes (W : World) (g o m cd : Nat) (A : Option Addr) (L l : List Int) (c : Nat) (hb : Blk W g l) (hr : Kd.C (Kd.int .u8) W A L.length L) (hm : L.length ≤ m) (hl : o + L.length ≤ l.length) :
    ∃ W', (Builtin.copy_ #[73, 73] 3 #[.slice (some ⟨g, o, none⟩) m cd, .slice A L.length c]).run Tryz.prog W = .ok (.int .i64 L.length) W' ∧ Blk W' g (l.take o ++ (L ++ l.drop (o + L.length))) ∧ Below g W W' := by
  by_cases h0 : L.length = 0
  · obtain rfl : L = [] := List.eq_nil_of_length_eq_zero h0
    exact ⟨W, run_copy_none W 73 73 3 5 _ A m cd 0 c Tryz.underlying73 sizeByte (by simp), by simpa using hb, Below.refl _ _⟩
  · obtain ⟨ad, rfl, hrd⟩ := hr.2.2 (by omega)
    have := run_copy_row (P := Tryz.prog) W 73 73 3 5 g o m cd ad L.length c _ 5 (L.map (Value.int .u8)) Tryz.underlying73 sizeByte hb (by simp only [List.length_map]; exact (Nat.min_eq_left hm).symm) (fun j v hv => ?_) (by simpa using hl) (fun v hv => ?_)
    · rw [List.length_map] at this
      refine ⟨_, this, ?_, below_setRow (Below.refl _ _) (Nat.le_refl _) _⟩
      unfold Blk
      rw [setRow_heap W g _ _ 5 (0, 0) hb]
      simp [List.map_take, List.map_drop]
    · rw [List.getElem?_map] at hv
      obtain ⟨p, hp, rfl⟩ := Option.map_eq_some_iff.mp hv
      obtain ⟨cs, h1, h2, h3⟩ := hrd j p hp
      obtain rfl : cs = [.int .u8 p] := h2
      have h4 := h3 0 _ rfl
      rwa [show j * (Kd.int .u8).sz + 0 = j from Nat.mul_one j] at h4
    · obtain ⟨x, _, rfl⟩ := List.mem_map.mp hv; rfl
theorem of_drew {B : Nat} {W w2 : World} (h : Below B W.drew w2) : Below B W w2 := ⟨h.os, h.tape, h.output, h.size, h.block⟩
theorem lstr_at {w : World} {ad : Addr} {n : Nat} {l : List ByteArray} (h : Kd.C Kd.string w (some ad) n l) (i : Nat) (hi : i < l.length) : w.cell? (ad.add i) = some (.string l[i]) := by
  have hn := h.1
  obtain ⟨ad', hA, h1⟩ := Kd.at_string h (i : Int) (by omega) (by omega)
  obtain rfl : ad = ad' := Option.some.inj hA
  rw [Int.toNat_natCast] at h1
  rw [h1]
  simp [rdOf, List.getD_eq_getElem?_getD, List.getElem?_eq_getElem hi]
def oldnew4 : List ByteArray := [⟨#[92]⟩, ⟨#[92, 92]⟩, ⟨#[34]⟩, ⟨#[92, 34]⟩]
theorem on4_cells {w : World} {q : Nat} (h : Kd.C Kd.string w (some ⟨q, 0, none⟩) 4 oldnew4) : w.cell? ⟨q, 0, none⟩ = some (.string ⟨#[92]⟩) ∧ w.cell? ⟨q, 1, none⟩ = some (.string ⟨#[92, 92]⟩) ∧ w.cell? ⟨q, 2, none⟩ = some (.string ⟨#[34]⟩) ∧ w.cell? ⟨q, 3, none⟩ = some (.string ⟨#[92, 34]⟩) := by
  have h1 := lstr_at h 0 (by decide); have h2 := lstr_at h 1 (by decide); have h3 := lstr_at h 2 (by decide); have h4 := lstr_at h 3 (by decide)
  rw [add_plain] at h1 h2 h3 h4
  exact ⟨h1, h2, h3, h4⟩
theorem make_strs2 (W : World) : (Instr.makeSlice 41 (.int .i64 0) (.int .i64 2)).run Tryz.prog W = .ok (.slice (some ⟨W.heap.size, 0, none⟩) 0 2) (W.alloc (.cells #[.string ⟨#[]⟩, .string ⟨#[]⟩] 9)) := by
  obtain ⟨i, hi, h⟩ := Option.map_eq_some_iff.1 info9
  simp only [Prod.mk.injEq] at h
  obtain ⟨hz, h1, h2⟩ := h
  have hr := run_make (P := Tryz.prog) W 41 9 i (.string ⟨#[]⟩) Tryz.underlying41 hi hz .i64 .i64 0 2 (by omega) (by omega) (by rw [h2]; omega) (by omega)
  rw [hr, h1]
  have e : madeCells (Value.string ⟨#[]⟩).cells (Int.toNat 2 * 1) = #[.string ⟨#[]⟩, .string ⟨#[]⟩] := by kernel_rfl
  rw [e]; rfl
set_option maxRecDepth 100000 in
theorem z123 : Tryz.zeroCells123.size = 257 ∧ (∀ k, k < 256 → Tryz.zeroCells123[k]? = some (.slice none 0 0)) ∧ Tryz.zeroCells123.all (·.oneCell') = true := by
  refine ⟨by decide +kernel, ?_, by decide +kernel⟩
  have : (List.range 256).all (fun k => match Tryz.zeroCells123[k]? with | some (.slice none 0 0) => true | _ => false) = true := by decide +kernel
  intro k hk
  have := List.all_eq_true.1 this k (List.mem_range.2 hk)
  split at this
  · assumption
  · exact absurd this (by simp)
theorem info123 : (Tryz.prog.info? 123).map (·.size) = some 257 := by kernel_rfl
theorem store123 (W : World) (v : Value) (hv : v.oneCell' = true) : (storeCells ⟨W.heap.size, 0, none⟩ (Tryz.zeroCells123.toList.set 256 v)).run Tryz.prog (W.alloc (.cells Tryz.zeroCells123 123)) = .ok () (W.alloc (.cells (Tryz.zeroCells123.setIfInBounds 256 v) 123)) := by
  have h := run_storeCells_new (P := Tryz.prog) W 123 Tryz.zeroCells123 (Tryz.zeroCells123.setIfInBounds 256 v) (by rw [info123, Array.size_setIfInBounds, z123.1]) (by simp) (by
    rw [Array.all_eq_true']
    intro x hx
    rcases Array.mem_or_eq_of_mem_setIfInBounds hx with h | h
    · exact Array.all_eq_true'.1 z123.2.2 x h
    · rw [h]; exact hv)
  rwa [Array.toList_setIfInBounds] at h
theorem cvb1 (W : World) (o : UInt8) : (convert 73 9 (.slice (some ⟨W.heap.size, 0, none⟩) 1 1)).run Tryz.prog (W.alloc (.cells #[.int .u8 (o.toNat : Int)] 5)) = .ok (.string ⟨#[o]⟩) (W.alloc (.cells #[.int .u8 (o.toNat : Int)] 5)) := by
  have h := run_convert_bytes_back (P := Tryz.prog) (W.alloc (.cells #[.int .u8 (o.toNat : Int)] 5)) 73 9 5 ⟨W.heap.size, 0, none⟩ 1 [o] Tryz.underlying73 Tryz.underlying5 Tryz.underlying9 (fun j hj => by
    have hj0 : j = 0 := by simp at hj; omega
    subst hj0
    have := blk_cell (blk_new W (.cells #[.int .u8 (o.toNat : Int)] 5)) (i := 0)
    rw [add_plain]
    simp)
  exact h
/-- The bytes that are turned, and what they are turned into. -/
def BSR (w : World) (R b : Nat) : Prop := ∃ (Z : Array Value) (n1 c1 n2 c2 ga c : Nat), (b ≤ R ∧ b ≤ n1 ∧ b ≤ n2 ∧ b ≤ ga) ∧ w.heap[R]? = some (.cells Z 123 (0, 0)) ∧ Z[256]? = some (.slice (some ⟨ga, 0, none⟩) 2 c) ∧ Z[34]? = some (.slice (some ⟨n1, 0, none⟩) 2 c1) ∧ Z[92]? = some (.slice (some ⟨n2, 0, none⟩) 2 c2) ∧ (∀ k, k < 256 → k ≠ 34 → k ≠ 92 → Z[k]? = some (.slice none 0 0)) ∧ 2 ≤ c1 ∧ 2 ≤ c2 ∧
  (w.cell? ⟨n1, 0, none⟩ = some (.int .u8 92) ∧ w.cell? ⟨n1, 1, none⟩ = some (.int .u8 34)) ∧ (w.cell? ⟨n2, 0, none⟩ = some (.int .u8 92) ∧ w.cell? ⟨n2, 1, none⟩ = some (.int .u8 92)) ∧ 2 ≤ c ∧ Kd.C Kd.string w (some ⟨ga, 0, none⟩) 2 [⟨#[34]⟩, ⟨#[92]⟩]
theorem BSR.keep {w w' : World} {R b : Nat} (h : BSR w R b) (hk : ∀ k, b ≤ k → k < w.heap.size → w'.heap[k]? = w.heap[k]?) : BSR w' R b := by
  obtain ⟨Z, n1, c1, n2, c2, ga, c, ⟨b1, b2, b3, b4⟩, h1, h2, h3, h4, h5, h6, h7, ⟨h8, h9⟩, ⟨h10, h11⟩, h12, h13⟩ := h
  have hc : ∀ a : Addr, b ≤ a.block → ∀ v, w.cell? a = some v → w'.cell? a = some v := fun a hb v hv => by
    have hlt := World.block_lt_of_cell? w a hv
    rw [World.cell?_of_block (hk a.block hb hlt)]; exact hv
  refine ⟨Z, n1, c1, n2, c2, ga, c, ⟨b1, b2, b3, b4⟩, (hk R b1 (blk_lt h1)).trans h1, h2, h3, h4, h5, h6, h7, ⟨hc _ b2 _ h8, hc _ b2 _ h9⟩, ⟨hc _ b3 _ h10, hc _ b3 _ h11⟩, h12, h13.1, h13.2.1, fun h0 => ?_⟩
  obtain ⟨ad, hA, hr⟩ := h13.2.2 h0
  refine ⟨ad, hA, fun j p hj => ?_⟩
  obtain ⟨cs, k1, k2, k3⟩ := hr j p hj
  refine ⟨cs, k1, k2, fun i u hu => hc _ ?_ _ (k3 i u hu)⟩
  have : b ≤ ad.block := by injection hA with hA; rw [← hA]; exact b4
  simpa [Addr.add] using (by unfold Addr.add; split <;> exact this : b ≤ (ad.add (j * Kd.string.sz + i)).block)
theorem cvs (W : World) (s : ByteArray) : (convert 9 73 (.string s)).run Tryz.prog W = .ok (.slice (some ⟨W.heap.size, 0, none⟩) s.size (grownCap W s.size 0 5)) (Lib.bytesWorld W 5 s) := Lib.run_convert_string_bytes W 9 73 5 s Tryz.underlying9 Tryz.underlying73 Tryz.underlying5
theorem frm_bytes {S : Nat → Prop} {w W : World} (h : Frm S w W) (s : ByteArray) : Frm S w (Lib.bytesWorld W 5 s) := h.then_ (S2 := fun _ => False) ⟨rfl, rfl, rfl, by rw [Lib.bytesWorld_size]; omega, fun i hi _ => Lib.bytesWorld_at_old W 5 s i hi⟩ (fun _ hk => hk.elim)
theorem frm_grown {S : Nat → Prop} {w W W' : World} (h : Frm S w W) {row : Option Nat} (hg : W.grownBy W' row) (hs : ∀ k, row = some k → S k ∨ w.heap.size ≤ k) : Frm S w W' := h.then_ (S2 := fun k => row = some k) ⟨hg.os, hg.tape, hg.output, hg.size, fun i hi hn => hg.block i hi (fun e => hn e.symm)⟩ hs
set_option maxHeartbeats 2000000 in
set_option maxRecDepth 100000 in
theorem build_calls (r q cap : Nat) (x0 x1 x2 x3 : Value) (w : World) (hr : w.heap[r]? = some (.cells #[x0, x1, x2, x3, .slice (some ⟨q, 0, none⟩) 4 cap] 93 (0, 0))) (hq : Kd.C Kd.string w (some ⟨q, 0, none⟩) 4 oldnew4) :
    Calls Tryz.prog 77 #[.pointer (some ⟨r, 0, none⟩)] w fun e w' => ∃ R, e = .returned (.iface 124 (.pointer (some ⟨R, 0, none⟩))) ∧ BSR w' R w.heap.size ∧ Below w.heap.size w w' := by
  have hr4 : w.cell? ⟨r, 4, none⟩ = some (.slice (some ⟨q, 0, none⟩) 4 cap) := by rw [blk_cell hr]; rfl
  obtain ⟨q0, q1, q2, q3⟩ := on4_cells hq
  have hqlt : q < w.heap.size := World.block_lt_of_cell? w ⟨q, 0, none⟩ q0
  have hmk := make_strs2
  have hst := store123 (w.alloc (.cells #[.string ⟨#[]⟩, .string ⟨#[]⟩] 9)) (.slice (some ⟨w.heap.size, 0, none⟩) 0 2) rfl
  rw [show (w.alloc (.cells #[.string ⟨#[]⟩, .string ⟨#[]⟩] 9)).heap.size = w.heap.size + 1 by simp] at hst
  obtain ⟨Z, hZ⟩ : ∃ Z, Z = Tryz.zeroCells123.setIfInBounds 256 (.slice (some ⟨w.heap.size, 0, none⟩) 0 2) := ⟨_, rfl⟩
  rw [← hZ] at hst
  have HZ := Aside0.mk hZ
  clear hZ
  obtain ⟨W1, hW1⟩ : ∃ W1, W1 = (w.alloc (.cells #[.string ⟨#[]⟩, .string ⟨#[]⟩] 9)).alloc (.cells Z 123) := ⟨_, rfl⟩
  have HW1 := Aside0.mk hW1
  have HF1 : Aside0 (Frm (fun k => w.heap.size ≤ k) w W1) := ⟨by rw [hW1]; exact ((Frm.refl _ _).alloc _).alloc _⟩
  have hW1s : W1.heap.size = w.heap.size + 2 := by rw [hW1]; simp
  obtain ⟨g, hg⟩ : ∃ g, g = w.heap.size := ⟨_, rfl⟩
  obtain ⟨R, hR⟩ : ∃ R, R = w.heap.size + 1 := ⟨_, rfl⟩
  have hgb : W1.heap[g]? = some (.cells #[.string ⟨#[]⟩, .string ⟨#[]⟩] 9 (0, 0)) := by
    rw [hW1, hg]; exact blk_below (blk_new w _) (below_alloc (Below.refl _ _) _)
  have HRB1 : Aside0 (W1.heap[R]? = some (.cells Z 123 (0, 0))) := ⟨by
    rw [hW1, hR]; have := blk_new (w.alloc (.cells #[.string ⟨#[]⟩, .string ⟨#[]⟩] 9)) (.cells Z 123)
    simpa using this⟩
  have HZ1 : Aside0 (Z.size = 257 ∧ Z[256]? = some (.slice (some ⟨g, 0, none⟩) 0 2) ∧ ∀ k, k < 256 → Z[k]? = some (.slice none 0 0)) := ⟨by rw [HZ.out]; simp [z123.1], by rw [HZ.out, hg]; simp [Array.getElem?_setIfInBounds, z123.1], fun k hk => by rw [HZ.out, Array.getElem?_setIfInBounds, if_neg (by omega)]; exact z123.2.1 k hk⟩
  have HO1 : Aside0 (Kd.R Kd.string 9 W1 g (fun k => k ≠ R) (.slice (some ⟨g, 0, none⟩) 0 2) []) := by
    refine ⟨⟨fun k hk => ?_, [], ⟨rfl, .inr ⟨g, 2, _, rfl, Nat.le_refl _, hgb, by simp, by simp [maxLen], rfl, rfl⟩⟩, Reps.none _ _⟩⟩
    have hk2 : g = k := by simpa [Value.ownBlock] using hk
    show k ≠ R
    omega
  have HQQ : Aside0 (q < w.heap.size ∧ g = w.heap.size ∧ R = w.heap.size + 1) := ⟨hqlt, hg, hR⟩
  have HQ0 : Aside0 (w.cell? ⟨q, 0, none⟩ = some (.string ⟨#[92]⟩) ∧ w.cell? ⟨q, 1, none⟩ = some (.string ⟨#[92, 92]⟩) ∧ w.cell? ⟨q, 2, none⟩ = some (.string ⟨#[34]⟩) ∧ w.cell? ⟨q, 3, none⟩ = some (.string ⟨#[92, 34]⟩)) := ⟨q0, q1, q2, q3⟩
  have HS1 : Aside0 (W1.heap.size = w.heap.size + 2) := ⟨hW1s⟩
  have HR := Aside0.mk hR
  clear hr hq hW1 hg hR hgb hqlt hW1s
  go_enter Tryz.func77, Tryz.ntmps77
  go_wp2_with fail
  refine wp_loop_rounds 3 ?_
  rw [rounds_succ]
  go_wp2_with fail
  rw [rounds_succ]
  go_wp2_with fail
  rw [rounds_succ]
  go_upto_region 27 with (fail)
  rw [← HW1.out, ← HR.out]
  clear hst hmk hr4 q0 q1 q2 q3
  have q73 : ∀ (w : World) (a : Option Addr) (n c n' c' : Nat), (binOp .eql 73 (.slice a n c) (.slice none n' c')).run Tryz.prog w = .ok (.bool a.isNone) w := fun w a n c n' c' => Lib.run_eql_slice_nil w _ _ a n c n' c' Tryz.underlying73
  have e34 : ∀ h, ((⟨#[34]⟩ : ByteArray)[0]'h).toNat = 34 := fun _ => rfl
  have e92 : ∀ h, ((⟨#[92]⟩ : ByteArray)[0]'h).toNat = 92 := fun _ => rfl
  have HCV34 : Aside0 (∀ W : World, (convert 73 9 (.slice (some ⟨W.heap.size, 0, none⟩) 1 1)).run Tryz.prog (W.alloc (.cells #[.int .u8 34] 5)) = .ok (.string ⟨#[34]⟩) (W.alloc (.cells #[.int .u8 34] 5))) := ⟨fun W => cvb1 W 34⟩
  have HCV92 : Aside0 (∀ W : World, (convert 73 9 (.slice (some ⟨W.heap.size, 0, none⟩) 1 1)).run Tryz.prog (W.alloc (.cells #[.int .u8 92] 5)) = .ok (.string ⟨#[92]⟩) (W.alloc (.cells #[.int .u8 92] 5))) := ⟨fun W => cvb1 W 92⟩
  have HCQ : Aside0 (∀ W : World, Frm (fun k => w.heap.size ≤ k) w W → W.cell? ⟨q, 0, none⟩ = some (.string ⟨#[92]⟩) ∧ W.cell? ⟨q, 1, none⟩ = some (.string ⟨#[92, 92]⟩) ∧ W.cell? ⟨q, 2, none⟩ = some (.string ⟨#[34]⟩) ∧ W.cell? ⟨q, 3, none⟩ = some (.string ⟨#[92, 34]⟩)) := ⟨fun W hf => by
    have hb := hf.below (B := w.heap.size) (fun k hk => hk) (Nat.le_refl _)
    have h := HQ0.out
    exact ⟨pw_cell_below hb h.1, pw_cell_below hb h.2.1, pw_cell_below hb h.2.2.1, pw_cell_below hb h.2.2.2⟩⟩
  go_wp2_with fail
  refine wp_loop_rounds 3 ?_
  rw [rounds_succ]
  obtain ⟨q0, q1, q2, q3⟩ := HCQ.out W1 HF1.out
  have c0 : W1.cell? ⟨R, 34, none⟩ = some (.slice none 0 0) := by rw [blk_cell HRB1.out]; exact HZ1.out.2.2 34 (by decide)
  have c256 : W1.cell? ⟨R, 256, none⟩ = some (.slice (some ⟨g, 0, none⟩) 0 2) := by rw [blk_cell HRB1.out]; exact HZ1.out.2.1
  have hcv := HCV34.out
  go_upto_region 34 with ((with_reducible refine gate_builtin (b := .append) (xs := #[.tmp 119, .tmp 123]) rfl ?_); at_builtin; go_loud (refine Kd.R_append Kd.string (w0 := W1.alloc (.cells #[.int .u8 34] 5)) g rfl (.tmp 119) (.tmp 123) 41 9 (.string ⟨#[]⟩) 16 rfl Tryz.underlying41 info9 rfl (by decide) (by decide) (.slice (some ⟨g, 0, none⟩) 0 2) [] ⟨#[34]⟩ [.string ⟨#[34]⟩] (fun k => k ≠ R) (fun _ => False) rfl (congrArg (fun n => Value.slice (some ⟨n, 0, none⟩) 1 1) (by simp : W1.heap.size + 1 = (W1.alloc (.cells #[.int .u8 34] 5)).heap.size)) rfl (fun _ hk => hk.elim) (fun k hk => by have h1 := HS1.out; have h2 := HQQ.out; simp at hk; omega) (Kd.R_alloc HO1.out _) (Below.refl _ _) (by have h1 := HS1.out; have h2 := HQQ.out; simp; omega) (by decide) ?_; intro v1 w1 ho hb hg hat; obtain ⟨A1, c1, hv1⟩ : ∃ A c, v1 = .slice A 1 c := (by obtain ⟨A, c, h, _⟩ := Kd.R_reads ho; exact ⟨A, c, h⟩); subst hv1; have HOA1 := Aside0.mk ho; have HGR1 := Aside0.mk hg; have HAT1 := Aside0.mk hat; have HRA1 : Aside0 (w1.heap[R]? = some (.cells Z 123 (0, 0))) := ⟨by (have h2 := HQQ.out; have h1 := HS1.out; have hlt := blk_lt HRB1.out; rw [hg.block R (by simp; omega) (fun e => HO1.out.1 R e.symm rfl)]; exact ((below_alloc (Below.refl _ _) _).block R hlt).trans HRB1.out)⟩; have d256 : w1.cell? ⟨R, 256, none⟩ = some (.slice (some ⟨g, 0, none⟩) 0 2) := (by rw [blk_cell HRA1.out]; exact HZ1.out.2.1); have z256 := blk_frozen HRA1.out 256; clear ho hb hg hat))
  obtain ⟨X1, hX⟩ : ∃ X, X = w1.setCell ⟨R, 256, none⟩ (.slice A1 1 c1) := ⟨_, rfl⟩
  rw [← hX]
  have hfX : Frm (fun k => w.heap.size ≤ k) w X1 := by
    have h2 := HQQ.out
    rw [hX]
    exact Frm.set (frm_grown (HF1.out.alloc _) HGR1.out (fun k hk => .inl (by have := own_base HO1.out.2.choose_spec.1 k hk; omega))) (p := ⟨R, 256, none⟩) (.inl (by show w.heap.size ≤ R; omega)) _
  have hRX : X1.heap[R]? = some (.cells (Z.setIfInBounds 256 (.slice A1 1 c1)) 123 (0, 0)) := by rw [hX]; exact blk_set HRA1.out 256 _
  have hsX : X1.heap.size = w1.heap.size := by rw [hX]; simp
  have hoX : Kd.R Kd.string 9 X1 g (fun k => k ≠ R) (.slice A1 1 c1) ([] ++ [⟨#[34]⟩]) := by rw [hX]; exact Kd.R_far HOA1.out (fun k hk => hk) _
  obtain ⟨Y1, hY⟩ : ∃ Y, Y = Lib.bytesWorld X1 5 ⟨#[92, 34]⟩ := ⟨_, rfl⟩
  have hcs := cvs X1 ⟨#[92, 34]⟩
  rw [← hY] at hcs
  rw [show (⟨#[92, 34]⟩ : ByteArray).size = 2 from rfl] at hcs
  obtain ⟨gc1, hgc⟩ : ∃ gc, gc = grownCap X1 2 0 5 := ⟨_, rfl⟩
  rw [← hgc] at hcs
  obtain ⟨nb1, hnb⟩ : ∃ nb, nb = X1.heap.size := ⟨_, rfl⟩
  rw [← hnb] at hcs
  have hRY : Y1.heap[R]? = some (.cells (Z.setIfInBounds 256 (.slice A1 1 c1)) 123 (0, 0)) := by rw [hY, Lib.bytesWorld_at_old _ _ _ _ (blk_lt hRX)]; exact hRX
  have d1 : Y1.cell? ⟨R, 34, none⟩ = some (.slice none 0 0) := by rw [blk_cell hRY, Array.getElem?_setIfInBounds, if_neg (by decide)]; exact HZ1.out.2.2 34 (by decide)
  have z1 := blk_frozen hRY 34
  have HY1 := Aside0.mk hY; have HFX1 := Aside0.mk hfX; have HRY1 := Aside0.mk hRY; have HOX1 := Aside0.mk hoX; have HNB1 := Aside0.mk hnb; have HGC1 := Aside0.mk hgc; have HSX1 := Aside0.mk hsX; have HX1 := Aside0.mk hX
  clear hX hfX hRX hsX hoX hY hgc hnb hRY d256 z256 hcv c0 c256 q0 q1 q2 q3
  obtain ⟨W2, hN⟩ : ∃ N, N = Y1.setCell ⟨R, 34, none⟩ (.slice (some ⟨nb1, 0, none⟩) 2 gc1) := ⟨_, rfl⟩
  have HN1 := Aside0.mk hN
  clear hN
  go_wp2_with fail
  rw [← HN1.out]
  clear d1 z1 hcs
  obtain ⟨Z2, hZN⟩ : ∃ ZN : Array Value, ZN = (Z.setIfInBounds 256 (.slice A1 1 c1)).setIfInBounds 34 (.slice (some ⟨nb1, 0, none⟩) 2 gc1) := ⟨_, rfl⟩
  have HRB2 : Aside0 (W2.heap[R]? = some (.cells Z2 123 (0, 0))) := ⟨by rw [HN1.out, hZN]; exact blk_set HRY1.out 34 _⟩
  have HZ2 : Aside0 (Z2.size = 257 ∧ Z2[256]? = some (.slice A1 1 c1) ∧ ∀ k, k < 256 → k ≠ 34 → Z2[k]? = some (.slice none 0 0)) := ⟨by rw [hZN]; simp [HZ1.out.1], by rw [hZN, Array.getElem?_setIfInBounds, if_neg (by decide)]; simp [Array.getElem?_setIfInBounds, HZ1.out.1], fun k h1 h2 => by rw [hZN, Array.getElem?_setIfInBounds, if_neg (by omega), Array.getElem?_setIfInBounds, if_neg (by omega)]; exact HZ1.out.2.2 k h1 ⟩
  have HZK1 : Aside0 (Z2[34]? = some (.slice (some ⟨nb1, 0, none⟩) 2 gc1)) := ⟨by rw [hZN]; simp [Array.getElem?_setIfInBounds, HZ1.out.1]⟩
  have HZO1 : Aside0 (∀ k, k ≠ 256 → k ≠ 34 → Z2[k]? = Z[k]?) := ⟨fun k h1 h2 => by rw [hZN, Array.getElem?_setIfInBounds, if_neg (by omega), Array.getElem?_setIfInBounds, if_neg (by omega)]⟩
  have HNBR1 : Aside0 (nb1 ≠ R) := ⟨by have h1 := blk_lt HRY1.out; have h2 := blk_lt HRA1.out; have h3 := HNB1.out; have h4 := HSX1.out; omega⟩
  have HYS1 : Aside0 (Y1.heap.size = nb1 + 1) := ⟨by rw [HY1.out, Lib.bytesWorld_size, HNB1.out]⟩
  have HS2 : Aside0 (w.heap.size + 2 ≤ W2.heap.size) := ⟨by rw [HN1.out, World.size_setCell]; have h4 := HYS1.out; have h5 := HNB1.out; have h6 := HSX1.out; have := HGR1.out.size; have h := HS1.out; simp at this; omega⟩
  have HF2 : Aside0 (Frm (fun k => w.heap.size ≤ k) w W2) := ⟨by rw [HN1.out, HY1.out]; exact Frm.set (frm_bytes HFX1.out _) (p := ⟨R, 34, none⟩) (.inl (by have := HQQ.out; show w.heap.size ≤ R; omega)) _⟩
  have HO2 : Aside0 (Kd.R Kd.string 9 W2 g (fun k => k ≠ R) (.slice A1 1 c1) ([] ++ [⟨#[34]⟩])) := ⟨by rw [HN1.out, HY1.out]; exact Kd.R_far (Kd.R_step HOX1.out (fun k _ hk => Lib.bytesWorld_at_old _ _ _ _ hk)) (fun k hk => hk) _⟩
  have HBC1 : Aside0 (∃ BC fr, W2.heap[nb1]? = some (.cells BC 5 fr) ∧ BC[0]? = some (.int .u8 92) ∧ BC[1]? = some (.int .u8 34)) := ⟨by
    refine ⟨Lib.bytesCells X1 5 ⟨#[92, 34]⟩, ((Lib.bytesCells X1 5 ⟨#[92, 34]⟩).size, (Lib.bytesCells X1 5 ⟨#[92, 34]⟩).size + 1), ?_, ?_, ?_⟩
    · rw [HN1.out, Below.heap_setCell _ _ _ _ HNBR1.out, HY1.out, HNB1.out]; exact Lib.bytesWorld_at_new _ _ _
    · have := Lib.bytesWorld_cell X1 5 ⟨#[92, 34]⟩ 0 (by decide)
      rw [cell_of_row _ _ _ _ _ _ (Lib.bytesWorld_at_new _ _ _)] at this; exact this
    · have := Lib.bytesWorld_cell X1 5 ⟨#[92, 34]⟩ 1 (by decide)
      rw [cell_of_row _ _ _ _ _ _ (Lib.bytesWorld_at_new _ _ _)] at this; exact this⟩
  have HSZ1 : Aside0 (2 ≤ gc1) := ⟨by rw [HGC1.out]; exact grownCap_ge _ _ _ _⟩
  clear hZN
  rw [rounds_succ]
  obtain ⟨q0, q1, q2, q3⟩ := HCQ.out W2 HF2.out
  have c0 : W2.cell? ⟨R, 92, none⟩ = some (.slice none 0 0) := by rw [blk_cell HRB2.out]; exact HZ2.out.2.2 92 (by decide) (by decide)
  have c256 : W2.cell? ⟨R, 256, none⟩ = some (.slice A1 1 c1) := by rw [blk_cell HRB2.out]; exact HZ2.out.2.1
  have hcv := HCV92.out
  go_upto_region 34 with ((with_reducible refine gate_builtin (b := .append) (xs := #[.tmp 119, .tmp 123]) rfl ?_); at_builtin; go_loud (refine Kd.R_append Kd.string (w0 := W2.alloc (.cells #[.int .u8 92] 5)) g rfl (.tmp 119) (.tmp 123) 41 9 (.string ⟨#[]⟩) 16 rfl Tryz.underlying41 info9 rfl (by decide) (by decide) (.slice A1 1 c1) [⟨#[34]⟩] ⟨#[92]⟩ [.string ⟨#[92]⟩] (fun k => k ≠ R) (fun _ => False) rfl (congrArg (fun n => Value.slice (some ⟨n, 0, none⟩) 1 1) (by simp : W2.heap.size + 1 = (W2.alloc (.cells #[.int .u8 92] 5)).heap.size)) rfl (fun _ hk => hk.elim) (fun k hk => by have h1 := HS2.out; have h2 := HQQ.out; simp at hk; omega) (Kd.R_alloc HO2.out _) (Below.refl _ _) (by have h1 := HS2.out; have h2 := HQQ.out; simp; omega) (by decide) ?_; intro v2 w2 ho hb hg hat; obtain ⟨A2, c2, hv2⟩ : ∃ A c, v2 = .slice A 2 c := (by obtain ⟨A, c, h, _⟩ := Kd.R_reads ho; exact ⟨A, c, h⟩); subst hv2; have HOA2 := Aside0.mk ho; have HGR2 := Aside0.mk hg; have HAT2 := Aside0.mk hat; have HRA2 : Aside0 (w2.heap[R]? = some (.cells Z2 123 (0, 0))) := ⟨by (have h2 := HQQ.out; have h1 := HS2.out; have hlt := blk_lt HRB2.out; rw [hg.block R (by simp; omega) (fun e => HO2.out.1 R e.symm rfl)]; exact ((below_alloc (Below.refl _ _) _).block R hlt).trans HRB2.out)⟩; have d256 : w2.cell? ⟨R, 256, none⟩ = some (.slice A1 1 c1) := (by rw [blk_cell HRA2.out]; exact HZ2.out.2.1); have z256 := blk_frozen HRA2.out 256; clear ho hb hg hat))
  obtain ⟨X2, hX⟩ : ∃ X, X = w2.setCell ⟨R, 256, none⟩ (.slice A2 2 c2) := ⟨_, rfl⟩
  rw [← hX]
  have hfX : Frm (fun k => w.heap.size ≤ k) w X2 := by
    have h2 := HQQ.out
    rw [hX]
    exact Frm.set (frm_grown (HF2.out.alloc _) HGR2.out (fun k hk => .inl (by have := own_base HO2.out.2.choose_spec.1 k hk; omega))) (p := ⟨R, 256, none⟩) (.inl (by show w.heap.size ≤ R; omega)) _
  have hRX : X2.heap[R]? = some (.cells (Z2.setIfInBounds 256 (.slice A2 2 c2)) 123 (0, 0)) := by rw [hX]; exact blk_set HRA2.out 256 _
  have hsX : X2.heap.size = w2.heap.size := by rw [hX]; simp
  have hoX : Kd.R Kd.string 9 X2 g (fun k => k ≠ R) (.slice A2 2 c2) ([⟨#[34]⟩] ++ [⟨#[92]⟩]) := by rw [hX]; exact Kd.R_far HOA2.out (fun k hk => hk) _
  obtain ⟨Y2, hY⟩ : ∃ Y, Y = Lib.bytesWorld X2 5 ⟨#[92, 92]⟩ := ⟨_, rfl⟩
  have hcs := cvs X2 ⟨#[92, 92]⟩
  rw [← hY] at hcs
  rw [show (⟨#[92, 92]⟩ : ByteArray).size = 2 from rfl] at hcs
  obtain ⟨gc2, hgc⟩ : ∃ gc, gc = grownCap X2 2 0 5 := ⟨_, rfl⟩
  rw [← hgc] at hcs
  obtain ⟨nb2, hnb⟩ : ∃ nb, nb = X2.heap.size := ⟨_, rfl⟩
  rw [← hnb] at hcs
  have hRY : Y2.heap[R]? = some (.cells (Z2.setIfInBounds 256 (.slice A2 2 c2)) 123 (0, 0)) := by rw [hY, Lib.bytesWorld_at_old _ _ _ _ (blk_lt hRX)]; exact hRX
  have d1 : Y2.cell? ⟨R, 92, none⟩ = some (.slice none 0 0) := by rw [blk_cell hRY, Array.getElem?_setIfInBounds, if_neg (by decide)]; exact HZ2.out.2.2 92 (by decide) (by decide)
  have z1 := blk_frozen hRY 92
  have HY2 := Aside0.mk hY; have HFX2 := Aside0.mk hfX; have HRY2 := Aside0.mk hRY; have HOX2 := Aside0.mk hoX; have HNB2 := Aside0.mk hnb; have HGC2 := Aside0.mk hgc; have HSX2 := Aside0.mk hsX; have HX2 := Aside0.mk hX
  clear hX hfX hRX hsX hoX hY hgc hnb hRY d256 z256 hcv c0 c256 q0 q1 q2 q3
  obtain ⟨W3, hN⟩ : ∃ N, N = Y2.setCell ⟨R, 92, none⟩ (.slice (some ⟨nb2, 0, none⟩) 2 gc2) := ⟨_, rfl⟩
  have HN2 := Aside0.mk hN
  clear hN
  go_wp2_with fail
  rw [← HN2.out]
  clear d1 z1 hcs
  obtain ⟨Z3, hZN⟩ : ∃ ZN : Array Value, ZN = (Z2.setIfInBounds 256 (.slice A2 2 c2)).setIfInBounds 92 (.slice (some ⟨nb2, 0, none⟩) 2 gc2) := ⟨_, rfl⟩
  have HRB3 : Aside0 (W3.heap[R]? = some (.cells Z3 123 (0, 0))) := ⟨by rw [HN2.out, hZN]; exact blk_set HRY2.out 92 _⟩
  have HZ3 : Aside0 (Z3.size = 257 ∧ Z3[256]? = some (.slice A2 2 c2) ∧ ∀ k, k < 256 → k ≠ 34 → k ≠ 92 → Z3[k]? = some (.slice none 0 0)) := ⟨by rw [hZN]; simp [HZ2.out.1], by rw [hZN, Array.getElem?_setIfInBounds, if_neg (by decide)]; simp [Array.getElem?_setIfInBounds, HZ2.out.1], fun k h1 h2 h3 => by rw [hZN, Array.getElem?_setIfInBounds, if_neg (by omega), Array.getElem?_setIfInBounds, if_neg (by omega)]; exact HZ2.out.2.2 k h1 h2⟩
  have HZK2 : Aside0 (Z3[92]? = some (.slice (some ⟨nb2, 0, none⟩) 2 gc2)) := ⟨by rw [hZN]; simp [Array.getElem?_setIfInBounds, HZ2.out.1]⟩
  have HZO2 : Aside0 (∀ k, k ≠ 256 → k ≠ 92 → Z3[k]? = Z2[k]?) := ⟨fun k h1 h2 => by rw [hZN, Array.getElem?_setIfInBounds, if_neg (by omega), Array.getElem?_setIfInBounds, if_neg (by omega)]⟩
  have HNBR2 : Aside0 (nb2 ≠ R) := ⟨by have h1 := blk_lt HRY2.out; have h2 := blk_lt HRA2.out; have h3 := HNB2.out; have h4 := HSX2.out; omega⟩
  have HYS2 : Aside0 (Y2.heap.size = nb2 + 1) := ⟨by rw [HY2.out, Lib.bytesWorld_size, HNB2.out]⟩
  have HS3 : Aside0 (w.heap.size + 2 ≤ W3.heap.size) := ⟨by rw [HN2.out, World.size_setCell]; have h4 := HYS2.out; have h5 := HNB2.out; have h6 := HSX2.out; have := HGR2.out.size; have h := HS2.out; simp at this; omega⟩
  have HF3 : Aside0 (Frm (fun k => w.heap.size ≤ k) w W3) := ⟨by rw [HN2.out, HY2.out]; exact Frm.set (frm_bytes HFX2.out _) (p := ⟨R, 92, none⟩) (.inl (by have := HQQ.out; show w.heap.size ≤ R; omega)) _⟩
  have HO3 : Aside0 (Kd.R Kd.string 9 W3 g (fun k => k ≠ R) (.slice A2 2 c2) ([⟨#[34]⟩] ++ [⟨#[92]⟩])) := ⟨by rw [HN2.out, HY2.out]; exact Kd.R_far (Kd.R_step HOX2.out (fun k _ hk => Lib.bytesWorld_at_old _ _ _ _ hk)) (fun k hk => hk) _⟩
  have HBC2 : Aside0 (∃ BC fr, W3.heap[nb2]? = some (.cells BC 5 fr) ∧ BC[0]? = some (.int .u8 92) ∧ BC[1]? = some (.int .u8 92)) := ⟨by
    refine ⟨Lib.bytesCells X2 5 ⟨#[92, 92]⟩, ((Lib.bytesCells X2 5 ⟨#[92, 92]⟩).size, (Lib.bytesCells X2 5 ⟨#[92, 92]⟩).size + 1), ?_, ?_, ?_⟩
    · rw [HN2.out, Below.heap_setCell _ _ _ _ HNBR2.out, HY2.out, HNB2.out]; exact Lib.bytesWorld_at_new _ _ _
    · have := Lib.bytesWorld_cell X2 5 ⟨#[92, 92]⟩ 0 (by decide)
      rw [cell_of_row _ _ _ _ _ _ (Lib.bytesWorld_at_new _ _ _)] at this; exact this
    · have := Lib.bytesWorld_cell X2 5 ⟨#[92, 92]⟩ 1 (by decide)
      rw [cell_of_row _ _ _ _ _ _ (Lib.bytesWorld_at_new _ _ _)] at this; exact this⟩
  have HSZ2 : Aside0 (2 ≤ gc2) := ⟨by rw [HGC2.out]; exact grownCap_ge _ _ _ _⟩
  clear hZN
  have HBC1' : Aside0 (∃ BC fr, W3.heap[nb1]? = some (.cells BC 5 fr) ∧ BC[0]? = some (.int .u8 92) ∧ BC[1]? = some (.int .u8 34)) := ⟨by
    obtain ⟨BC, fr, h1, h2, h3⟩ := HBC1.out
    refine ⟨BC, fr, ?_, h2, h3⟩
    have hlt := blk_lt h1
    have hne : some nb1 ≠ (Value.slice A1 1 c1).ownBlock := fun e => by
      obtain ⟨cells, hc⟩ := own_typed HO2.out.2.choose_spec.1 nb1 e.symm
      rw [h1] at hc
      simp at hc
    have e1 : w2.heap[nb1]? = W2.heap[nb1]? := (HGR2.out.block nb1 (by simp; omega) hne).trans ((below_alloc (Below.refl _ _) _).block nb1 hlt)
    have hlt2 : nb1 < X2.heap.size := by rw [HSX2.out]; have := HGR2.out.size; simp at this; omega
    have e2 : X2.heap[nb1]? = w2.heap[nb1]? := by rw [HX2.out]; exact Below.heap_setCell _ _ _ _ HNBR1.out
    rw [HN2.out, Below.heap_setCell _ _ _ _ HNBR1.out, HY2.out, Lib.bytesWorld_at_old _ _ _ _ hlt2, e2, e1, h1]⟩
  rw [rounds_succ]
  go_wp2_with fail
  go_ret
  refine ⟨R, rfl, ?_, HF3.out.below (fun k hk => hk) (Nat.le_refl _)⟩
  obtain ⟨B1, f1, k1, k2, k3⟩ := HBC1'.out
  obtain ⟨B2, f2, m1, m2, m3⟩ := HBC2.out
  obtain ⟨A', c', hv, hcc, hC⟩ := Kd.R_reads HO3.out
  have hvi := Value.slice.inj hv
  obtain ⟨rfl, _, rfl⟩ := hvi
  obtain ⟨ga, cap', cur', hv', hga, -⟩ := own_row (Kd.R_mono HO3.out (fun _ _ => trivial)) (by decide)
  have hvi' := Value.slice.inj hv'
  obtain ⟨rfl, _, _⟩ := hvi'
  have hn1 : w.heap.size ≤ nb1 := by have h1 := HNB1.out; have h2 := HSX1.out; have h3 := HGR1.out.size; have h4 := HS1.out; simp at h3; omega
  have hn2 : w.heap.size ≤ nb2 := by have h1 := HNB2.out; have h2 := HSX2.out; have h3 := HGR2.out.size; have h4 := HS2.out; simp at h3; omega
  refine ⟨Z3, nb1, gc1, nb2, gc2, ga, c2, ⟨by have := HQQ.out; omega, hn1, hn2, by have := HQQ.out; omega⟩, HRB3.out, HZ3.out.2.1, (HZO2.out 34 (by decide) (by decide)).trans HZK1.out, HZK2.out, HZ3.out.2.2, HSZ1.out, HSZ2.out, ⟨?_, ?_⟩, ⟨?_, ?_⟩, by simpa using hcc, hC⟩
  · rw [cell_of_row _ _ _ _ _ _ k1]; exact k2
  · rw [cell_of_row _ _ _ _ _ _ k1]; exact k3
  · rw [cell_of_row _ _ _ _ _ _ m1]; exact m2
  · rw [cell_of_row _ _ _ _ _ _ m1]; exact m3
set_option maxHeartbeats 2000000 in
set_option maxRecDepth 100000 in
theorem buildonce_calls (r q cap : Nat) (w : World) (hr : w.heap[r]? = some (.cells #[.int .u32 0, .int .i32 1, .int .u32 0, .nilIface, .slice (some ⟨q, 0, none⟩) 4 cap] 93 (0, 0))) (hq : Kd.C Kd.string w (some ⟨q, 0, none⟩) 4 oldnew4) :
    Calls Tryz.prog 66 #[.pointer (some ⟨r, 0, none⟩)] w fun e w' => e = .returned (.tuple #[]) ∧ (∃ R, w'.heap[r]? = some (.cells #[.int .u32 0, .int .i32 1, .int .u32 0, .iface 124 (.pointer (some ⟨R, 0, none⟩)), .slice none 0 0] 93 (0, 0)) ∧ BSR w' R w.heap.size) ∧ Frm (fun k => k = r) w w' := by
  have HB := Aside0.mk (build_calls r q cap _ _ _ _ w hr hq)
  have HR := Aside0.mk hr
  have hlt := blk_lt hr
  have HLT := Aside0.mk hlt
  clear hr hq hlt
  go_enter Tryz.func66, Tryz.ntmps66
  go_wp2_with fail
  refine (HB.out).mono ?_
  rintro e w1 ⟨R, rfl, hbs, hb⟩
  have h1 : w1.heap[r]? = some (.cells #[.int .u32 0, .int .i32 1, .int .u32 0, .nilIface, .slice (some ⟨q, 0, none⟩) 4 cap] 93 (0, 0)) := blk_below HR.out hb
  have c3 : w1.cell? ⟨r, 3, none⟩ = some .nilIface := by rw [blk_cell h1]; rfl
  have c4 : w1.cell? ⟨r, 4, none⟩ = some (.slice (some ⟨q, 0, none⟩) 4 cap) := by rw [blk_cell h1]; rfl
  have z3 := blk_frozen h1 3; have z4 := blk_frozen h1 4
  have HBS := Aside0.mk hbs; have HBB := Aside0.mk hb; have H1 := Aside0.mk h1
  clear hbs hb h1
  go_wp2_with fail
  go_end0
  refine ⟨rfl, ⟨R, ?_, ?_⟩, ?_⟩
  · have h2 := blk_set (blk_set H1.out 3 (.iface 124 (.pointer (some ⟨R, 0, none⟩)))) 4 (.slice none 0 0)
    exact h2
  · refine HBS.out.keep fun k hk hlt => ?_
    have := HLT.out
    rw [Below.heap_setCell _ _ _ _ (by show k ≠ r; omega), Below.heap_setCell _ _ _ _ (by show k ≠ r; omega)]
  · exact Frm.set (S := fun k => k = r) (Frm.set (S := fun k => k = r) (Frm.of_below HBB.out) (p := ⟨r, 3, none⟩) (.inl rfl) _) (p := ⟨r, 4, none⟩) (.inl rfl) _
set_option maxHeartbeats 2000000 in
set_option maxRecDepth 100000 in
theorem replace_calls (r q cap : Nat) (s : ByteArray) (res : ByteArray) (w : World) (hr : w.heap[r]? = some (.cells #[.int .u32 0, .int .i32 0, .int .u32 0, .nilIface, .slice (some ⟨q, 0, none⟩) 4 cap] 93 (0, 0))) (hq : Kd.C Kd.string w (some ⟨q, 0, none⟩) 4 oldnew4)
    (hrep : ∀ (W : World) (R b : Nat), BSR W R b → Calls Tryz.prog 138 #[.pointer (some ⟨R, 0, none⟩), .string s] W fun e w' => e = .returned (.string res) ∧ Below W.heap.size W w') :
    Calls Tryz.prog 54 #[.pointer (some ⟨r, 0, none⟩), .string s] w fun e w' => e = .returned (.string res) ∧ Frm (fun k => k = r) w w' := by
  have hlt := blk_lt hr
  have hqr : q ≠ r := fun e => by
    have h1 := (on4_cells hq).1
    rw [e, blk_cell hr] at h1
    simp at h1
  have hr1 : (w.setCell ⟨r, 1, none⟩ (.int .i32 1)).heap[r]? = some (.cells #[.int .u32 0, .int .i32 1, .int .u32 0, .nilIface, .slice (some ⟨q, 0, none⟩) 4 cap] 93 (0, 0)) := blk_set hr 1 _
  have hq1 : Kd.C Kd.string (w.setCell ⟨r, 1, none⟩ (.int .i32 1)) (some ⟨q, 0, none⟩) 4 oldnew4 := by
    refine ⟨hq.1, hq.2.1, fun h0 => ?_⟩
    obtain ⟨ad, hA, hrr⟩ := hq.2.2 h0
    obtain rfl : (⟨q, 0, none⟩ : Addr) = ad := Option.some.inj hA
    refine ⟨_, rfl, fun j p hj => ?_⟩
    obtain ⟨cs, k1, k2, k3⟩ := hrr j p hj
    refine ⟨cs, k1, k2, fun i u hu => ?_⟩
    rw [add_plain, World.cell?_of_block (Below.heap_setCell _ _ _ _ hqr), ← add_plain]
    exact k3 i u hu
  have hdo := do_calls r 0 ⟨r, 0, none⟩ (fun w' => (∃ R, w'.heap[r]? = some (.cells #[.int .u32 0, .int .i32 1, .int .u32 0, .iface 124 (.pointer (some ⟨R, 0, none⟩)), .slice none 0 0] 93 (0, 0)) ∧ BSR w' R w.heap.size) ∧ Frm (fun k => k = r) w w') w (by rw [blk_cell hr]; rfl) (by rw [blk_cell hr]; rfl) (blk_frozen hr 0) (blk_frozen hr 1)
    ((buildonce_calls r q cap _ hr1 hq1).mono (by
      rintro e w' ⟨rfl, ⟨R, h1, h2⟩, h3⟩
      rw [World.size_setCell] at h2
      exact ⟨rfl, ⟨⟨R, h1, h2⟩, (Frm.set (S := fun k => k = r) (Frm.refl _ _) (p := ⟨r, 1, none⟩) (.inl rfl) _).then_ h3 (fun _ h => .inl h)⟩, by rw [blk_cell h1]; rfl, by rw [blk_cell h1]; rfl, blk_frozen h1 0, blk_frozen h1 1⟩))
  have HDO := Aside0.mk hdo; have HREP := Aside0.mk hrep; have HLT := Aside0.mk hlt
  clear hr hq hrep hlt hqr hr1 hq1 hdo
  go_enter Tryz.func54, Tryz.ntmps54
  go_wp2_with fail
  refine (HDO.out).mono ?_
  rintro e w2 ⟨rfl, w1, ⟨⟨R, h1, h2⟩, h3⟩, rfl⟩
  obtain ⟨w2, hw2⟩ : ∃ w2, w2 = (w1.drew.setCell ⟨r, 0, none⟩ (.int .u32 1)).setCell ⟨r, 0 + 1, none⟩ (.int .i32 0) := ⟨_, rfl⟩
  rw [← hw2]
  have hb2 : w2.heap[r]? = some (.cells #[.int .u32 1, .int .i32 0, .int .u32 0, .iface 124 (.pointer (some ⟨R, 0, none⟩)), .slice none 0 0] 93 (0, 0)) := by
    rw [hw2]; exact blk_set (blk_set (w := w1.drew) h1 0 _) 1 _
  have c3 : w2.cell? ⟨r, 3, none⟩ = some (.iface 124 (.pointer (some ⟨R, 0, none⟩))) := by rw [blk_cell hb2]; rfl
  have hbs : BSR w2 R w.heap.size := by
    rw [hw2]
    refine h2.keep fun k hk hlt => ?_
    have := HLT.out
    rw [Below.heap_setCell _ _ _ _ (by show k ≠ r; omega), Below.heap_setCell _ _ _ _ (by show k ≠ r; omega)]
    rfl
  have hf2 : Frm (fun k => k = r) w w2 := by
    rw [hw2]; exact Frm.set (S := fun k => k = r) (Frm.set (S := fun k => k = r) (Frm.drew h3) (p := ⟨r, 0, none⟩) (.inl rfl) _) (p := ⟨r, 0 + 1, none⟩) (.inl rfl) _
  have HC := Aside0.mk (HREP.out w2 R _ hbs); have HF2 := Aside0.mk hf2
  clear h1 h2 h3 hw2 hb2 hbs hf2
  go_wp2_with fail
  refine (HC.out).mono ?_
  rintro e w3 ⟨rfl, hb3⟩
  have HF3 := Aside0.mk (HF2.out.step hb3)
  clear hb3
  go_wp2_with fail
  go_ret
  exact ⟨rfl, HF3.out⟩
end Go.Proofs.YtjhgckpcadngaaaGreatK
