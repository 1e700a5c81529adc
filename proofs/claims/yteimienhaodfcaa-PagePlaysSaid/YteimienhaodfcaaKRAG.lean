import Derived.Test.YteimienhaodfcaaKLX
import Derived.Test.YteimienhaodfcaaKLive4
import Derived.Test.YteimienhaodfcaaKMetaP
import Derived.Test.YteimienhaodfcaaKMetaT
import Derived.Test.YteimienhaodfcaaKFlow
import Derived.Test.YteimienhaodfcaaKClone
import Derived.Deep.QuietTactic
import Derived.BigQuiet
import Derived.Deep.RegionHeld3
import Derived.Lib.AppendZerosOnto
import Derived.Lib.SliceRun
import Derived.Lib.Walk
/- The disk of the reference, side by side with the real one: texts, reads, writes, syncs, crashes (merged). -/
namespace Go.Proofs.YteimienhaodfcaaK
open Go.RowKit Go.Proofs.YteimienhaodfcaaW.PrintWords Go.Proofs.YteimienhaodfcaaW.PrintLast Go.Proofs.YteimienhaodfcaaW.PrintMore Go.Crc
open Go.ChangeMaps (setBlock)
attribute [local go_sem] max2_int min2_int max_two min_two
set_option linter.unusedVariables false
set_option linter.unusedSimpArgs false
variable {w w' : World} {X X' S : Nat → Prop} {d sb mb clock : Nat} {es : Array MapEntry} {safe : List Int} {D : Dk}
theorem strNums_size (a : List Int) : (strOfNums a).size = a.length := by
  simp [strOfNums, ByteArray.size]
theorem strNums_append (a b : List Int) : strOfNums (a ++ b) = strOfNums a ++ strOfNums b := by
  apply ByteArray.ext
  simp [strOfNums]
theorem strNums_data (l : List Int) : (strOfNums l).data.toList = l.map (fun n => UInt8.ofNat n.toNat) := by simp [strOfNums]
theorem bytesOf_str (l : List Int) (h : Bytes l) : bytesOf (strOfNums l) = l := by
  have := nums_bytes_ l h
  unfold bytesOf strOfNums
  unfold Lib.bytesOf at this
  simpa using this
theorem bt_str (l : List Int) (hl : Bytes l) (i : Int) : bt (strOfNums l) i = rd l i := by rw [← rd_bytesOf, bytesOf_str l hl]
theorem idx_str (l : List Int) (hl : Bytes l) (i : Nat) (hi : i < l.length) (W : World) : (Instr.index 9 (.string (strOfNums l)) (.int .i64 (i : Int))).run Try.prog W = .ok (.int .u8 (rd l i)) W := by
  have hsz := strNums_size l
  rw [run_index_string _ _ _ _ _ Try.underlying9, dif_pos ⟨by omega, by omega⟩, ← bt_str l hl, ← bt_at _ _ (by simp only [Int.toNat_natCast]; omega)]
theorem slice_str (l : List Int) (i j : Nat) (hij : i ≤ j) (hj : j ≤ l.length) (W : World) : (Instr.slice 9 (.string (strOfNums l)) (some (.int .i64 (i : Int))) (some (.int .i64 (j : Int))) none).run Try.prog W = .ok (.string (strOfNums ((l.take j).drop i))) W := by
  have hsz := strNums_size l
  rw [run_slice_string_if _ _ _ _ _ _ _ Try.underlying9, if_pos ⟨by omega, by omega⟩, if_pos ⟨by omega, by omega⟩]
  congr 2
  apply ByteArray.ext
  apply Array.toList_inj.mp
  rw [Int.toNat_natCast, Int.toNat_natCast, Lib.extract_data, strNums_data, strNums_data, List.map_drop, List.map_take, List.drop_take]
theorem slice_from (l : List Int) (i : Nat) (hi : i ≤ l.length) (W : World) : (Instr.slice 9 (.string (strOfNums l)) (some (.int .i64 (i : Int))) none none).run Try.prog W = .ok (.string (strOfNums (l.drop i))) W := by
  have hsz := strNums_size l
  rw [run_slice_string_from_if _ _ _ _ _ Try.underlying9, if_pos ⟨by omega, by omega⟩]
  congr 2
  apply ByteArray.ext
  apply Array.toList_inj.mp
  rw [Int.toNat_natCast, Lib.extract_data, strNums_data, strNums_data, List.map_drop, hsz, List.take_of_length_le (by simp)]
theorem slice_to (l : List Int) (j : Nat) (hj : j ≤ l.length) (W : World) : (Instr.slice 9 (.string (strOfNums l)) none (some (.int .i64 (j : Int))) none).run Try.prog W = .ok (.string (strOfNums (l.take j))) W := by
  have hsz := strNums_size l
  rw [run_slice_string_to_if _ _ _ _ _ Try.underlying9, if_pos ⟨by omega, by omega⟩]
  congr 2
  apply ByteArray.ext
  apply Array.toList_inj.mp
  rw [Int.toNat_natCast, Lib.extract_data, strNums_data, strNums_data, List.map_take, List.drop_zero, Nat.sub_zero]
/-- A row of texts in a block. -/
def SR (W : World) (g n : Nat) (f : Nat → List Int) : Prop := ∃ cur : Array Value, W.heap[g]? = some (.cells cur 9 (0, 0)) ∧ ∀ i, i < n → cur[i]? = some (.string (strOfNums (f i)))
def UR (W : World) (g n : Nat) : Prop := ∃ cur : Array Value, W.heap[g]? = some (.cells cur 4 (0, 0)) ∧ n ≤ cur.size
theorem SR.lt {W : World} {g n : Nat} {f : Nat → List Int} (h : SR W g n f) : g < W.heap.size := by obtain ⟨cur, hb, _⟩ := h; exact blk_lt hb
theorem UR.lt {W : World} {g n : Nat} (h : UR W g n) : g < W.heap.size := by obtain ⟨cur, hb, _⟩ := h; exact blk_lt hb
theorem SR.frm {W W' : World} {S : Nat → Prop} {g n : Nat} {f : Nat → List Int} (h : SR W g n f) (hf : Frm S W W') (hg : ¬ S g) : SR W' g n f := by
  obtain ⟨cur, hb, hc⟩ := h; exact ⟨cur, hf.blk hb hg, hc⟩
theorem UR.frm {W W' : World} {S : Nat → Prop} {g n : Nat} (h : UR W g n) (hf : Frm S W W') (hg : ¬ S g) : UR W' g n := by
  obtain ⟨cur, hb, hc⟩ := h; exact ⟨cur, hf.blk hb hg, hc⟩
theorem SR.cell {W : World} {g n : Nat} {f : Nat → List Int} (h : SR W g n f) {i : Nat} (hi : i < n) : W.cell? ((⟨g, 0, none⟩ : Addr).add i) = some (.string (strOfNums (f i))) ∧ W.frozen? ((⟨g, 0, none⟩ : Addr).add i) = false := by
  obtain ⟨cur, hb, hc⟩ := h
  rw [add_plain]
  exact ⟨by rw [blk_cell hb]; exact hc i hi, blk_frozen hb i⟩
theorem UR.cell {W : World} {g n : Nat} (h : UR W g n) {i : Nat} (hi : i < n) : (∃ u, W.cell? ((⟨g, 0, none⟩ : Addr).add i) = some u) ∧ W.frozen? ((⟨g, 0, none⟩ : Addr).add i) = false := by
  obtain ⟨cur, hb, hc⟩ := h
  rw [add_plain]
  exact ⟨⟨_, by rw [blk_cell hb]; exact Array.getElem?_eq_getElem (by omega)⟩, blk_frozen hb i⟩
theorem SR.set {W : World} {g n : Nat} {f : Nat → List Int} (h : SR W g n f) {i : Nat} (hi : i < n) (l : List Int) : SR (W.setCell ⟨g, i, none⟩ (.string (strOfNums l))) g n (fun m => if m = i then l else f m) := by
  obtain ⟨cur, hb, hc⟩ := h
  refine ⟨_, blk_set hb i _, fun m hm => ?_⟩
  have hsz : i < cur.size := by have := hc i hi; exact (Array.getElem?_eq_some_iff.1 this).1
  rw [Array.setIfInBounds, dif_pos hsz]
  show (cur.set i (Value.string (strOfNums l)) hsz)[m]? = some (.string (strOfNums (if m = i then l else f m)))
  by_cases e : m = i
  · rw [if_pos e, e]; simp [hsz]
  · rw [if_neg e, ← hc m hm, Array.getElem?_set_ne]; omega
theorem UR.set {W : World} {g n : Nat} (h : UR W g n) (i : Nat) (u : Value) : UR (W.setCell ⟨g, i, none⟩ u) g n := by
  obtain ⟨cur, hb, hc⟩ := h
  exact ⟨_, blk_set hb i _, by rw [Array.size_setIfInBounds]; exact hc⟩
theorem SR.C {W : World} {g n : Nat} {f : Nat → List Int} (h : SR W g n f) (hn : n ≤ 65536) : Kd.C Kd.string W (some ⟨g, 0, none⟩) n ((List.range n).map fun i => strOfNums (f i)) := by
  obtain ⟨cur, hb, hc⟩ := h
  refine ⟨by rw [List.length_map, List.length_range], by omega, fun _ => ⟨_, rfl, fun j p hj => ?_⟩⟩
  have hjn : j < n := by have := (List.getElem?_eq_some_iff.1 hj).1; simpa using this
  rw [List.getElem?_map, List.getElem?_range hjn] at hj
  obtain rfl : strOfNums (f j) = p := by simpa using hj
  refine ⟨[.string (strOfNums (f j))], rfl, rfl, fun i u hu => ?_⟩
  obtain ⟨rfl, rfl⟩ : i = 0 ∧ u = .string (strOfNums (f j)) := by
    rcases i with _ | i
    · exact ⟨rfl, by simpa using hu.symm⟩
    · simp at hu
  rw [add_plain, blk_cell hb]
  show cur[j * 1 + 0]? = _
  rw [Nat.mul_one]; exact hc j hjn
theorem own_str {w' : World} {base : Nat} {ok : Nat → Prop} {v : Value} {xs : List ByteArray} (h : Kd.R Kd.string 9 w' base ok v xs) (h0 : 0 < xs.length) : ∃ g cap cur, v = .slice (some ⟨g, 0, none⟩) xs.length cap ∧ xs.length ≤ cap ∧ base ≤ g ∧ w'.heap[g]? = some (.cells cur 9 (0, 0)) ∧ ∀ (j : Nat) (s : ByteArray), xs[j]? = some s → cur[j]? = some (Value.string s) := by
  obtain ⟨A, c, hv, hc, hC⟩ := Kd.R_reads h
  obtain ⟨_, inner, hown, _⟩ := h
  rcases hown.2 with ⟨rfl, hz⟩ | ⟨g, cap, cur, rfl, hbase, hgb, r1, r2, r3, r4⟩
  · omega
  · simp only [Value.slice.injEq] at hv
    obtain ⟨rfl, _, rfl⟩ := hv
    refine ⟨g, cap, cur, rfl, hc, hbase, hgb, fun j s hj => ?_⟩
    have hlt := (List.getElem?_eq_some_iff.1 hj).1
    obtain ⟨ad, cs, hA, hlen, hK, hcell⟩ := Kd.C_get hC ByteArray.empty (j : Int) (by omega) (by omega)
    rw [Int.toNat_natCast, List.getD_eq_getElem?_getD, hj, Option.getD_some] at hK
    rw [Int.toNat_natCast] at hcell
    have := hcell 0 (.string s) (by rw [show cs = [.string s] from hK]; rfl)
    rw [show j * Kd.string.sz + 0 = j from Nat.mul_one j] at this
    obtain rfl := Option.some.inj hA
    rw [add_plain, blk_cell hgb] at this
    exact this
theorem SR.of_R {w' : World} {base : Nat} {ok : Nat → Prop} {v : Value} {n : Nat} {f : Nat → List Int} (h : Kd.R Kd.string 9 w' base ok v ((List.range n).map fun i => strOfNums (f i))) (h0 : 0 < n) : ∃ g cap, v = .slice (some ⟨g, 0, none⟩) n cap ∧ n ≤ cap ∧ base ≤ g ∧ SR w' g n f := by
  have hl : ((List.range n).map fun i => strOfNums (f i)).length = n := by rw [List.length_map, List.length_range]
  obtain ⟨g, cap, cur, hv, hc, hb, hg, hx⟩ := own_str h (by rw [hl]; exact h0)
  rw [hl] at hv hc
  exact ⟨g, cap, hv, hc, hb, cur, hg, fun i hi => hx i _ (by rw [List.getElem?_map, List.getElem?_range hi]; rfl)⟩
/-- A disk whose sectors are bytes of its size. -/
structure WfD (D : Dk) : Prop where
  b1 : 1 ≤ D.sectors
  b2 : D.sectors ≤ 65536
  b3 : 64 ≤ D.size
  b4 : D.size ≤ 1024
  now : ∀ n, n < D.sectors → (D.now n).length = D.size ∧ Bytes (D.now n)
  sec : ∀ n, n < D.sectors → (D.sec n).length = D.size ∧ Bytes (D.sec n)
  lb : -9223372036854775808 ≤ D.left ∧ D.left ≤ 9223372036854775807
/-- The reference's disk in memory: it tells the same as D. -/
structure RParts (W : World) (f g1 g2 g3 c1 c2 c3 : Nat) (D : Dk) : Prop where
  hd : W.heap[f]? = some (.cells #[.int .i64 (D.size : Int), .slice (some ⟨g1, 0, none⟩) D.sectors c1, .slice (some ⟨g2, 0, none⟩) D.sectors c2, .slice (some ⟨g3, 0, none⟩) D.sectors c3, .int .i64 D.ops, .int .i64 D.left, .bool D.dead] 95 (0, 0))
  r1 : SR W g1 D.sectors D.now
  r2 : SR W g2 D.sectors D.sec
  r3 : UR W g3 D.sectors
  l1 : D.sectors ≤ c1
  l2 : D.sectors ≤ c2
  l3 : D.sectors ≤ c3
  ne : g1 ≠ g2
def RAt (W : World) (Y : Nat → Prop) (f : Nat) (D : Dk) : Prop := ∃ g1 g2 g3 c1 c2 c3, RParts W f g1 g2 g3 c1 c2 c3 D ∧ Y f ∧ Y g1 ∧ Y g2 ∧ Y g3
section
variable {W W' : World} {Y S : Nat → Prop} {f g1 g2 g3 c1 c2 c3 : Nat} {D : Dk}
theorem RParts.ty (h : RParts W f g1 g2 g3 c1 c2 c3 D) : f ≠ g1 ∧ f ≠ g2 ∧ f ≠ g3 ∧ g1 ≠ g3 ∧ g2 ≠ g3 := by
  obtain ⟨cu1, h1, _⟩ := h.r1; obtain ⟨cu2, h2, _⟩ := h.r2; obtain ⟨cu3, h3, _⟩ := h.r3
  have hd := h.hd
  refine ⟨?_, ?_, ?_, ?_, ?_⟩
  · rintro rfl; rw [hd] at h1; simp only [Option.some.injEq, Obj.cells.injEq] at h1; exact absurd h1.2.1 (by decide)
  · rintro rfl; rw [hd] at h2; simp only [Option.some.injEq, Obj.cells.injEq] at h2; exact absurd h2.2.1 (by decide)
  · rintro rfl; rw [hd] at h3; simp only [Option.some.injEq, Obj.cells.injEq] at h3; exact absurd h3.2.1 (by decide)
  · rintro rfl; rw [h1] at h3; simp only [Option.some.injEq, Obj.cells.injEq] at h3; exact absurd h3.2.1 (by decide)
  · rintro rfl; rw [h2] at h3; simp only [Option.some.injEq, Obj.cells.injEq] at h3; exact absurd h3.2.1 (by decide)
theorem RParts.frm (h : RParts W f g1 g2 g3 c1 c2 c3 D) (hf : Frm S W W') (n0 : ¬ S f) (n1 : ¬ S g1) (n2 : ¬ S g2) (n3 : ¬ S g3) : RParts W' f g1 g2 g3 c1 c2 c3 D :=
  { h with hd := hf.blk h.hd n0, r1 := h.r1.frm hf n1, r2 := h.r2.frm hf n2, r3 := h.r3.frm hf n3 }
theorem RAt.frm (h : RAt W Y f D) (hf : Frm S W W') (hY : ∀ k, Y k → ¬ S k) : RAt W' Y f D := by
  obtain ⟨g1, g2, g3, c1, c2, c3, hp, y0, y1, y2, y3⟩ := h
  exact ⟨g1, g2, g3, c1, c2, c3, hp.frm hf (hY _ y0) (hY _ y1) (hY _ y2) (hY _ y3), y0, y1, y2, y3⟩
theorem RAt.below (h : RAt W Y f D) (hb : Below W.heap.size W W') : RAt W' Y f D := h.frm (S := fun _ => False) (Frm.of_below hb) (fun _ _ h => h)
theorem RParts.cells (h : RParts W f g1 g2 g3 c1 c2 c3 D) : W.cell? ⟨f, 0, none⟩ = some (.int .i64 (D.size : Int)) ∧ W.cell? ⟨f, 1, none⟩ = some (.slice (some ⟨g1, 0, none⟩) D.sectors c1) ∧ W.cell? ⟨f, 2, none⟩ = some (.slice (some ⟨g2, 0, none⟩) D.sectors c2) ∧ W.cell? ⟨f, 3, none⟩ = some (.slice (some ⟨g3, 0, none⟩) D.sectors c3) ∧ W.cell? ⟨f, 4, none⟩ = some (.int .i64 D.ops) ∧ W.cell? ⟨f, 5, none⟩ = some (.int .i64 D.left) ∧ W.cell? ⟨f, 6, none⟩ = some (.bool D.dead) :=
  ⟨by rw [blk_cell h.hd]; rfl, by rw [blk_cell h.hd]; rfl, by rw [blk_cell h.hd]; rfl, by rw [blk_cell h.hd]; rfl, by rw [blk_cell h.hd]; rfl, by rw [blk_cell h.hd]; rfl, by rw [blk_cell h.hd]; rfl⟩
/-- The counts are written. -/
theorem RParts.setD (h : RParts W f g1 g2 g3 c1 c2 c3 D) (D' : Dk) (h1 : D'.sectors = D.sectors) (h3 : ∀ n, D'.sec n = D.sec n) (h4 : ∀ n, D'.now n = D.now n) (hf : Frm (fun k => k = f) W W')
    (hd : W'.heap[f]? = some (.cells #[.int .i64 (D'.size : Int), .slice (some ⟨g1, 0, none⟩) D.sectors c1, .slice (some ⟨g2, 0, none⟩) D.sectors c2, .slice (some ⟨g3, 0, none⟩) D.sectors c3, .int .i64 D'.ops, .int .i64 D'.left, .bool D'.dead] 95 (0, 0))) : RParts W' f g1 g2 g3 c1 c2 c3 D' := by
  obtain ⟨t1, t2, t3, t4, t5⟩ := h.ty
  have r1 := h.r1.frm hf (fun e => t1 e.symm); have r2 := h.r2.frm hf (fun e => t2 e.symm); have r3 := h.r3.frm hf (fun e => t3 e.symm)
  refine ⟨by rw [h1]; exact hd, ?_, ?_, by rw [h1]; exact r3, by rw [h1]; exact h.l1, by rw [h1]; exact h.l2, by rw [h1]; exact h.l3, h.ne⟩
  · obtain ⟨cu, hb, hc⟩ := r1; exact ⟨cu, hb, fun i hi => by rw [h4]; exact hc i (by omega)⟩
  · obtain ⟨cu, hb, hc⟩ := r2; exact ⟨cu, hb, fun i hi => by rw [h3]; exact hc i (by omega)⟩
set_option maxHeartbeats 1000000 in
theorem rbegin_calls (h : RParts W f g1 g2 g3 c1 c2 c3 D) (hlb : -9223372036854775808 ≤ D.left ∧ D.left ≤ 9223372036854775807) : Calls Try.prog 75 #[.pointer (some ⟨f, 0, none⟩)] W fun e w' => e = .returned (.int .i64 D.beginE) ∧ RParts w' f g1 g2 g3 c1 c2 c3 D.begun ∧ Frm (fun k => k = f) W w' := by
  obtain ⟨x0, x1, x2, x3, x4, x5, x6⟩ := h.cells
  have f4 := blk_frozen h.hd 4; have f5 := blk_frozen h.hd 5; have f6 := blk_frozen h.hd 6
  have HD := Aside0.mk h
  clear h
  cases hdd : D.dead with
  | true =>
    have HE := Aside0.mk hdd
    rw [hdd] at x6
    clear hdd
    go_enter Try.func75, Try.ntmps75
    go_wp2
    go_ret
    have hb := HE.out
    have ed : D.died = D := by cases D; simp_all [Dk.died]
    refine ⟨by simp [Dk.beginE, hb], ?_, Frm.cellD _ _ _ _⟩
    rw [show D.begun = D by simp [Dk.begun, hb, ed]]
    refine HD.out.setD D rfl (fun _ => rfl) (fun _ => rfl) (Frm.cellD _ _ _ _) ?_
    rw [blk_set HD.out.hd]; simp [hb]
  | false =>
    have HE := Aside0.mk hdd
    rw [hdd] at x6
    clear hdd
    by_cases h0 : D.left = 0
    · have H0 := Aside0.mk h0
      rw [h0] at x5
      clear h0 hlb
      go_enter Try.func75, Try.ntmps75
      go_wp2
      go_ret
      refine ⟨by simp [Dk.beginE, H0.out], ?_, Frm.cellD _ _ _ _⟩
      rw [show D.begun = D.died by simp [Dk.begun, H0.out]]
      refine HD.out.setD D.died rfl (fun _ => rfl) (fun _ => rfl) (Frm.cellD _ _ _ _) ?_
      rw [blk_set HD.out.hd]; simp [Dk.died, H0.out]
    · have H0 := Aside0.mk h0
      have d0 : (D.left == 0) = false := by simpa using h0
      by_cases h1 : 0 < D.left
      · have H1 := Aside0.mk h1
        have d1 : decide (0 < D.left) = true := decide_eq_true h1
        clear h0
        go_enter Try.func75, Try.ntmps75
        go_wp2
        go_ret
        have hb := HE.out; have h0 := H0.out; have h1 := H1.out
        refine ⟨by simp [Dk.beginE, h0, hb], ?_, (Frm.cellD _ _ _ _).setD _ _⟩
        rw [show D.begun = D.did by simp [Dk.begun, h0, hb]]
        refine HD.out.setD D.did rfl (fun _ => rfl) (fun _ => rfl) ((Frm.cellD _ _ _ _).setD _ _) ?_
        rw [blk_set (blk_set HD.out.hd _ _)]; simp [Dk.did, h1, hb]
      · have H1 := Aside0.mk h1
        have d1 : decide (0 < D.left) = false := decide_eq_false h1
        clear h0
        go_enter Try.func75, Try.ntmps75
        go_wp2
        go_ret
        have hb := HE.out; have h0 := H0.out; have h1 : ¬ 0 < D.left := by have := H1.out; omega
        refine ⟨by simp [Dk.beginE, h0, hb], ?_, Frm.cellD _ _ _ _⟩
        rw [show D.begun = D.did by simp [Dk.begun, h0, hb]]
        refine HD.out.setD D.did rfl (fun _ => rfl) (fun _ => rfl) (Frm.cellD _ _ _ _) ?_
        rw [blk_set HD.out.hd]; simp [Dk.did, h1, hb]
set_option maxHeartbeats 1000000 in
theorem rarm_calls (h : RParts W f g1 g2 g3 c1 c2 c3 D) (n : Int) : Calls Try.prog 41 #[.pointer (some ⟨f, 0, none⟩), .int .i64 n] W fun e w' => e = .returned (.tuple #[]) ∧ RParts w' f g1 g2 g3 c1 c2 c3 (D.armed n) ∧ Frm (fun k => k = f) W w' := by
  obtain ⟨x0, x1, x2, x3, x4, x5, x6⟩ := h.cells
  have f5 := blk_frozen h.hd 5
  have HD := Aside0.mk h
  clear h
  cases hdd : D.dead with
  | true =>
    have HE := Aside0.mk hdd
    rw [hdd] at x6
    clear hdd
    go_enter Try.func41, Try.ntmps41
    go_wp2
    first | go_end0 | ((try simp only [Exit.inBlock, Exit.then]); refine bodyPost_ret (results_none rfl _ _ _) rfl ?_)
    refine ⟨rfl, ?_, Frm.refl _ _⟩
    rw [show D.armed n = D by simp [Dk.armed, HE.out]]; exact HD.out
  | false =>
    have HE := Aside0.mk hdd
    rw [hdd] at x6
    clear hdd
    by_cases h1 : n < -1
    · have d1 : decide (n < -1) = true := decide_eq_true h1
      go_enter Try.func41, Try.ntmps41
      go_wp2
      first | go_end0 | ((try simp only [Exit.inBlock, Exit.then]); refine bodyPost_ret (results_none rfl _ _ _) rfl ?_)
      refine ⟨rfl, ?_, Frm.cellD _ _ _ _⟩
      have ea : D.armed n = { D with left := -1 } := by unfold Dk.armed; rw [HE.out, if_neg (by decide), if_pos h1]
      rw [ea]
      refine HD.out.setD { D with left := -1 } rfl (fun _ => rfl) (fun _ => rfl) (Frm.cellD _ _ _ _) ?_
      rw [blk_set HD.out.hd]; simp [HE.out]
    · have d1 : decide (n < -1) = false := decide_eq_false h1
      go_enter Try.func41, Try.ntmps41
      go_wp2
      first | go_end0 | ((try simp only [Exit.inBlock, Exit.then]); refine bodyPost_ret (results_none rfl _ _ _) rfl ?_)
      refine ⟨rfl, ?_, Frm.cellD _ _ _ _⟩
      have h1' : ¬ n < -1 := by omega
      have ea : D.armed n = { D with left := n } := by unfold Dk.armed; rw [HE.out, if_neg (by decide), if_neg h1']
      rw [ea]
      refine HD.out.setD { D with left := n } rfl (fun _ => rfl) (fun _ => rfl) (Frm.cellD _ _ _ _) ?_
      rw [blk_set HD.out.hd]; simp [HE.out]
set_option maxHeartbeats 1000000 in
theorem rread_calls (h : RParts W f g1 g2 g3 c1 c2 c3 D) (n : Int) : Calls Try.prog 76 #[.pointer (some ⟨f, 0, none⟩), .int .i64 n] W fun e w' => e = .returned (.tuple #[.string (strOfNums (D.readB n)), .int .i64 (D.readE n)]) ∧ Drawn0 W w' := by
  obtain ⟨x0, x1, x2, x3, x4, x5, x6⟩ := h.cells
  have HD := Aside0.mk h
  have hl1 := h.l1
  clear h
  by_cases h0 : n < 0
  · have HE : Aside0 (D.readE n = 2 ∧ D.readB n = []) := ⟨by
      have hh : D.has n = false := by unfold Dk.has; rw [Bool.and_eq_false_iff]; exact .inl (decide_eq_false (by omega))
      have : D.readE n = 2 := by unfold Dk.readE; rw [hh, if_pos rfl]
      exact ⟨this, by unfold Dk.readB; rw [this, if_neg (by decide)]⟩⟩
    have d0 : decide (n < 0) = true := decide_eq_true h0
    go_enter Try.func76, Try.ntmps76
    go_wp2
    go_ret2
    rw [HE.out.1, HE.out.2]
    exact ⟨rfl, by repeat (first | exact Drawn0.refl _ | apply Drawn0.step)⟩
  · have d0 : decide (n < 0) = false := decide_eq_false h0
    obtain ⟨m, rfl⟩ : ∃ m : Nat, n = m := ⟨n.toNat, by omega⟩
    by_cases hm : m < D.sectors
    · have d1 : decide ((D.sectors : Int) ≤ (m : Int)) = false := decide_eq_false (by omega)
      have hh : D.has (m : Int) = true := by unfold Dk.has; rw [Bool.and_eq_true]; exact ⟨decide_eq_true (by omega), decide_eq_true (by omega)⟩
      cases hdd : D.dead with
      | true =>
        have HE : Aside0 (D.readE (m : Int) = 20 ∧ D.readB (m : Int) = []) := ⟨by
          have : D.readE (m : Int) = 20 := by unfold Dk.readE; rw [hh, if_neg (by decide), if_pos hdd]
          exact ⟨this, by unfold Dk.readB; rw [this, if_neg (by decide)]⟩⟩
        rw [hdd] at x6
        clear hdd hh h0
        go_enter Try.func76, Try.ntmps76
        go_wp2
        go_ret2
        rw [HE.out.1, HE.out.2]
        exact ⟨rfl, by repeat (first | exact Drawn0.refl _ | apply Drawn0.step)⟩
      | false =>
        have HE : Aside0 (D.readE (m : Int) = 0 ∧ D.readB (m : Int) = D.now m) := ⟨by
          have : D.readE (m : Int) = 0 := by unfold Dk.readE; rw [hh, if_neg (by decide), hdd, if_neg (by decide)]
          exact ⟨this, by unfold Dk.readB; rw [this, if_pos rfl, Int.toNat_natCast]⟩⟩
        rw [hdd] at x6
        have s0 := (HD.out.r1.cell hm).1
        have s0' := s0
        rw [add_plain] at s0'
        have hmi : (m : Int) < (D.sectors : Int) := by omega
        clear hdd hh h0
        go_enter Try.func76, Try.ntmps76
        go_wp2
        go_ret2
        rw [HE.out.1, HE.out.2]
        exact ⟨rfl, by repeat (first | exact Drawn0.refl _ | apply Drawn0.step)⟩
    · have HE : Aside0 (D.readE (m : Int) = 2 ∧ D.readB (m : Int) = []) := ⟨by
        have hh : D.has (m : Int) = false := by unfold Dk.has; rw [Bool.and_eq_false_iff]; exact .inr (decide_eq_false (by omega))
        have : D.readE (m : Int) = 2 := by unfold Dk.readE; rw [hh, if_pos rfl]
        exact ⟨this, by unfold Dk.readB; rw [this, if_neg (by decide)]⟩⟩
      have d1 : decide ((D.sectors : Int) ≤ (m : Int)) = true := decide_eq_true (by omega)
      go_enter Try.func76, Try.ntmps76
      go_wp2
      go_ret2
      rw [HE.out.1, HE.out.2]
      exact ⟨rfl, by repeat (first | exact Drawn0.refl _ | apply Drawn0.step)⟩
end
section
variable {W W' : World} {Y S : Nat → Prop} {f g1 g2 g3 c1 c2 c3 : Nat} {D : Dk}
theorem now_written {D : Dk} {n : Nat} {l : List Int} : (D.put n l).now = fun m => if m = n then l else D.now m := by
  funext m
  unfold Dk.now
  show ((if m = n then some l else D.fresh m).getD (D.sec m)) = _
  by_cases h : m = n
  · rw [if_pos h, if_pos h]; rfl
  · rw [if_neg h, if_neg h]
theorem begun_now (D : Dk) : D.begun.now = D.now ∧ D.begun.sec = D.sec ∧ D.begun.sectors = D.sectors ∧ D.begun.size = D.size := by
  unfold Dk.begun; split <;> exact ⟨rfl, rfl, rfl, rfl⟩
set_option maxHeartbeats 2000000 in
theorem rwrite_calls (h : RParts W f g1 g2 g3 c1 c2 c3 D) (hwf : WfD D) (n : Int) (p : List Int) (hp : p.length ≤ 140737488351232) : Calls Try.prog 39 #[.pointer (some ⟨f, 0, none⟩), .int .i64 n, .string (strOfNums p)] W fun e w' => e = .returned (.int .i64 (D.writeE n p)) ∧ RParts w' f g1 g2 g3 c1 c2 c3 (D.written n p) ∧ Frm (fun k => k = f ∨ k = g1 ∨ k = g3) W w' := by
  obtain ⟨x0, x1, x2, x3, x4, x5, x6⟩ := h.cells
  have HD := Aside0.mk h; have HW := Aside0.mk hwf
  have hl1 := h.l1
  have hsz := strNums_size p
  clear h hwf
  by_cases h0 : n < 0
  · have hh : D.has n = false := by unfold Dk.has; rw [Bool.and_eq_false_iff]; exact .inl (decide_eq_false (by omega))
    have HE : Aside0 (D.writeE n p = 2 ∧ D.written n p = D) := ⟨by unfold Dk.writeE; rw [if_pos hh], by unfold Dk.written; rw [if_pos hh]⟩
    have d0 : decide (n < 0) = true := decide_eq_true h0
    go_enter Try.func39, Try.ntmps39
    go_wp2_with fail
    go_ret
    rw [HE.out.1, HE.out.2]
    exact ⟨rfl, HD.out, Frm.refl _ _⟩
  have d0 : decide (n < 0) = false := decide_eq_false h0
  obtain ⟨m, rfl⟩ : ∃ m : Nat, n = m := ⟨n.toNat, by omega⟩
  by_cases hm : m < D.sectors
  case neg =>
    have hh : D.has (m : Int) = false := by unfold Dk.has; rw [Bool.and_eq_false_iff]; exact .inr (decide_eq_false (by omega))
    have HE : Aside0 (D.writeE (m : Int) p = 2 ∧ D.written (m : Int) p = D) := ⟨by unfold Dk.writeE; rw [if_pos hh], by unfold Dk.written; rw [if_pos hh]⟩
    have d1 : decide ((D.sectors : Int) ≤ (m : Int)) = true := decide_eq_true (by omega)
    go_enter Try.func39, Try.ntmps39
    go_wp2_with fail
    go_ret
    rw [HE.out.1, HE.out.2]
    exact ⟨rfl, HD.out, Frm.refl _ _⟩
  have hh : D.has (m : Int) = true := by unfold Dk.has; rw [Bool.and_eq_true]; exact ⟨decide_eq_true (by omega), decide_eq_true (by omega)⟩
  have d1 : decide ((D.sectors : Int) ≤ (m : Int)) = false := decide_eq_false (by omega)
  by_cases hp2 : D.size < p.length
  · have HE : Aside0 (D.writeE (m : Int) p = 1 ∧ D.written (m : Int) p = D) := ⟨by unfold Dk.writeE; rw [hh, if_neg (by decide), if_pos hp2], by unfold Dk.written; rw [hh, if_neg (by decide), if_pos hp2]⟩
    have d2 : decide ((D.size : Int) < (p.length : Int)) = true := decide_eq_true (by omega)
    go_enter Try.func39, Try.ntmps39
    go_wp2_with fail
    go_ret
    rw [HE.out.1, HE.out.2]
    exact ⟨rfl, HD.out, Frm.refl _ _⟩
  have d2 : decide ((D.size : Int) < (p.length : Int)) = false := decide_eq_false (by omega)
  have HE : Aside0 (D.writeE (m : Int) p = D.beginE ∧ D.written (m : Int) p = if D.beginE = 0 then D.begun.put m (p ++ zeros (D.size - p.length)) else D.begun) := ⟨by unfold Dk.writeE; rw [hh, if_neg (by decide), if_neg hp2], by unfold Dk.written; rw [hh, if_neg (by decide), if_neg hp2, Int.toNat_natCast]⟩
  rw [HE.out.1, HE.out.2]
  obtain ⟨DR, hDR⟩ : ∃ DR, DR = if D.beginE = 0 then D.begun.put m (p ++ zeros (D.size - p.length)) else D.begun := ⟨_, rfl⟩
  rw [← hDR]
  obtain ⟨E, hE⟩ : ∃ E, E = D.beginE := ⟨_, rfl⟩
  have HEQ := Aside0.mk hE
  rw [← hE] at hDR ⊢
  have HDR := Aside0.mk hDR
  clear hE HE hh h0 hDR
  go_enter Try.func39, Try.ntmps39
  go_wp2_with fail
  refine (rbegin_calls HD.out HW.out.lb).mono ?_
  rintro e w1 ⟨rfl, h1, hf1⟩
  rw [← HEQ.out]
  have H1 := Aside0.mk h1; have HF1 := Aside0.mk hf1
  obtain ⟨x0', x1', x2', x3', x4', x5', x6'⟩ := h1.cells
  obtain ⟨bn, bs, bc, bz⟩ := begun_now D
  rw [bc] at x1' x2' x3'
  rw [bz] at x0'
  have r1 := h1.r1; have r3 := h1.r3
  rw [bc] at r1 r3
  clear h1 hf1 x0 x1 x2 x3 x4 x5 x6 x4' x5' x6'
  by_cases hE0 : E = 0
  case neg =>
    have hb0 : (E == 0) = false := by simpa using hE0
    have HX : Aside0 (DR = D.begun) := ⟨by rw [HDR.out, if_neg hE0]⟩
    clear hE0
    go_wp2_with fail
    go_ret
    exact ⟨rfl, by rw [HX.out]; exact H1.out, HF1.out.mono fun k hk => .inl hk⟩
  subst hE0
  have HX : Aside0 (DR = D.begun.put m (p ++ zeros (D.size - p.length))) := ⟨by rw [HDR.out, if_pos rfl]⟩
  obtain ⟨z, hz⟩ : ∃ z, z = D.size - p.length := ⟨_, rfl⟩
  have hb4 := HW.out.b4
  have ez : IntKind.i64.wrap ((D.size : Int) - (p.length : Int)) = (z : Int) := by
    rw [IntWalk.i64_in _ (by omega)]; omega
  have hmk := fun W => make_bytes W z (by omega)
  obtain ⟨o5, ho5⟩ : ∃ o, o = (Obj.cells ((zeros z).map (.int .u8)).toArray 5) := ⟨_, rfl⟩
  obtain ⟨W2, hW2⟩ : ∃ W, W = (w1.alloc o5).drew := ⟨_, rfl⟩
  have hb2 : Below w1.heap.size w1 W2 := by rw [hW2]; exact below_step (below_alloc (Below.refl _ _) _) (below_drew (Below.refl _ _))
  have hbk : Blk W2 w1.heap.size (zeros z) := by rw [hW2, ho5]; exact blk_new w1 _
  have hcv : (convert 33 9 (.slice (some ⟨w1.heap.size, 0, none⟩) z z)).run Try.prog W2 = .ok (.string (strOfNums (zeros z))) W2 := by
    have hl : (zeros z).length = z := by rw [zeros, List.length_replicate]
    have h3 := blk_C hbk (by rw [hl]; omega) 0 z (by rw [hl]; omega)
    rw [List.drop_zero, List.take_of_length_le (by rw [hl]; exact Nat.le_refl _)] at h3
    exact Kd.C_string (c := z) Try.underlying33 Try.underlying5 Try.underlying9 h3
  have r1b := r1.frm (S := fun _ => False) (Frm.of_below hb2) (fun h => h)
  obtain ⟨s1, s2⟩ := r1b.cell hm
  rw [add_plain] at s1 s2
  have y0 := pw_cell_below hb2 x0'; have y1 := pw_cell_below hb2 x1'; have y3 := pw_cell_below hb2 x3'
  have hszz : (strOfNums (zeros z)).size = z := by rw [strNums_size, zeros, List.length_replicate]
  have hadd : ¬ (9223372036854775807 < (strOfNums p).size + (strOfNums (zeros z)).size) := by rw [hsz, hszz]; omega
  have hmi : (m : Int) < (D.sectors : Int) := by omega
  rw [← ho5] at hmk
  rw [hW2] at hcv s1 s2 y0 y1 y3
  have HB2 := Aside0.mk hb2; have HO5 := Aside0.mk ho5; have HW2 := Aside0.mk hW2; have HZ := Aside0.mk hz
  clear ho5 hW2 hb2 hbk r1b hz
  go_wp2_with fail
  go_region
  obtain ⟨W3, hW3⟩ : ∃ W, W = ((w1.alloc o5).setCell ⟨g1, m, none⟩ (.string (strOfNums p ++ strOfNums (zeros z)))).drew := ⟨_, rfl⟩
  have hf3 : Frm (fun k => k = g1) w1 W3 := by rw [hW3]; exact Frm.drew (Frm.set (S := fun k => k = g1) ((Frm.refl (fun k => k = g1) w1).alloc o5) (p := ⟨g1, m, none⟩) (.inl rfl) _)
  obtain ⟨t1, t2, t3, t4, t5⟩ := HD.out.ty
  have r13 : SR W3 g1 D.sectors (fun i => if i = m then p ++ zeros z else D.now i) := by
    have ha := r1.frm (S := fun _ => False) (Frm.of_below (below_alloc (Below.refl w1.heap.size w1) o5)) (fun h => h)
    have hs := ha.set hm (p ++ zeros z)
    rw [strNums_append] at hs
    rw [bn] at hs
    rw [hW3]
    obtain ⟨cu, hb, hc⟩ := hs
    exact ⟨cu, hb, hc⟩
  have hhd := hf3.blk H1.out.hd t1
  rw [bc, bz] at hhd
  have r33 := r3.frm hf3 (fun e => t4 e.symm)
  have q3 := blk_cell hhd 3
  simp only [List.getElem?_toArray, List.getElem?_cons_zero, List.getElem?_cons_succ] at q3
  obtain ⟨⟨u, v1⟩, v2⟩ := r33.cell hm
  rw [add_plain] at v1 v2
  have HHD := Aside0.mk hhd; have HR1 := Aside0.mk r13; have HR3 := Aside0.mk r33; have HF3 := Aside0.mk hf3
  clear hhd r13 r33 hf3 r1 r3 y0 y1 y3 s1 s2 x0' x1' x2' x3' hcv hmk
  rw [← hW3]
  clear hW3
  go_wp2_with fail
  go_ret
  have hfu : Frm (fun k => k = g3) W3 (W3.setCell ⟨g3, m, none⟩ (.bool true)) := Frm.cell W3 ⟨g3, m, none⟩ _
  have hE2 : (D.begun.put m (p ++ zeros z)).now = fun i => if i = m then p ++ zeros z else D.now i := by rw [now_written, bn]
  refine ⟨rfl, ?_, ?_⟩
  · rw [HX.out, ← HZ.out]
    refine ⟨?_, ?_, ?_, ?_, ?_, ?_, ?_, HD.out.ne⟩
    · show _ = some (Obj.cells #[.int .i64 (D.begun.size : Int), .slice (some ⟨g1, 0, none⟩) D.begun.sectors c1, .slice (some ⟨g2, 0, none⟩) D.begun.sectors c2, .slice (some ⟨g3, 0, none⟩) D.begun.sectors c3, .int .i64 D.begun.ops, .int .i64 D.begun.left, .bool D.begun.dead] 95 (0, 0))
      rw [bc, bz]; exact hfu.blk HHD.out t3
    · show SR _ g1 D.begun.sectors (D.begun.put m (p ++ zeros z)).now
      rw [bc, hE2]; exact HR1.out.frm hfu t4
    · show SR _ g2 D.begun.sectors D.begun.sec
      exact (H1.out.r2.frm HF3.out (fun e => HD.out.ne e.symm)).frm hfu t5
    · show UR _ g3 D.begun.sectors
      rw [bc]; exact HR3.out.set m _
    · show D.begun.sectors ≤ c1; rw [bc]; exact HD.out.l1
    · show D.begun.sectors ≤ c2; rw [bc]; exact HD.out.l2
    · show D.begun.sectors ≤ c3; rw [bc]; exact HD.out.l3
  · refine ((HF1.out.mono (S' := fun k => k = f ∨ k = g1 ∨ k = g3) fun k hk => .inl hk).then_ HF3.out (fun k hk => .inl (.inr (.inl hk)))).then_ hfu (fun k hk => .inl (.inr (.inr hk)))
end
/-- The reference's disk behind a call that was given the blocks Y to write. -/
def RNxt (W : World) (Y : Nat → Prop) (w' : World) (f : Nat) (D' : Dk) : Prop := ∃ Y', RAt w' Y' f D' ∧ (∀ k, Y' k → Y k ∨ W.heap.size ≤ k) ∧ Frm Y W w'
theorem empty_RS {W : World} {g base : Nat} (h : W.heap[g]? = some (.cells #[] 9 (0, 0))) (hb : base ≤ g) : Kd.R Kd.string 9 W base (fun _ => True) (.slice (some ⟨g, 0, none⟩) 0 0) [] :=
  ⟨fun _ _ => trivial, [], ⟨rfl, .inr ⟨g, 0, #[], rfl, hb, h, Nat.le_refl _, by simp [maxLen], rfl, rfl⟩⟩, Reps.none _ _⟩
theorem infoStr2 : (Try.prog.info? 9).map (fun i => (i.zero, i.size, i.bytes)) = some (some (.string ByteArray.empty), 1, 16) := by kernel_rfl
theorem infoBool : (Try.prog.info? 4).map (fun i => (i.zero, i.size, i.bytes)) = some (some (.bool false), 1, 1) := by kernel_rfl
theorem make_bools (W : World) (n : Nat) (hn : n ≤ 65536) : ∃ cs : Array Value, n ≤ cs.size ∧ ∀ W : World, (Instr.makeSlice 93 (.int .i64 (n : Int)) (.int .i64 (n : Int))).run Try.prog W = .ok (.slice (some ⟨W.heap.size, 0, none⟩) n n) (W.alloc (.cells cs 4)) := by
  obtain ⟨i, hi, h⟩ := Option.map_eq_some_iff.1 infoBool
  simp only [Prod.mk.injEq] at h
  obtain ⟨hz, h1, h2⟩ := h
  refine ⟨madeCells (Value.bool false).cells n, by simp [madeCells], fun W => ?_⟩
  have hr := run_make (P := Try.prog) W 93 4 i (.bool false) Try.underlying93 hi hz .i64 .i64 (n : Int) (n : Int) (by omega) (by omega) (by rw [h2]; omega) (by omega)
  rw [hr, h1]
  simp
section
variable {W W' : World} {Y S : Nat → Prop} {f g1 g2 g3 c1 c2 c3 : Nat} {D : Dk}
theorem WfD.synced (h : WfD D) : ∀ n, n < D.sectors → (D.begun.settle (fun _ => D.size)).sec n = D.now n := fun n hn => by
  obtain ⟨bn, bs, bc, bz⟩ := begun_now D
  have hl : (D.begun.settle (fun _ => D.size)).sec n = (match D.begun.fresh n with | some l => l.take D.size ++ (D.begun.sec n).drop D.size | none => D.begun.sec n) := rfl
  have hnow := (h.now n hn).1; have hsec := (h.sec n hn).1
  have hbn : D.begun.now n = D.now n := by rw [bn]
  rw [hl, bs]
  unfold Dk.now at hbn
  rw [bs] at hbn
  cases hf : D.begun.fresh n with
  | none => rw [hf] at hbn; exact hbn
  | some l =>
    rw [hf] at hbn
    have hbn' : l = D.now n := hbn
    show l.take D.size ++ (D.sec n).drop D.size = D.now n
    rw [hbn', List.take_of_length_le (by omega), List.drop_eq_nil_of_le (by omega), List.append_nil]
set_option maxHeartbeats 2000000 in
theorem rsync_calls (h : RAt W Y f D) (hwf : WfD D) : Calls Try.prog 40 #[.pointer (some ⟨f, 0, none⟩)] W fun e w' => e = .returned (.int .i64 D.beginE) ∧ RNxt W Y w' f D.synced := by
  obtain ⟨g1, g2, g3, c1, c2, c3, hp, yf, y1, y2, y3⟩ := h
  have HD := Aside0.mk hp; have HW := Aside0.mk hwf
  have HY := Aside0.mk (And.intro yf (And.intro y1 (And.intro y2 y3)))
  obtain ⟨DR, hDR⟩ : ∃ DR, DR = D.synced := ⟨_, rfl⟩
  rw [← hDR]
  obtain ⟨E, hE⟩ : ∃ E, E = D.beginE := ⟨_, rfl⟩
  have HEQ := Aside0.mk hE
  have HDR := Aside0.mk hDR
  rw [← hE]
  clear hE hDR hp hwf yf y1 y2 y3
  go_enter Try.func40, Try.ntmps40
  go_wp2_with fail
  refine (rbegin_calls HD.out HW.out.lb).mono ?_
  rintro e w1 ⟨rfl, h1, hf1⟩
  rw [← HEQ.out]
  have H1 := Aside0.mk h1; have HF1 := Aside0.mk hf1
  clear h1 hf1
  by_cases hE0 : E = 0
  case neg =>
    have hb0 : (E == 0) = false := by simpa using hE0
    have HX : Aside0 (DR = D.begun) := ⟨by rw [HDR.out]; unfold Dk.synced; rw [if_neg (by rw [← HEQ.out]; exact hE0)]⟩
    clear hE0
    go_wp2_with fail
    go_ret
    refine ⟨rfl, Y, ⟨g1, g2, g3, c1, c2, c3, by rw [HX.out]; exact H1.out, HY.out⟩, fun k hk => .inl hk, HF1.out.mono fun k hk => by subst hk; exact HY.out.1⟩
  subst hE0
  obtain ⟨bn, bs, bc, bz⟩ := begun_now D
  have HX : Aside0 (DR = D.begun.settle fun _ => D.size) := ⟨by rw [HDR.out]; unfold Dk.synced; rw [if_pos HEQ.out.symm]⟩
  have hn2 := HW.out.b2; have hn1 := HW.out.b1
  obtain ⟨x0, x1, x2, x3, x4, x5, x6⟩ := H1.out.cells
  rw [bc] at x1
  have HB2 := Aside0.mk (below_alloc (Below.refl w1.heap.size w1) (.cells #[] 9))
  have HC2 : Aside0 (Kd.C Kd.string (w1.alloc (.cells #[] 9)) (some ⟨g1, 0, none⟩) D.sectors ((List.range D.sectors).map fun i => strOfNums (D.now i))) := ⟨by
    have hr := H1.out.r1
    rw [bc, bn] at hr
    exact Kd.C_below (hr.C hn2) HB2.out⟩
  have yy1 := pw_cell_below HB2.out x1
  obtain ⟨cs, hcs, hmk⟩ := make_bools w1 D.sectors hn2
  clear x0 x2 x3 x4 x5 x6
  go_upto_region 4 with ((with_reducible refine gate_builtin (b := .append) (xs := #[.tmp 9, .tmp 13]) rfl ?_); at_builtin; go_loud (refine Kd.R_append_rows Kd.string (Rr := fun (x : ByteArray) (c : List Value) => c = [.string x]) (w0 := w1) w1.heap.size rfl (.tmp 9) (.tmp 13) 38 9 (.string ByteArray.empty) 16 rfl Try.underlying38 infoStr2 rfl (by decide) (by omega) (.slice (some ⟨w1.heap.size, 0, none⟩) 0 0) [] ((List.range D.sectors).map fun i => strOfNums (D.now i)) (some ⟨g1, 0, none⟩) D.sectors c1 (fun _ => True) (fun _ => False) rfl rfl (empty_RS (blk_new w1 _) (Nat.le_refl _)) HC2.out (fun _ _ h => h) (fun _ hk => hk.elim) (fun _ _ => trivial) HB2.out HB2.out.size (by show (0 + D.sectors) * 16 ≤ 140737488355328; omega) ?_; intro v2 w2 hr hb hg hat; rw [List.nil_append] at hr; obtain ⟨g2', cp2, rfl, hcp2, hg2', hs2'⟩ := SR.of_R hr (by omega); have HS2 := Aside0.mk hs2'; have HG2 := Aside0.mk (And.intro hcp2 hg2'); have HB3 := Aside0.mk hb; have HH2 := Aside0.mk ((hb.block f (blk_lt H1.out.hd)).trans H1.out.hd); have z1 := pw_cell_below hb x1; have z2 := blk_cell HH2.out 2; simp only [List.getElem?_toArray, List.getElem?_cons_zero, List.getElem?_cons_succ] at z2; have f2 := blk_frozen HH2.out 2; clear hr hb hg hat hcp2 hg2' hs2'))
  obtain ⟨W3, hW3⟩ : ∃ W, W = w2.setCell ⟨f, 2, none⟩ (.slice (some ⟨g2', 0, none⟩) D.sectors cp2) := ⟨_, rfl⟩
  have hf3 : Frm (fun k => k = f) w2 W3 := by rw [hW3]; exact Frm.cellD _ _ _ _
  have hh3 : W3.heap[f]? = some (.cells #[.int .i64 (D.begun.size : Int), .slice (some ⟨g1, 0, none⟩) D.begun.sectors c1, .slice (some ⟨g2', 0, none⟩) D.sectors cp2, .slice (some ⟨g3, 0, none⟩) D.begun.sectors c3, .int .i64 D.begun.ops, .int .i64 D.begun.left, .bool D.begun.dead] 95 (0, 0)) := by
    rw [hW3, blk_set HH2.out]; simp
  obtain ⟨W4, hW4⟩ : ∃ W, W = W3.alloc (.cells cs 4) := ⟨_, rfl⟩
  have hb4 : Below W3.heap.size W3 W4 := by rw [hW4]; exact below_alloc (Below.refl _ _) _
  have hh4 := (hb4.block f (blk_lt hh3)).trans hh3
  have q1 := blk_cell hh3 1; have q3 := blk_cell hh4 3; have k3 := blk_frozen hh4 3
  simp only [List.getElem?_toArray, List.getElem?_cons_zero, List.getElem?_cons_succ] at q1 q3
  rw [bc] at q1
  have hu4 : UR W4 W3.heap.size D.sectors := ⟨cs, by rw [hW4]; exact blk_new W3 _, hcs⟩
  rw [hW4] at q3 k3
  have HF3 := Aside0.mk hf3; have HH4 := Aside0.mk hh4; have HU4 := Aside0.mk hu4; have HB4 := Aside0.mk hb4
  have HN := Aside0.mk (And.intro hn1 hn2)
  rw [← hW3]
  obtain ⟨g3', hg3'⟩ : ∃ g, g = W3.heap.size := ⟨_, rfl⟩
  have HG3 := Aside0.mk hg3'
  have HW4 := Aside0.mk hW4
  clear hf3 hh3 hh4 hu4 hb4 hW3 z1 z2 f2 yy1 x1 hn1 hn2 hg3' hW4
  go_wp2_with fail
  go_ret
  rw [← HW4.out]
  obtain ⟨t1, t2, t3, t4, t5⟩ := HD.out.ty
  have hf5 : Frm (fun k => k = f) W4 (W4.setCell ⟨f, 3, none⟩ (.slice (some ⟨W3.heap.size, 0, none⟩) D.sectors D.sectors)) := Frm.cellD _ _ _ _
  have hs3 : W.heap.size ≤ w1.heap.size := HF1.out.size
  have h1f : f < w1.heap.size := blk_lt H1.out.hd
  have h1g : g1 < w1.heap.size := H1.out.r1.lt
  have hg2b : w1.heap.size ≤ g2' := HG2.out.2
  have hw3 : w2.heap.size ≤ W3.heap.size := HF3.out.size
  have hw2 : w1.heap.size ≤ w2.heap.size := HB3.out.size
  have hg2l := HS2.out.lt
  have hnow : ∀ n, n < D.sectors → (D.begun.settle fun _ => D.size).sec n = D.now n := HW.out.synced
  have hnn : ∀ n, (D.begun.settle fun _ => D.size).now n = (D.begun.settle fun _ => D.size).sec n := fun n => rfl
  refine ⟨rfl, fun k => Y k ∨ W.heap.size ≤ k, ⟨g1, g2', W3.heap.size, c1, cp2, D.sectors, ?_, .inl HY.out.1, .inl HY.out.2.1, .inr (by omega), .inr (by omega)⟩, fun k hk => hk, ?_⟩
  · rw [HX.out]
    refine ⟨?_, ?_, ?_, ?_, ?_, ?_, ?_, by omega⟩
    · show _ = some (Obj.cells #[.int .i64 (D.begun.size : Int), .slice (some ⟨g1, 0, none⟩) D.begun.sectors c1, .slice (some ⟨g2', 0, none⟩) D.begun.sectors cp2, .slice (some ⟨W3.heap.size, 0, none⟩) D.begun.sectors D.sectors, .int .i64 D.begun.ops, .int .i64 D.begun.left, .bool D.begun.dead] 95 (0, 0))
      rw [blk_set HH4.out, bc]; simp
    · show SR _ g1 D.begun.sectors _
      rw [bc]
      have hr := H1.out.r1
      rw [bc, bn] at hr
      have hr2 := (((hr.frm (S := fun _ => False) (Frm.of_below HB3.out) (fun h => h)).frm HF3.out (fun e => t1 e.symm)).frm (S := fun _ => False) (Frm.of_below HB4.out) (fun h => h)).frm hf5 (fun e => t1 e.symm)
      obtain ⟨cu, hb, hc⟩ := hr2
      exact ⟨cu, hb, fun i hi => by rw [hc i hi, hnn, hnow i hi]⟩
    · show SR _ g2' D.begun.sectors _
      rw [bc]
      have hr2 := ((HS2.out.frm HF3.out (by omega)).frm (S := fun _ => False) (Frm.of_below HB4.out) (fun h => h)).frm hf5 (by omega)
      obtain ⟨cu, hb, hc⟩ := hr2
      exact ⟨cu, hb, fun i hi => by rw [hc i hi, hnow i hi]⟩
    · show UR _ _ D.begun.sectors
      rw [bc]; exact HU4.out.frm hf5 (by omega)
    · show D.begun.sectors ≤ c1; rw [bc]; exact HD.out.l1
    · show D.begun.sectors ≤ cp2; rw [bc]; exact HG2.out.1
    · show D.begun.sectors ≤ D.sectors; rw [bc]; exact Nat.le_refl _
  · have hYf : ∀ k, k = f → Y k := fun k hk => by rw [hk]; exact HY.out.1
    refine ((((HF1.out.mono hYf).step HB3.out).then_ (HF3.out.mono hYf) (fun k hk => .inl hk)).step HB4.out).then_ (hf5.mono hYf) (fun k hk => .inl hk)
end
def NewI (w : World) (f z k : Nat) (wr : World) : Prop := ∃ v1 v2, wr.heap[f]? = some (.cells #[.int .i64 (z : Int), v1, v2, .slice none 0 0, .int .i64 0, .int .i64 (-1), .bool false] 95 (0, 0)) ∧
  Kd.R Kd.string 9 wr w.heap.size (fun b => some b ≠ v2.ownBlock) v1 ((List.range k).map fun _ => strOfNums (zeros z)) ∧ Kd.R Kd.string 9 wr w.heap.size (fun b => some b ≠ v1.ownBlock) v2 ((List.range k).map fun _ => strOfNums (zeros z)) ∧ Below w.heap.size w wr ∧ w.heap.size ≤ f
theorem one_str2 {W : World} {g t : Nat} {s : ByteArray} {fr : Nat × Nat} (h : W.heap[g]? = some (.cells #[.string s] t fr)) : Kd.C Kd.string W (some ⟨g, 0, none⟩) 1 [s] := by
  refine ⟨rfl, by decide, fun _ => ⟨_, rfl, fun j p hj => ?_⟩⟩
  match j, hj with
  | 0, hj =>
    obtain rfl : s = p := by simpa using hj
    refine ⟨[.string s], rfl, rfl, fun i u hu => ?_⟩
    obtain ⟨rfl, rfl⟩ : i = 0 ∧ u = .string s := by
      rcases i with _ | i
      · exact ⟨rfl, by simpa using hu.symm⟩
      · simp at hu
    rw [add_plain, cell_of_row W g _ _ t fr h]; rfl
  | j + 1, hj => simp at hj
theorem app_apart {W w1 : World} {base : Nat} {v v1 u : Value} {ys : List ByteArray} (hg : W.grownBy w1 v.ownBlock) (hat : v1.ownBlock = v.ownBlock ∨ ∃ b, v1.ownBlock = some b ∧ W.heap.size ≤ b) (hu : Kd.R Kd.string 9 W base (fun b => some b ≠ v.ownBlock) u ys) : Kd.R Kd.string 9 w1 base (fun b => some b ≠ v1.ownBlock) u ys := by
  refine Kd.R_mono (Kd.R_grown (Kd.R_bound hu) hg (fun k hk => hk.1)) (fun k hk => ?_)
  rcases hat with h | ⟨b, h, hb⟩
  · rw [h]; exact hk.1
  · rw [h]; intro e; injection e with e; have := hk.2.2.1; omega
theorem new_step {w wr w1 : World} {f : Nat} {v v1 u : Value} {xs ys : List ByteArray} {cs : Array Value} {o : Obj} (hh : wr.heap[f]? = some (.cells cs 95 (0, 0))) (hv : Kd.R Kd.string 9 wr w.heap.size (fun b => some b ≠ u.ownBlock) v xs) (hu : Kd.R Kd.string 9 wr w.heap.size (fun b => some b ≠ v.ownBlock) u ys) (hg : (wr.alloc o).grownBy w1 v.ownBlock) (hat : v1.ownBlock = v.ownBlock ∨ ∃ b, v1.ownBlock = some b ∧ (wr.alloc o).heap.size ≤ b) :
    Kd.R Kd.string 9 w1 w.heap.size (fun b => some b ≠ v1.ownBlock) u ys ∧ w1.heap[f]? = some (.cells cs 95 (0, 0)) := by
  have hb := below_alloc (Below.refl wr.heap.size wr) o
  refine ⟨app_apart hg hat (Kd.R_below hu hb), ?_⟩
  have hf := (hb.block f (blk_lt hh)).trans hh
  exact (hg.block f (blk_lt hf) (Kd.R_ne (Kd.R_below hv hb) hf (show (9 : Nat) ≠ 95 by decide))).trans hf
set_option maxHeartbeats 4000000 in
set_option maxRecDepth 100000 in
theorem rnew_ok (s z : Nat) (h1 : 1 ≤ s) (h2 : s ≤ 65536) (h3 : 64 ≤ z) (h4 : z ≤ 1024) (w : World) : Calls Try.prog 37 #[.int .i64 (s : Int), .int .i64 (z : Int)] w fun e w' => ∃ f, e = .returned (.tuple #[.pointer (some ⟨f, 0, none⟩), .int .i64 0]) ∧ RAt w' (fun k => w.heap.size ≤ k) f (Dk.made s z) ∧ Below w.heap.size w w' := by
  have d1 : decide ((s : Int) < 1) = false := decide_eq_false (by omega)
  have d2 : decide (65536 < (s : Int)) = false := decide_eq_false (by omega)
  have d3 : decide ((z : Int) < 64) = false := decide_eq_false (by omega)
  have d4 : decide (1024 < (z : Int)) = false := decide_eq_false (by omega)
  have HN := Aside0.mk (And.intro h1 (And.intro h2 (And.intro h3 h4)))
  obtain ⟨W1, hW1⟩ : ∃ W, W = w.alloc (.cells #[.int .i64 (z : Int), .slice none 0 0, .slice none 0 0, .slice none 0 0, .int .i64 0, .int .i64 (-1), .bool false] 95) := ⟨_, rfl⟩
  obtain ⟨f, hf⟩ : ∃ f, f = w.heap.size := ⟨_, rfl⟩
  obtain ⟨Z, hZ⟩ : ∃ Z, Z = strOfNums (zeros z) := ⟨_, rfl⟩
  have hb1 : Below w.heap.size w W1 := by rw [hW1]; exact below_alloc (Below.refl _ _) _
  have hh1 : W1.heap[f]? = some (.cells #[.int .i64 (z : Int), .slice none 0 0, .slice none 0 0, .slice none 0 0, .int .i64 0, .int .i64 (-1), .bool false] 95 (0, 0)) := by rw [hW1, hf]; exact blk_new w _
  obtain ⟨o5, ho5⟩ : ∃ o, o = (Obj.cells ((zeros z).map (.int .u8)).toArray 5) := ⟨_, rfl⟩
  have hmk := make_bytes W1 z (by omega)
  rw [← ho5] at hmk
  have hb2 : Below W1.heap.size W1 (W1.alloc o5) := below_alloc (Below.refl _ _) _
  have hcv : (convert 33 9 (.slice (some ⟨W1.heap.size, 0, none⟩) z z)).run Try.prog (W1.alloc o5) = .ok (.string Z) (W1.alloc o5) := by
    have hbk : Blk (W1.alloc o5) W1.heap.size (zeros z) := by rw [ho5]; exact blk_new W1 _
    have hl : (zeros z).length = z := by rw [zeros, List.length_replicate]
    have h3' := blk_C hbk (by rw [hl]; omega) 0 z (by rw [hl]; omega)
    rw [List.drop_zero, List.take_of_length_le (by rw [hl]; exact Nat.le_refl _)] at h3'
    rw [hZ]; exact Kd.C_string (c := z) Try.underlying33 Try.underlying5 Try.underlying9 h3'
  have H2 : Aside0 (NewI w f z 0 (W1.alloc o5)) := ⟨⟨_, _, (hb2.block f (blk_lt hh1)).trans hh1, Kd.R_nil _ _ _ _ _, Kd.R_nil _ _ _ _ _, below_step hb1 hb2, by rw [hf]; exact Nat.le_refl _⟩⟩
  have HZ := Aside0.mk hZ; have HMK := Aside0.mk hmk; have HCV := Aside0.mk hcv; have HF := Aside0.mk hf; have HW1 := Aside0.mk hW1
  obtain ⟨cs, hcs, hmb⟩ := make_bools w s h2
  have HMB := Aside0.mk (And.intro hcs hmb)
  have hs1 : (1 : Int) ≤ (s : Int) := by omega
  clear h1 h2 h3 h4 hb1 hb2 hh1 ho5 hZ hmk hcv hcs hmb hf hW1
  go_enter Try.func37, Try.ntmps37
  go_upto_region 4 with (fail)
  rw [← HF.out, ← HW1.out]
  have hmk := HMK.out; have hcv := HCV.out
  obtain ⟨W2, hW2⟩ : ∃ W, W = W1.alloc o5 := ⟨_, rfl⟩
  go_wp2_with fail
  rw [← hW2] at H2 ⊢
  clear hW2 hmk hcv
  go_loopw [8] (fun i wr => ∃ k : Nat, k ≤ s ∧ i = .int .i64 (k : Int) ∧ Aside0 (NewI w f z k wr)) (fun i _ => s - (intOf i).toNat)
  case atStart => exact ⟨0, Nat.zero_le _, rfl, H2⟩
  case round =>
    obtain ⟨k, hk, rfl, HI⟩ := hrel
    have hs65 := HN.out.2.1
    by_cases hlt : k < s
    · obtain ⟨v1, v2, hh, hr1, hr2, hbw, hwf⟩ := HI.out
      have HH := Aside0.mk (And.intro hh (And.intro hr1 (And.intro hr2 (And.intro hbw hwf))))
      have hki : (k : Int) < (s : Int) := by omega
      have q1 := blk_cell hh 1
      simp only [List.getElem?_toArray, List.getElem?_cons_zero, List.getElem?_cons_succ] at q1
      have hfl := blk_lt hh
      have HB1 := Aside0.mk (below_alloc (Below.refl wr.heap.size wr) (.cells #[.string Z] 9))
      clear hh hr1 hr2 hbw hwf
      go_upto_region 9 with ((with_reducible refine gate_builtin (b := .append) (xs := #[.tmp 38, .tmp 40]) rfl ?_); at_builtin; go_loud (refine Kd.R_append_rows Kd.string (Rr := fun (x : ByteArray) (c : List Value) => c = [.string x]) (w0 := w) w.heap.size rfl (.tmp 38) (.tmp 40) 38 9 (.string ByteArray.empty) 16 rfl Try.underlying38 infoStr2 rfl (by decide) (by omega) v1 ((List.range k).map fun _ => strOfNums (zeros z)) [Z] (some ⟨wr.heap.size, 0, none⟩) 1 1 (fun b => some b ≠ (v2).ownBlock) (fun _ => False) rfl rfl (Kd.R_below HH.out.2.1 HB1.out) (one_str2 (blk_new wr (.cells #[.string Z] 9))) (fun _ _ h => h) (fun _ hk => hk.elim) (fun b hb e => by have h1 := own_lt (Kd.R_own HH.out.2.2.1).choose_spec b e.symm; have h2 := HB1.out.size; omega) (below_step HH.out.2.2.2.1 HB1.out) (below_step HH.out.2.2.2.1 HB1.out).size (by rw [List.length_map, List.length_range]; have := HN.out; omega) ?_; intro vn wn hr hb hg hat; have hst := new_step HH.out.1 HH.out.2.1 HH.out.2.2.1 hg hat; obtain ⟨A_, c_, hvn⟩ := Kd.R_slice hr; rw [List.length_append, List.length_map, List.length_range, List.length_singleton] at hvn; subst hvn; have HA := Aside0.mk (And.intro hr (And.intro hb hst)); clear hr hb hg hat hst; have p1 := blk_cell HA.out.2.2.2 1; have p2 := blk_cell HA.out.2.2.2 2; simp only [List.getElem?_toArray, List.getElem?_cons_zero, List.getElem?_cons_succ] at p1 p2; have f1 := blk_frozen HA.out.2.2.2 1; have f2 := blk_frozen HA.out.2.2.2 2))
      obtain ⟨va, hva⟩ : ∃ v, v = Value.slice A_ (k + 1) c_ := ⟨_, rfl⟩
      rw [← hva] at HA ⊢
      obtain ⟨W4, hW4⟩ : ∃ W, W = wn.setCell ⟨f, 1, none⟩ va := ⟨_, rfl⟩
      have hh4 : W4.heap[f]? = some (.cells #[.int .i64 (z : Int), va, v2, .slice none 0 0, .int .i64 0, .int .i64 (-1), .bool false] 95 (0, 0)) := by
        rw [hW4, blk_set HA.out.2.2.2]; simp
      have hra : Kd.R Kd.string 9 W4 w.heap.size (fun b => some b ≠ v2.ownBlock) va ((List.range (k + 1)).map fun _ => strOfNums (zeros z)) := by
        rw [hW4, List.range_succ, List.map_append]
        have := Kd.R_set HA.out.1 HA.out.2.2.2 (by decide) 1 va
        rw [HZ.out] at this
        exact this
      have hrb : Kd.R Kd.string 9 W4 w.heap.size (fun b => some b ≠ va.ownBlock) v2 ((List.range k).map fun _ => strOfNums (zeros z)) := by
        rw [hW4]
        exact Kd.R_set HA.out.2.2.1 HA.out.2.2.2 (by decide) 1 va
      have hbw4 : Below w.heap.size w W4 := by rw [hW4]; exact below_set HA.out.2.1 HH.out.2.2.2.2
      have HH4 := Aside0.mk (And.intro hh4 (And.intro hra (And.intro hrb hbw4)))
      have HB4 := Aside0.mk (below_alloc (Below.refl W4.heap.size W4) (.cells #[.string Z] 9))
      have q2 := blk_cell hh4 2
      simp only [List.getElem?_toArray, List.getElem?_cons_zero, List.getElem?_cons_succ] at q2
      rw [← hW4]
      clear hh4 hra hrb hbw4 p1 p2 f1 f2 q1 hW4 hva HA
      go_upto_region 7 with ((with_reducible refine gate_builtin (b := .append) (xs := #[.tmp 48, .tmp 50]) rfl ?_); at_builtin; go_loud (refine Kd.R_append_rows Kd.string (Rr := fun (x : ByteArray) (c : List Value) => c = [.string x]) (w0 := w) w.heap.size rfl (.tmp 48) (.tmp 50) 38 9 (.string ByteArray.empty) 16 rfl Try.underlying38 infoStr2 rfl (by decide) (by omega) v2 ((List.range k).map fun _ => strOfNums (zeros z)) [Z] (some ⟨W4.heap.size, 0, none⟩) 1 1 (fun b => some b ≠ (va).ownBlock) (fun _ => False) rfl rfl (Kd.R_below HH4.out.2.2.1 HB4.out) (one_str2 (blk_new W4 (.cells #[.string Z] 9))) (fun _ _ h => h) (fun _ hk => hk.elim) (fun b hb e => by have h1 := own_lt (Kd.R_own HH4.out.2.1).choose_spec b e.symm; have h2 := HB4.out.size; omega) (below_step HH4.out.2.2.2 HB4.out) (below_step HH4.out.2.2.2 HB4.out).size (by rw [List.length_map, List.length_range]; have := HN.out; omega) ?_; intro vn wn hr hb hg hat; have hst := new_step HH4.out.1 HH4.out.2.2.1 HH4.out.2.1 hg hat; obtain ⟨A_, c_, hvn⟩ := Kd.R_slice hr; rw [List.length_append, List.length_map, List.length_range, List.length_singleton] at hvn; subst hvn; have HE := Aside0.mk (And.intro hr (And.intro hb hst)); clear hr hb hg hat hst; have p1 := blk_cell HE.out.2.2.2 1; have p2 := blk_cell HE.out.2.2.2 2; simp only [List.getElem?_toArray, List.getElem?_cons_zero, List.getElem?_cons_succ] at p1 p2; have f1 := blk_frozen HE.out.2.2.2 1; have f2 := blk_frozen HE.out.2.2.2 2))
      obtain ⟨vb, hvb⟩ : ∃ v, v = Value.slice A_ (k + 1) c_ := ⟨_, rfl⟩
      rw [← hvb] at HE ⊢
      have HN5 : Aside0 (NewI w f z (k + 1) (wn.setCell ⟨f, 2, none⟩ vb)) := ⟨by
        refine ⟨va, vb, ?_, ?_, ?_, ?_, HH.out.2.2.2.2⟩
        · rw [blk_set HE.out.2.2.2]; simp
        · exact Kd.R_set HE.out.2.2.1 HE.out.2.2.2 (by decide) 2 vb
        · rw [List.range_succ, List.map_append]
          have := Kd.R_set HE.out.1 HE.out.2.2.2 (by decide) 2 vb
          rw [HZ.out] at this
          exact this
        · exact below_set HE.out.2.1 HH.out.2.2.2.2⟩
      clear hvb HE
      go_wp2_with fail
      go_roundw
      case rel => exact ⟨k + 1, by omega, by go_num, HN5⟩
      case measure => simp [intOf]; omega
    · have hks : k = s := by omega
      have hkf : ¬ ((k : Int) < (s : Int)) := by omega
      rw [hks] at HI
      clear hk hlt hks
      go_upto_region 10 with (fail)
      clear hkf
      obtain ⟨v1, v2, hh, hr1, hr2, hbw, hwf⟩ := HI.out
      have hN := HN.out
      obtain ⟨g1, cp1, rfl, hl1, hg1, hs1'⟩ := SR.of_R hr1 (by omega)
      obtain ⟨g2, cp2, rfl, hl2, hg2, hs2'⟩ := SR.of_R hr2 (by omega)
      have hne : g1 ≠ g2 := fun e => by
        have := hr1.1 g1 rfl
        simp only [Value.ownBlock] at this
        exact this (by rw [e])
      have hmb := HMB.out.2
      obtain ⟨W5, hW5⟩ : ∃ W, W = wr.alloc (.cells cs 4) := ⟨_, rfl⟩
      have hb5 : Below wr.heap.size wr W5 := by rw [hW5]; exact below_alloc (Below.refl _ _) _
      have hh5 := (hb5.block f (blk_lt hh)).trans hh
      have p3 := blk_cell hh5 3; have f3 := blk_frozen hh5 3
      simp only [List.getElem?_toArray, List.getElem?_cons_zero, List.getElem?_cons_succ] at p3
      have hu5 : UR W5 wr.heap.size s := ⟨cs, by rw [hW5]; exact blk_new wr _, HMB.out.1⟩
      have HW5 := Aside0.mk hW5
      rw [hW5] at p3 f3
      have hflt := blk_lt hh
      have HX := Aside0.mk (And.intro hh5 (And.intro hu5 (And.intro (hs1'.frm (S := fun _ => False) (Frm.of_below hb5) (fun h => h)) (And.intro (hs2'.frm (S := fun _ => False) (Frm.of_below hb5) (fun h => h)) (And.intro (below_step hbw hb5) (And.intro hwf (And.intro hflt (And.intro hne (And.intro hg1 (And.intro hg2 (And.intro hl1 hl2)))))))))))
      clear hW5 hb5 hh5 hu5 hh hr1 hr2 hs1' hs2' hbw hwf hflt hne hg1 hg2 hl1 hl2 hN hs1
      go_wp2_with fail
      go_ret2
      rw [← HW5.out]
      obtain ⟨hh5, hu5, hs1', hs2', hbw, hwf, hflt, hne, hg1, hg2, hl1, hl2⟩ := HX.out
      have hf6 : Frm (fun k => k = f) W5 (W5.setCell ⟨f, 3, none⟩ (.slice (some ⟨wr.heap.size, 0, none⟩) s s)) := Frm.cellD _ _ _ _
      have hne1 : g1 ≠ f := by
        rintro rfl
        obtain ⟨cu, hb, _⟩ := hs1'
        rw [hh5] at hb; simp only [Option.some.injEq, Obj.cells.injEq] at hb; exact absurd hb.2.1 (by decide)
      have hne2 : g2 ≠ f := by
        rintro rfl
        obtain ⟨cu, hb, _⟩ := hs2'
        rw [hh5] at hb; simp only [Option.some.injEq, Obj.cells.injEq] at hb; exact absurd hb.2.1 (by decide)
      have hwz : w.heap.size ≤ wr.heap.size := by omega
      refine ⟨f, rfl, ⟨g1, g2, wr.heap.size, cp1, cp2, s, ⟨?_, ?_, ?_, hu5.frm hf6 (by omega), hl1, hl2, Nat.le_refl _, hne⟩, hwf, hg1, hg2, hwz⟩, ?_⟩
      · rw [blk_set hh5]; rfl
      · exact hs1'.frm hf6 hne1
      · exact hs2'.frm hf6 hne2
      · exact below_set hbw hwf
theorem int_get {W : World} {A : Option Addr} {n : Nat} {xs : List Int} (h : Kd.C (Kd.int .i64) W A n xs) {i : Nat} (hi : i < xs.length) : ∃ ad, A = some ad ∧ W.cell? (ad.add i) = some (.int .i64 xs[i]) := by
  have hn := h.1
  obtain ⟨ad, cs, hA, hlen, hK, hcell⟩ := Kd.C_get h 0 (i : Int) (by omega) (by omega)
  rw [Int.toNat_natCast, List.getD_eq_getElem?_getD, List.getElem?_eq_getElem hi, Option.getD_some] at hK
  rw [Int.toNat_natCast] at hcell
  refine ⟨ad, hA, ?_⟩
  have := hcell 0 (.int .i64 xs[i]) (by rw [show cs = [.int .i64 xs[i]] from hK]; rfl)
  rwa [show i * (Kd.int .i64).sz + 0 = i from Nat.mul_one i] at this
def tkOf (size : Nat) (i : Nat) (l : List (Int × Int)) : Nat := match l.find? (fun t => t.1 == (i : Int)) with | some t => min t.2.toNat size | none => 0
theorem tkOf_cons (size i : Nat) (t : Int × Int) (l : List (Int × Int)) : tkOf size i (t :: l) = if t.1 = (i : Int) then min t.2.toNat size else tkOf size i l := by
  unfold tkOf
  rw [List.find?_cons]
  by_cases h : t.1 = (i : Int)
  · rw [if_pos h]; simp [h]
  · rw [if_neg h]; have : (t.1 == (i : Int)) = false := by simpa using h
    rw [this]
theorem keptOf_eq (keep : List Int) (torn : List (Int × Int)) (size i : Nat) : keptOf keep torn size i = if (i : Int) ∈ keep then size else tkOf size i torn := rfl
section
variable {W W' : World} {Y S : Nat → Prop} {f g1 g2 g3 c1 c2 c3 : Nat} {D : Dk}
theorem crash_sec (h : WfD D) (keep : List Int) (torn : List (Int × Int)) (n : Nat) : (D.crashed keep torn).sec n = (D.now n).take (keptOf keep torn D.size n) ++ (D.sec n).drop (keptOf keep torn D.size n) := by
  show (match D.fresh n with | some l => l.take (keptOf keep torn D.size n) ++ (D.sec n).drop (keptOf keep torn D.size n) | none => D.sec n) = _
  unfold Dk.now
  cases hf : D.fresh n with
  | none => exact (List.take_append_drop _ _).symm
  | some l => rfl
def mixF (D : Dk) (T : Nat → List Int) (i : Nat) : Nat → List Int := fun m => if m < i then T m else D.sec m
theorem mixF_lt {D : Dk} {T : Nat → List Int} {i m : Nat} (h : m < i) : mixF D T i m = T m := if_pos h
theorem mixF_ge {D : Dk} {T : Nat → List Int} {i m : Nat} (h : i ≤ m) : mixF D T i m = D.sec m := if_neg (by omega)
def CrI (W : World) (g2 n : Nat) (D : Dk) (T : Nat → List Int) (i : Nat) (wr : World) : Prop := Frm (fun k => k = g2) W wr ∧ SR wr g2 n (mixF D T i)
set_option maxHeartbeats 8000000 in
set_option maxRecDepth 100000 in
theorem rcrash_calls (hp : RParts W f g1 g2 g3 c1 c2 c3 D) (hwf : WfD D) (keep : List Int) (torn : List (Int × Int)) (A1 A2 : Option Addr) (k1 k2 : Nat) (hr1 : ∀ W', Kept W W' (fun k => k = g2) → Kd.C (Kd.int .i64) W' A1 keep.length keep) (hr2 : ∀ W', Kept W W' (fun k => k = g2) → KT.C W' A2 torn.length torn) (htb : ∀ t ∈ torn, -9223372036854775808 ≤ t.2 ∧ t.2 ≤ 9223372036854775807) :
    Calls Try.prog 42 #[.pointer (some ⟨f, 0, none⟩), .slice A1 keep.length k1, .slice A2 torn.length k2] W fun e w' => e = .returned (.tuple #[]) ∧ ∃ g1' g3' c1' c3', RParts w' f g1' g2 g3' c1' c2 c3' (D.crashed keep torn) ∧ W.heap.size ≤ g1' ∧ W.heap.size ≤ g3' ∧ Frm (fun k => k = f ∨ k = g2) W w' := by
  have HD := Aside0.mk hp; have HW := Aside0.mk hwf; have HR1 := Aside0.mk hr1; have HR2 := Aside0.mk hr2; have HTB := Aside0.mk htb
  have hlk : keep.length ≤ 9223372036854775807 := (hr1 W (Kept.refl _ _)).2.1
  have hlt0 : torn.length ≤ 9223372036854775807 := (hr2 W (Kept.refl _ _)).2.1
  obtain ⟨T, hT⟩ : ∃ T, T = (D.crashed keep torn).sec := ⟨_, rfl⟩
  have HT := Aside0.mk hT
  obtain ⟨n, hn⟩ : ∃ n, n = D.sectors := ⟨_, rfl⟩
  have HN := Aside0.mk (And.intro hn (And.intro hwf.b1 hwf.b2))
  have H0 : Aside0 (CrI W g2 n D T 0 W) := ⟨Frm.refl _ _, by
    have := hp.r2
    rw [← hn] at this
    obtain ⟨cu, hb, hc⟩ := this
    exact ⟨cu, hb, fun i hi => by rw [hc i hi, mixF_ge (Nat.zero_le _)]⟩⟩
  clear hp hwf hr1 hr2 htb hT hn
  go_enter Try.func42, Try.ntmps42
  go_wp2_with fail
  go_loopw [6] (fun s wr => ∃ i : Nat, i ≤ n ∧ s = .int .i64 (i : Int) ∧ Aside0 (CrI W g2 n D T i wr)) (fun s _ => n - (intOf s).toNat)
  case atStart => exact ⟨0, Nat.zero_le _, rfl, H0⟩
  case round =>
    obtain ⟨i, hi, rfl, HI⟩ := hrel
    have hn65 : n ≤ 65536 := by have := HN.out; omega
    obtain ⟨t1, t2, t3, t4, t5⟩ := HD.out.ty
    have hhd := HI.out.1.blk HD.out.hd t2
    rw [← HN.out.1] at hhd
    have HHD := Aside0.mk hhd
    have x0 := blk_cell hhd 0; have x1 := blk_cell hhd 1; have x2 := blk_cell hhd 2
    simp only [List.getElem?_toArray, List.getElem?_cons_zero, List.getElem?_cons_succ] at x0 x1 x2
    clear hhd t1 t2 t3 t4 t5
    by_cases hlt : i < n
    · have hii : (i : Int) < (n : Int) := by omega
      have hs1 : SR wr g1 n D.now := by
        have := HD.out.r1.frm HI.out.1 (fun e => HD.out.ne e)
        rwa [← HN.out.1] at this
      obtain ⟨s1, _⟩ := hs1.cell hlt
      obtain ⟨s2, s2f⟩ := HI.out.2.cell hlt
      rw [mixF_ge (Nat.le_refl _)] at s2
      rw [add_plain] at s1 s2 s2f
      have HS := Aside0.mk (And.intro hs1 (And.intro s2 s2f))
      clear s2f hs1
      by_cases heq : D.now i = D.sec i
      · have hbq : ((strOfNums (D.now i)).toList == (strOfNums (D.sec i)).toList) = true := by rw [heq]; simp
        have HE := Aside0.mk heq
        clear heq
        go_wp2_with fail
        go_quiet (fail)
        go_wp2_with fail
        go_roundw
        case rel =>
          refine ⟨i + 1, by omega, by go_num, ⟨HI.out.1.step (by repeat (first | exact Below.refl _ _ | apply below_drew | apply pw_below_drewN)), ?_⟩⟩
          obtain ⟨cu, hb, hc⟩ := HI.out.2
          refine ⟨cu, by first | exact hb | exact hb, fun m hm => ?_⟩
          have h1 := hc m hm
          by_cases hmi : m = i
          · subst hmi
            rw [mixF_ge (Nat.le_refl _)] at h1
            rw [mixF_lt (by omega), HT.out, crash_sec HW.out, HE.out, List.take_append_drop]; exact h1
          · by_cases hm2 : m < i
            · rw [mixF_lt hm2] at h1; rw [mixF_lt (by omega)]; exact h1
            · rw [mixF_ge (by omega)] at h1; rw [mixF_ge (by omega)]; exact h1
        case measure => simp [intOf]; omega
      · have hwfi := HN.out.1
        have hbq : ((strOfNums (D.now i)).toList == (strOfNums (D.sec i)).toList) = false := by
          rw [strOf_inj_ _ _ (HW.out.now i (by omega)).2 (HW.out.sec i (by omega)).2]; exact decide_eq_false heq
        have hwl : IntKind.i64.wrap ((torn.length : Int) - 1) = (torn.length : Int) - 1 := IntWalk.i64_in _ (by omega)
        clear heq hwfi
        go_wp2_with fail
        go_quiet (fail)
        go_wp2_with fail
        have HDr : Aside0 (Drawn0 wr (wr.drewN nq)) := ⟨⟨nq, rfl⟩⟩
        have HX := Aside0.mk (And.intro x0 (And.intro x1 (And.intro x2 (And.intro s1 s2))))
        clear x0 x1 x2 s1 s2 hbq
        go_loopw [7, 8] (fun sk sj w2 => ∃ j : Nat, j ≤ torn.length ∧ sj = .int .i64 ((j : Int) - 1) ∧ sk = .int .i64 ((tkOf D.size i (torn.drop j) : Nat) : Int) ∧ Aside0 (Drawn0 wr w2)) (fun _ sj _ => (intOf sj + 1).toNat)
        case atStart => exact ⟨torn.length, Nat.le_refl _, rfl, by rw [List.drop_length]; rfl, HDr⟩
        case round =>
          obtain ⟨j, hj, rfl, rfl, HD2⟩ := hrel
          by_cases hj0 : j = 0
          case neg =>
            obtain ⟨m, rfl⟩ : ∃ m, j = m + 1 := ⟨j - 1, by omega⟩
            have em : (((m + 1 : Nat) : Int) - 1) = (m : Int) := by omega
            rw [em]
            have hmt : m < torn.length := by omega
            obtain ⟨ad, rfl, q0, q1⟩ := torn_get (HR2.out _ (HI.out.1.kept.below HD2.out.below)) hmt
            have htm := HTB.out _ (List.getElem_mem hmt)
            have hdr : torn.drop m = torn[m] :: torn.drop (m + 1) := List.drop_eq_getElem_cons hmt
            obtain ⟨y, hy⟩ : ∃ y, y = torn[m] := ⟨_, rfl⟩
            rw [← hy] at q0 q1 htm hdr
            obtain ⟨ya, yb⟩ := y
            simp only at q0 q1 htm
            have hwm : IntKind.i64.wrap ((m : Int) - 1) = (m : Int) - 1 := IntWalk.i64_in _ (by omega)
            have hm0 : (0 : Int) ≤ (m : Int) := by omega
            have z0 := pw_cell_below HD2.out.below HX.out.1
            have HDQ := Aside0.mk hdr
            have HTM := Aside0.mk htm
            have hmti : (m : Int) < (torn.length : Int) := by omega
            clear hy hdr htm
            by_cases hya : ya = (i : Int)
            · have hyq : (ya == (i : Int)) = true := by simpa using hya
              have HYA := Aside0.mk hya
              clear hya
              go_upto_region 9 with (fail)
              have HNX : Aside0 (tkOf D.size i (torn.drop m) = min yb.toNat D.size) := ⟨by rw [HDQ.out, tkOf_cons, if_pos HYA.out]⟩
              have hsz4 := HW.out.b4; have hsz3 := HW.out.b3
              have d3 : decide ((0 : Int) < (D.size : Int)) = true := decide_eq_true (by omega)
              have e3 : (0 : Int) < (D.size : Int) := by omega
              by_cases hA : 0 < yb
              case neg =>
                have h1 : ¬ ((D.size : Int) < yb) := by omega
                have h2 : ¬ (0 < yb) := by omega
                have d1 : decide ((D.size : Int) < yb) = false := decide_eq_false h1
                have d2 : decide (0 < yb) = false := decide_eq_false h2
                have HVV : Aside0 (Value.int .i64 (0) = .int .i64 ((tkOf D.size i (torn.drop m) : Nat) : Int)) := ⟨by rw [HNX.out, Value.int.injEq]; exact ⟨rfl, by omega⟩⟩
                go_wp2_with fail
                go_region
                go_wp2_with fail
                go_roundw
                case rel => exact ⟨m, by omega, by go_num, HVV.out, ⟨by repeat (first | exact HD2.out | apply Drawn0.step)⟩⟩
                case measure => (simp [intOf]; try omega)
              by_cases hB : (D.size : Int) < yb
              case neg =>
                have h1 : ¬ ((D.size : Int) < yb) := by omega
                have h2 : 0 < yb := by omega
                have d1 : decide ((D.size : Int) < yb) = false := decide_eq_false h1
                have d2 : decide (0 < yb) = true := decide_eq_true h2
                have HVV : Aside0 (Value.int .i64 (yb) = .int .i64 ((tkOf D.size i (torn.drop m) : Nat) : Int)) := ⟨by rw [HNX.out, Value.int.injEq]; exact ⟨rfl, by omega⟩⟩
                go_wp2_with fail
                go_region
                go_wp2_with fail
                go_roundw
                case rel => exact ⟨m, by omega, by go_num, HVV.out, ⟨by repeat (first | exact HD2.out | apply Drawn0.step)⟩⟩
                case measure => (simp [intOf]; try omega)
              have h1 : (D.size : Int) < yb := by omega
              have h2 : 0 < yb := by omega
              have d1 : decide ((D.size : Int) < yb) = true := decide_eq_true h1
              have d2 : decide (0 < yb) = true := decide_eq_true h2
              have HVV : Aside0 (Value.int .i64 ((D.size : Int)) = .int .i64 ((tkOf D.size i (torn.drop m) : Nat) : Int)) := ⟨by rw [HNX.out, Value.int.injEq]; exact ⟨rfl, by omega⟩⟩
              go_wp2_with fail
              go_region
              go_wp2_with fail
              go_roundw
              case rel => exact ⟨m, by omega, by go_num, HVV.out, ⟨by repeat (first | exact HD2.out | apply Drawn0.step)⟩⟩
              case measure => (simp [intOf]; try omega)
            · have hyq : (ya == (i : Int)) = false := by simpa using hya
              have HNX : Aside0 (tkOf D.size i (torn.drop (m + 1)) = tkOf D.size i (torn.drop m)) := ⟨by rw [HDQ.out, tkOf_cons, if_neg hya]⟩
              clear hya
              rw [HNX.out]
              go_wp2_with fail
              go_roundw
              case rel => exact ⟨m, by omega, by go_num, rfl, HD2⟩
              case measure => (simp [intOf]; try omega)
          case pos =>
            subst hj0
            have em : (((0 : Nat) : Int) - 1) = -1 := by decide
            rw [em, List.drop_zero]
            obtain ⟨K0, hK0⟩ : ∃ K, K = tkOf D.size i torn := ⟨_, rfl⟩
            have HK0 := Aside0.mk hK0
            rw [← hK0]
            have eK : Value.int .i64 (K0 : Int) = .int .i64 ((if (i : Int) ∈ keep.take 0 then D.size else K0 : Nat) : Int) := by simp
            have HEK := Aside0.mk eK
            clear hK0 em eK
            go_wp2_with fail
            have HDa := HD2
            have HI1 := Aside0.mk (HI.out.1.kept.below HD2.out.below)
            go_loopw [7, 9] (fun sk s9 w3 => ∃ q : Nat, q ≤ keep.length ∧ s9 = .int .i64 (q : Int) ∧ sk = .int .i64 ((if (i : Int) ∈ keep.take q then D.size else K0 : Nat) : Int) ∧ Aside0 (Drawn0 wr w3)) (fun _ s9 _ => keep.length - (intOf s9).toNat)
            case atStart => exact ⟨0, Nat.zero_le _, rfl, HEK.out, ⟨Drawn0.refl _⟩⟩
            case round =>
              obtain ⟨q, hq, rfl, rfl, HD3⟩ := hrel
              by_cases hql : q < keep.length
              · obtain ⟨ad, rfl, q0⟩ := int_get (HR1.out _ (HI1.out.below HD3.out.below)) hql
                have hqi : (q : Int) < (keep.length : Int) := by omega
                have HTK : Aside0 (keep.take (q + 1) = keep.take q ++ [keep[q]]) := ⟨List.take_succ_eq_append_getElem hql⟩
                have z0 := pw_cell_below HD3.out.below (pw_cell_below HDa.out.below HX.out.1)
                obtain ⟨y, hy⟩ : ∃ y, y = keep[q] := ⟨_, rfl⟩
                rw [← hy] at q0 HTK
                clear hy
                by_cases hyi : y = (i : Int)
                · have hyq : (y == (i : Int)) = true := by simpa using hyi
                  have HVV : Aside0 (Value.int .i64 (D.size : Int) = .int .i64 ((if (i : Int) ∈ keep.take (q + 1) then D.size else K0 : Nat) : Int)) := ⟨by rw [HTK.out, if_pos (by rw [hyi]; simp)]⟩
                  clear hyi
                  go_wp2_with fail
                  go_roundw
                  case rel => exact ⟨q + 1, by omega, by go_num, HVV.out, ⟨by repeat (first | exact HD3.out | apply Drawn0.step)⟩⟩
                  case measure => (simp [intOf]; try omega)
                · have hyq : (y == (i : Int)) = false := by simpa using hyi
                  have HVV : Aside0 ((if (i : Int) ∈ keep.take q then D.size else K0 : Nat) = (if (i : Int) ∈ keep.take (q + 1) then D.size else K0 : Nat)) := ⟨by
                    rw [HTK.out]
                    by_cases hm : (i : Int) ∈ keep.take q
                    · rw [if_pos hm, if_pos (List.mem_append_left _ hm)]
                    · rw [if_neg hm, if_neg]
                      intro hx
                      rcases List.mem_append.1 hx with hx | hx
                      · exact hm hx
                      · exact hyi (List.mem_singleton.1 hx).symm⟩
                  clear hyi
                  obtain ⟨KV, hKV⟩ : ∃ K : Nat, K = (if (i : Int) ∈ keep.take q then D.size else K0 : Nat) := ⟨_, rfl⟩
                  rw [← hKV] at HVV ⊢
                  go_wp2_with fail
                  go_roundw
                  case rel => exact ⟨q + 1, by omega, by go_num, by rw [HVV.out], ⟨by repeat (first | exact HD3.out | apply Drawn0.step)⟩⟩
                  case measure => (simp [intOf]; try omega)
              · have hqe : q = keep.length := by omega
                have hqd : decide ((q : Int) < (keep.length : Int)) = false := decide_eq_false (by omega)
                obtain ⟨K, hK⟩ : ∃ K : Nat, K = (if (i : Int) ∈ keep.take q then D.size else K0 : Nat) := ⟨_, rfl⟩
                rw [← hK]
                have HKK : Aside0 (K = keptOf keep torn D.size i ∧ K ≤ D.size) := ⟨by
                  have e : K = keptOf keep torn D.size i := by rw [hK, keptOf_eq, hqe, List.take_length, HK0.out]
                  exact ⟨e, by rw [e]; exact keptOf_le _ _ _ _⟩⟩
                clear hK hqe
                go_upto_region 15 with (fail)
                have hbo := HDa.out.below
                have hbi := HD3.out.below
                have sr1 : SR wr g1 n D.now := (HS.out.1.frm (S := fun _ => False) (Frm.of_below hbo) (fun h => h)).frm (S := fun _ => False) (Frm.of_below hbi) (fun h => h)
                have sr2 : SR wr g2 n (mixF D T i) := (HI.out.2.frm (S := fun _ => False) (Frm.of_below hbo) (fun h => h)).frm (S := fun _ => False) (Frm.of_below hbi) (fun h => h)
                obtain ⟨s1, _⟩ := sr1.cell hlt
                obtain ⟨s2, s2f⟩ := sr2.cell hlt
                rw [mixF_ge (Nat.le_refl _)] at s2
                rw [add_plain] at s1 s2 s2f
                have z0 := pw_cell_below hbi (pw_cell_below hbo HX.out.1)
                have z1 := pw_cell_below hbi (pw_cell_below hbo HX.out.2.1)
                have z2 := pw_cell_below hbi (pw_cell_below hbo HX.out.2.2.1)
                have hln : (D.now i).length = D.size := (HW.out.now i (by rw [← HN.out.1]; exact hlt)).1
                have hls : (D.sec i).length = D.size := (HW.out.sec i (by rw [← HN.out.1]; exact hlt)).1
                have hKs := HKK.out.2
                have hb4 := HW.out.b4
                have hst := fun W => slice_to (D.now i) K (by rw [hln]; exact hKs) W
                have hsf := fun W => slice_from (D.sec i) K (by rw [hls]; exact hKs) W
                have hadd : ¬ (9223372036854775807 < (strOfNums ((D.now i).take K)).size + (strOfNums ((D.sec i).drop K)).size) := by
                  rw [strNums_size, strNums_size, List.length_take, List.length_drop]; omega
                have hii2 : (i : Int) < (n : Int) := by omega
                have HSR := Aside0.mk (And.intro sr2 (And.intro hbo hbi))
                clear sr1 sr2 hbo hbi hqd
                go_region
                go_wp2_with fail
                go_roundw
                case rel =>
                  refine ⟨i + 1, by omega, by go_num, ⟨?_, ?_⟩⟩
                  · exact Frm.drew (Frm.set (S := fun k => k = g2) ((HI.out.1.step HSR.out.2.1).step HSR.out.2.2) (p := ⟨g2, i, none⟩) (.inl rfl) _)
                  · have hs := HSR.out.1.set hlt ((D.now i).take K ++ (D.sec i).drop K)
                    rw [strNums_append] at hs
                    have hfe : (fun m => if m = i then (D.now i).take K ++ (D.sec i).drop K else mixF D T i m) = mixF D T (i + 1) := by
                      funext m
                      by_cases hm : m = i
                      · rw [if_pos hm, hm, mixF_lt (by omega), HT.out, crash_sec HW.out, ← HKK.out.1]
                      · rw [if_neg hm]
                        by_cases hm2 : m < i
                        · rw [mixF_lt hm2, mixF_lt (by omega)]
                        · rw [mixF_ge (by omega), mixF_ge (by omega)]
                    rw [hfe] at hs
                    obtain ⟨cu, hb, hc⟩ := hs
                    exact ⟨cu, hb, hc⟩
                case measure => (simp [intOf]; try omega)
    · have hie : i = n := by omega
      have hif : ¬ ((i : Int) < (n : Int)) := by omega
      have hn1 : 1 ≤ n := by have := HN.out; omega
      have sr2 : SR wr g2 n T := by
        obtain ⟨cu, hb, hc⟩ := HI.out.2
        exact ⟨cu, hb, fun m hm => by rw [hc m hm, mixF_lt (by omega)]⟩
      have HB2 := Aside0.mk (below_alloc (Below.refl wr.heap.size wr) (.cells #[] 9))
      have HC2 : Aside0 (Kd.C Kd.string (wr.alloc (.cells #[] 9)) (some ⟨g2, 0, none⟩) n ((List.range n).map fun i => strOfNums (T i))) := ⟨Kd.C_below (sr2.C hn65) HB2.out⟩
      have HSR := Aside0.mk sr2
      have yy2 := pw_cell_below HB2.out x2
      obtain ⟨cs, hcs, hmk⟩ := make_bools wr n hn65
      have HCS := Aside0.mk (And.intro hcs (And.intro hn1 hn65))
      have HFR := HI.out.1
      have HI1 := Aside0.mk HFR
      clear hi hlt hie sr2 hcs HFR HI
      go_upto_region 17 with ((with_reducible refine gate_builtin (b := .append) (xs := #[.tmp 101, .tmp 105]) rfl ?_); at_builtin; go_loud (refine Kd.R_append_rows Kd.string (Rr := fun (x : ByteArray) (c : List Value) => c = [.string x]) (w0 := wr) wr.heap.size rfl (.tmp 101) (.tmp 105) 38 9 (.string ByteArray.empty) 16 rfl Try.underlying38 infoStr2 rfl (by decide) (by omega) (.slice (some ⟨wr.heap.size, 0, none⟩) 0 0) [] ((List.range n).map fun i => strOfNums (T i)) (some ⟨g2, 0, none⟩) n c2 (fun _ => True) (fun _ => False) rfl rfl (empty_RS (blk_new wr _) (Nat.le_refl _)) HC2.out (fun _ _ h => h) (fun _ hk => hk.elim) (fun _ _ => trivial) HB2.out HB2.out.size (by show (0 + n) * 16 ≤ 140737488355328; omega) ?_; intro v2 w2 hr hb hg hat; rw [List.nil_append] at hr; obtain ⟨g1', cp2, rfl, hcp2, hg2', hs2'⟩ := SR.of_R hr (by omega); have HS2 := Aside0.mk hs2'; have HG2 := Aside0.mk (And.intro hcp2 hg2'); have HB3 := Aside0.mk hb; have HH2 := Aside0.mk ((hb.block f (blk_lt HHD.out)).trans HHD.out); have zz1 := blk_cell HH2.out 1; simp only [List.getElem?_toArray, List.getElem?_cons_zero, List.getElem?_cons_succ] at zz1; have f1 := blk_frozen HH2.out 1; clear hr hb hg hat hcp2 hg2' hs2'))
      obtain ⟨W3, hW3⟩ : ∃ W, W = w2.setCell ⟨f, 1, none⟩ (.slice (some ⟨g1', 0, none⟩) n cp2) := ⟨_, rfl⟩
      have hf3 : Frm (fun k => k = f) w2 W3 := by rw [hW3]; exact Frm.cellD _ _ _ _
      have hh3 : W3.heap[f]? = some (.cells #[.int .i64 (D.size : Int), .slice (some ⟨g1', 0, none⟩) n cp2, .slice (some ⟨g2, 0, none⟩) n c2, .slice (some ⟨g3, 0, none⟩) n c3, .int .i64 D.ops, .int .i64 D.left, .bool D.dead] 95 (0, 0)) := by
        rw [hW3, blk_set HH2.out]; simp
      obtain ⟨W4, hW4⟩ : ∃ W, W = W3.alloc (.cells cs 4) := ⟨_, rfl⟩
      have hb4 : Below W3.heap.size W3 W4 := by rw [hW4]; exact below_alloc (Below.refl _ _) _
      have hh4 := (hb4.block f (blk_lt hh3)).trans hh3
      have q1 := blk_cell hh3 1; have q3 := blk_cell hh4 3; have k3 := blk_frozen hh4 3; have q5 := blk_cell hh4 5; have k5 := blk_frozen hh4 5; have q6 := blk_cell hh4 6; have k6 := blk_frozen hh4 6
      simp only [List.getElem?_toArray, List.getElem?_cons_zero, List.getElem?_cons_succ] at q1 q3 q5 q6
      have hu4 : UR W4 W3.heap.size n := ⟨cs, by rw [hW4]; exact blk_new W3 _, HCS.out.1⟩
      have HW4 := Aside0.mk hW4
      rw [hW4] at q3 k3 q5 k5 q6 k6
      have HF3 := Aside0.mk hf3; have HH4 := Aside0.mk hh4; have HU4 := Aside0.mk hu4; have HB4 := Aside0.mk hb4
      rw [← hW3]
      clear hf3 hh3 hh4 hu4 hb4 hW3 zz1 f1 yy2 x0 x1 x2 hn1 hW4 hif
      go_wp2_with fail
      first | go_end0 | ((try simp only [Exit.inBlock, Exit.then]); refine bodyPost_ret (results_none rfl _ _ _) rfl ?_)
      rw [← HW4.out]
      obtain ⟨t1, t2, t3, t4, t5⟩ := HD.out.ty
      have hf5 : Frm (fun k => k = f) W4 (((W4.setCell ⟨f, 3, none⟩ (.slice (some ⟨W3.heap.size, 0, none⟩) n n)).setCell ⟨f, 6, none⟩ (.bool false)).setCell ⟨f, 5, none⟩ (.int .i64 (-1))) := ((Frm.cellD _ _ _ _).setD _ _).setD _ _
      have hs1 : W.heap.size ≤ wr.heap.size := HI1.out.size
      have hw2 : wr.heap.size ≤ w2.heap.size := HB3.out.size
      have hw3 : w2.heap.size ≤ W3.heap.size := HF3.out.size
      have h1f : f < wr.heap.size := blk_lt HHD.out
      have h2g : g2 < wr.heap.size := HSR.out.lt
      have hg2b : wr.heap.size ≤ g1' := HG2.out.2
      have hg2l := HS2.out.lt
      have hnD := HN.out.1
      have hTc : ∀ m, (D.crashed keep torn).sec m = T m := fun m => by rw [HT.out]
      have hTn : ∀ m, (D.crashed keep torn).now m = T m := fun m => by rw [HT.out]; rfl
      refine ⟨rfl, g1', W3.heap.size, cp2, n, ⟨?_, ?_, ?_, ?_, ?_, ?_, ?_, by omega⟩, by omega, by omega, ?_⟩
      · show _ = some (Obj.cells #[.int .i64 (D.size : Int), .slice (some ⟨g1', 0, none⟩) D.sectors cp2, .slice (some ⟨g2, 0, none⟩) D.sectors c2, .slice (some ⟨W3.heap.size, 0, none⟩) D.sectors n, .int .i64 D.ops, .int .i64 (-1), .bool false] 95 (0, 0))
        rw [← hnD, blk_set (blk_set (blk_set HH4.out _ _) _ _)]; simp
      · show SR _ g1' D.sectors _
        rw [← hnD]
        have hr2 := ((HS2.out.frm HF3.out (by omega)).frm (S := fun _ => False) (Frm.of_below HB4.out) (fun h => h)).frm hf5 (by omega)
        obtain ⟨cu, hb, hc⟩ := hr2
        exact ⟨cu, hb, fun m hm => by rw [hc m hm, hTn]⟩
      · show SR _ g2 D.sectors _
        rw [← hnD]
        have hr2 := (((HSR.out.frm (S := fun _ => False) (Frm.of_below HB3.out) (fun h => h)).frm HF3.out (fun e => t2 e.symm)).frm (S := fun _ => False) (Frm.of_below HB4.out) (fun h => h)).frm hf5 (fun e => t2 e.symm)
        obtain ⟨cu, hb, hc⟩ := hr2
        exact ⟨cu, hb, fun m hm => by rw [hc m hm, hTc]⟩
      · show UR _ _ D.sectors
        rw [← hnD]; exact HU4.out.frm hf5 (by omega)
      · show D.sectors ≤ cp2; rw [← hnD]; exact HG2.out.1
      · exact HD.out.l2
      · show D.sectors ≤ n; omega
      · refine ((((HI1.out.mono (S' := fun k => k = f ∨ k = g2) fun k hk => .inr hk).step HB3.out).then_ HF3.out (fun k hk => .inl (.inl hk))).step HB4.out).then_ hf5 (fun k hk => .inl (.inl hk))
end
end Go.Proofs.YteimienhaodfcaaK
/- A disk and the reference's, side by side, with nothing of the metas (PagePlays). -/
namespace Go.Proofs.YteimienhaodfcaaK
open Go.RowKit Go.Proofs.YteimienhaodfcaaW.PrintWords Go.Proofs.YteimienhaodfcaaW.PrintLast Go.Proofs.YteimienhaodfcaaW.PrintMore Go.Crc
open Go.ChangeMaps (setBlock)
attribute [local go_sem] max2_int min2_int max_two min_two
set_option linter.unusedVariables false
set_option linter.unusedSimpArgs false
variable {w w' : World} {X X' S : Nat → Prop} {d sb mb clock : Nat} {es : Array MapEntry} {safe : List Int} {D : Dk}
set_option maxHeartbeats 400000 in
theorem rroom_calls (s : Int) (w : World) : Calls Try.prog 80 #[.int .i64 s] w fun e w' => e = .returned (.int .i64 (room s)) ∧ Drawn0 w w' := by
  go_enter Try.func80, Try.ntmps80
  by_cases h1 : s < 64
  · have d1 : decide (s < 64) = true := decide_eq_true h1
    go_wp2
    go_ret
    exact ⟨by rw [room, if_pos (.inl h1)]; rfl, by repeat (first | exact Drawn0.refl _ | apply Drawn0.step)⟩
  · have d1 : decide (s < 64) = false := decide_eq_false h1
    by_cases h2 : 8192 < s
    · have d2 : decide (8192 < s) = true := decide_eq_true h2
      go_wp2
      go_ret
      exact ⟨by rw [room, if_pos (.inr h2)]; rfl, by repeat (first | exact Drawn0.refl _ | apply Drawn0.step)⟩
    · have d2 : decide (8192 < s) = false := decide_eq_false h2
      have hw : wrap64 (s - 11) = s - 11 := wrapOk (by omega) (by omega)
      go_wp2
      go_ret
      exact ⟨by rw [room, if_neg (by omega)]; try simp [hw], by repeat (first | exact Drawn0.refl _ | apply Drawn0.step)⟩
section
variable {W W' : World} {Y S : Nat → Prop} {f g1 g2 g3 c1 c2 c3 : Nat} {D : Dk}
set_option maxHeartbeats 1000000 in
theorem rcount_calls (h : RParts W f g1 g2 g3 c1 c2 c3 D) (hwf : WfD D) (per : Int) : Calls Try.prog 48 #[.pointer (some ⟨f, 0, none⟩), .int .i64 per] W (CountPost D per W) := by
  obtain ⟨x0, x1, x2, x3, x4, x5, x6⟩ := h.cells
  have hb3 := hwf.b3; have hb4 := hwf.b4; have hb1 := hwf.b1; have hb2 := hwf.b2
  have HD := Aside0.mk h
  clear h x2 x3 x4 x5 x6
  by_cases h1 : per < 1
  · have d1 : decide (per < 1) = true := decide_eq_true h1
    go_enter Try.func48, Try.ntmps48
    go_wp2_with fail
    go_ret
    exact ⟨by rw [countD, if_pos (.inl h1)]; rfl, Below.refl _ _⟩
  have d1 : decide (per < 1) = false := decide_eq_false h1
  by_cases h2 : 8192 < per
  · have d2 : decide (8192 < per) = true := decide_eq_true h2
    go_enter Try.func48, Try.ntmps48
    go_wp2_with fail
    go_ret
    exact ⟨by rw [countD, if_pos (.inr (.inl h2))]; rfl, Below.refl _ _⟩
  have d2 : decide (8192 < per) = false := decide_eq_false h2
  have hp : 0 ≤ per * (D.size : Int) ∧ per * (D.size : Int) ≤ 8192 * 1024 := ⟨Int.mul_nonneg (by omega) (by omega), Int.mul_le_mul (by omega) (by omega) (by omega) (by omega)⟩
  have hw : IntKind.i64.wrap (per * (D.size : Int)) = per * (D.size : Int) := IntWalk.i64_in _ (by omega)
  have hw2 : wrap64 (per * (D.size : Int)) = per * (D.size : Int) := by unfold wrap64; omega
  go_enter Try.func48, Try.ntmps48
  go_wp2_with fail
  refine (rroom_calls _ _).mono ?_
  rintro e w2 ⟨rfl, hd2⟩
  have HB2 := Aside0.mk hd2.below
  have y1 := pw_cell_below hd2.below x1
  clear hd2
  by_cases h3 : room (per * (D.size : Int)) = 0
  · have d3 : (room (per * (D.size : Int)) == 0) = true := by simpa using h3
    have H3 := Aside0.mk h3
    clear h3
    go_wp2_with fail
    go_ret
    exact ⟨by rw [countD, if_pos (.inr (.inr H3.out))]; rfl, HB2.out⟩
  have d3 : (room (per * (D.size : Int)) == 0) = false := by simpa using h3
  have H3 := Aside0.mk h3
  clear h3
  have hq := Int.ediv_le_self per (show (0 : Int) ≤ (D.sectors : Int) by omega)
  have hq0 : 0 ≤ (D.sectors : Int) / per := Int.ediv_nonneg (by omega) (by omega)
  have e0 : Aside0 (countD D per = if 16384 < (D.sectors : Int) / per then 16384 else (D.sectors : Int) / per) := ⟨by
    rw [countD, if_neg (fun h => h.elim (fun h => by omega) (fun h => h.elim (fun h => by omega) H3.out))]⟩
  by_cases h4 : 16384 < (D.sectors : Int) / per
  · have d4 : decide (16384 < (D.sectors : Int) / per) = true := decide_eq_true h4
    go_wp2_with fail
    go_ret
    exact ⟨by rw [e0.out, if_pos h4]; rfl, HB2.out⟩
  · have d4 : decide (16384 < (D.sectors : Int) / per) = false := decide_eq_false h4
    have H4 := Aside0.mk h4
    go_wp2_with fail
    go_ret
    exact ⟨by rw [e0.out, if_neg (by have := H4.out; omega)]; rfl, HB2.out⟩
theorem RAt.rwrite (h : RAt W Y f D) (hwf : WfD D) (n : Int) (p : List Int) (hp : p.length ≤ 140737488351232) : Calls Try.prog 39 #[.pointer (some ⟨f, 0, none⟩), .int .i64 n, .string (strOfNums p)] W fun e w' => e = .returned (.int .i64 (D.writeE n p)) ∧ RNxt W Y w' f (D.written n p) := by
  obtain ⟨g1, g2, g3, c1, c2, c3, hq, y0, y1, y2, y3⟩ := h
  refine (rwrite_calls hq hwf n p hp).mono ?_
  rintro e w' ⟨he, h1, h2⟩
  exact ⟨he, Y, ⟨g1, g2, g3, c1, c2, c3, h1, y0, y1, y2, y3⟩, fun k hk => .inl hk, h2.mono fun k hk => by rcases hk with rfl | rfl | rfl <;> assumption⟩
theorem RNxt.from (hb : Below W.heap.size W W') {w2 : World} {D' : Dk} (h : RNxt W' Y w2 f D') : RNxt W Y w2 f D' := by
  obtain ⟨Y', h1, h2, h3⟩ := h
  exact ⟨Y', h1, fun k hk => (h2 k hk).imp id (fun h => Nat.le_trans hb.size h), (Frm.of_below hb).then_ h3 fun k hk => .inl hk⟩
theorem RAt.rnxt_same (h : RAt W Y f D) (hb : Below W.heap.size W W') : RNxt W Y W' f D := ⟨Y, h.below hb, fun k hk => .inl hk, Frm.of_below hb⟩
end
set_option maxHeartbeats 1000000 in
theorem rnew_bad (s z : Int) (h : ¬ newOk s z) (w : World) : Calls Try.prog 37 #[.int .i64 s, .int .i64 z] w fun e w' => e = .returned (.tuple #[.pointer none, .int .i64 2]) ∧ Drawn0 w w' := by
  by_cases h1 : s < 1
  · have d1 : decide (s < 1) = true := decide_eq_true h1
    clear h
    go_enter Try.func37, Try.ntmps37
    go_wp2_with fail
    go_ret2
    exact ⟨rfl, by repeat (first | exact Drawn0.refl _ | apply Drawn0.step)⟩
  have d1 : decide (s < 1) = false := decide_eq_false h1
  by_cases h2 : 65536 < s
  · have d2 : decide (65536 < s) = true := decide_eq_true h2
    clear h
    go_enter Try.func37, Try.ntmps37
    go_wp2_with fail
    go_ret2
    exact ⟨rfl, by repeat (first | exact Drawn0.refl _ | apply Drawn0.step)⟩
  have d2 : decide (65536 < s) = false := decide_eq_false h2
  by_cases h3 : z < 64
  · have d3 : decide (z < 64) = true := decide_eq_true h3
    clear h
    go_enter Try.func37, Try.ntmps37
    go_wp2_with fail
    go_ret2
    exact ⟨rfl, by repeat (first | exact Drawn0.refl _ | apply Drawn0.step)⟩
  have d3 : decide (z < 64) = false := decide_eq_false h3
  have d4 : decide (1024 < z) = true := decide_eq_true (by unfold newOk at h; omega)
  clear h
  go_enter Try.func37, Try.ntmps37
  go_wp2_with fail
  go_ret2
  exact ⟨rfl, by repeat (first | exact Drawn0.refl _ | apply Drawn0.step)⟩
theorem wf_of (w : World) {X : Nat → Prop} {d sb mb clock : Nat} {es : Array MapEntry} {safe : List Int} {D : Dk} (h : DParts w X d sb mb es clock safe D) : WfD D := by
  have hsec : ∀ n, n < D.sectors → (D.sec n).length = D.size ∧ Bytes (D.sec n) := fun n hn => by
    rw [← h.sec n hn]
    have hl := h.len
    have h1 : (n + 1) * D.size ≤ D.sectors * D.size := Nat.mul_le_mul_right _ hn
    rw [Nat.add_mul, Nat.one_mul] at h1
    refine ⟨by unfold secOf; rw [List.length_take, List.length_drop]; omega, fun x hx => h.byt x (List.mem_of_mem_drop (List.mem_of_mem_take hx))⟩
  refine ⟨h.b1, h.b2, h.b3, h.b4, fun n hn => ?_, hsec, h.lb⟩
  unfold Dk.now
  cases hf : D.fresh n with
  | none => exact hsec n hn
  | some l =>
    obtain ⟨x, _, b, he⟩ := h.fresh_some hf
    exact ⟨he.len, he.byt⟩
/-- A disk and the reference's, side by side. -/
structure PR (w W : World) (X Y : Nat → Prop) (d f : Nat) (DR DF : Dk) : Prop where
  lx : LX w W X d DR
  ra : RAt W Y f DF
  dis : ∀ k, Y k → ¬ X k
  ylo : ∀ k, Y k → w.heap.size ≤ k
  yhi : ∀ k, Y k → k < W.heap.size
/-- A block beside both. -/
def Own (W : World) (X Y : Nat → Prop) (g : Nat) (o : Obj) : Prop := ¬ X g ∧ ¬ Y g ∧ W.heap[g]? = some o
section
variable {w W W' : World} {X Y : Nat → Prop} {d f g : Nat} {DR DF D' : Dk} {o : Obj}
theorem PR.wf (h : PR w W X Y d f DR DF) : WfD DR := by obtain ⟨sb, mb, es, clock, safe, hp⟩ := h.lx.at_; exact wf_of _ hp
theorem PR.step (h : PR w W X Y d f DR DF) (hb : Below W.heap.size W W') : PR w W' X Y d f DR DF := ⟨h.lx.step hb, h.ra.below hb, h.dis, h.ylo, fun k hk => Nat.lt_of_lt_of_le (h.yhi k hk) hb.size⟩
theorem Own.step (h : Own W X Y g o) (hb : Below W.heap.size W W') : Own W' X Y g o := ⟨h.1, h.2.1, (hb.block g (blk_lt h.2.2)).trans h.2.2⟩
theorem PR.real (h : PR w W X Y d f DR DF) (hn : Nxt w W X W' d D') : ∃ X', PR w W' X' Y d f D' DF ∧ ∀ g o, Own W X Y g o → Own W' X' Y g o := by
  obtain ⟨X', h1, h2, h3⟩ := hn
  refine ⟨X', ⟨h1, h.ra.frm h3 h.dis, fun k hk hx => (h2 k hx).elim (h.dis k hk) (fun hs => by have := h.yhi k hk; omega), h.ylo, fun k hk => Nat.lt_of_lt_of_le (h.yhi k hk) h3.size⟩, fun g o ho => ⟨fun hx => (h2 g hx).elim ho.1 (fun hs => by have := blk_lt ho.2.2; omega), ho.2.1, h3.blk ho.2.2 ho.1⟩⟩
theorem RAt.bound (h : RAt W Y f D') : RAt W (fun k => Y k ∧ k < W.heap.size) f D' := by
  obtain ⟨g1, g2, g3, c1, c2, c3, hp, y0, y1, y2, y3⟩ := h
  exact ⟨g1, g2, g3, c1, c2, c3, hp, ⟨y0, blk_lt hp.hd⟩, ⟨y1, hp.r1.lt⟩, ⟨y2, hp.r2.lt⟩, ⟨y3, hp.r3.lt⟩⟩
theorem PR.ref (h : PR w W X Y d f DR DF) (hn : RNxt W Y W' f D') : ∃ Y', PR w W' X Y' d f DR D' ∧ ∀ g o, Own W X Y g o → Own W' X Y' g o := by
  obtain ⟨Y', h1, h2, h3⟩ := hn
  have hlx : LX w W' X d DR := ⟨h.lx.at_.frm h3 (fun k hx hy => h.dis k hy hx), h.lx.bel.trans (h3.below (fun k hk => h.ylo k hk) h.lx.bel.size), h.lx.lo, fun k hk => Nat.lt_of_lt_of_le (h.lx.hi k hk) h3.size⟩
  refine ⟨fun k => Y' k ∧ k < W'.heap.size, ⟨hlx, h1.bound, fun k hk hx => (h2 k hk.1).elim (fun hy => h.dis k hy hx) (fun hs => by have := h.lx.hi k hx; omega), fun k hk => (h2 k hk.1).elim (h.ylo k) (fun hs => Nat.le_trans h.lx.bel.size hs), fun k hk => hk.2⟩, fun g o ho => ⟨ho.1, fun hy => (h2 g hy.1).elim ho.2.1 (fun hs => by have := blk_lt ho.2.2; omega), h3.blk ho.2.2 ho.2.1⟩⟩
theorem PR.new (h : PR w W X Y d f DR DF) (o : Obj) : Own (W.alloc o) X Y W.heap.size o → True := fun _ => trivial
theorem PR.own (h : PR w W X Y d f DR DF) (cs : Array Value) (t : Nat) : Own (W.alloc (.cells cs t)) X Y W.heap.size (.cells cs t (0, 0)) :=
  ⟨fun hx => by have := h.lx.hi _ hx; omega, fun hy => by have := h.yhi _ hy; omega, blk_new W _⟩
theorem RAt.rarm (h : RAt W Y f DF) (n : Int) : Calls Try.prog 41 #[.pointer (some ⟨f, 0, none⟩), .int .i64 n] W fun e w' => e = .returned (.tuple #[]) ∧ RNxt W Y w' f (DF.armed n) := by
  obtain ⟨g1, g2, g3, c1, c2, c3, hq, y0, y1, y2, y3⟩ := h
  refine (rarm_calls hq n).mono ?_
  rintro e w' ⟨he, h1, h2⟩
  exact ⟨he, Y, ⟨g1, g2, g3, c1, c2, c3, h1, y0, y1, y2, y3⟩, fun k hk => .inl hk, h2.mono fun k hk => by rw [hk]; exact y0⟩
theorem RAt.rcrash (h : RAt W Y f DF) (hwf : WfD DF) (keep : List Int) (torn : List (Int × Int)) (A1 A2 : Option Addr) (k1 k2 : Nat) (hr1 : ∀ W', Kept W W' Y → Kd.C (Kd.int .i64) W' A1 keep.length keep) (hr2 : ∀ W', Kept W W' Y → KT.C W' A2 torn.length torn) (htb : ∀ t ∈ torn, -9223372036854775808 ≤ t.2 ∧ t.2 ≤ 9223372036854775807) :
    Calls Try.prog 42 #[.pointer (some ⟨f, 0, none⟩), .slice A1 keep.length k1, .slice A2 torn.length k2] W fun e w' => e = .returned (.tuple #[]) ∧ RNxt W Y w' f (DF.crashed keep torn) := by
  obtain ⟨g1, g2, g3, c1, c2, c3, hq, y0, y1, y2, y3⟩ := h
  refine (rcrash_calls hq hwf keep torn A1 A2 k1 k2 (fun W' hk => hr1 W' (hk.mono fun k hk => by rw [hk]; exact y2)) (fun W' hk => hr2 W' (hk.mono fun k hk => by rw [hk]; exact y2)) htb).mono ?_
  rintro e w' ⟨he, g1', g3', c1', c3', h1, h2, h3, h4⟩
  exact ⟨he, fun k => Y k ∨ W.heap.size ≤ k, ⟨g1', g2, g3', c1', c2, c3', h1, .inl y0, .inr h2, .inl y2, .inr h3⟩, fun k hk => hk, h4.mono fun k hk => by rcases hk with rfl | rfl <;> assumption⟩
end
section
variable {W W' : World} {Y S : Nat → Prop} {f g1 g2 g3 c1 c2 c3 : Nat} {D : Dk}
theorem WfD.written {D : Dk} (h : WfD D) (n : Int) (p : List Int) (hp : Bytes p) : WfD (D.written n p) := by
  have hbg : WfD D.begun := by
    unfold Dk.begun
    split
    · exact ⟨h.b1, h.b2, h.b3, h.b4, h.now, h.sec, h.lb⟩
    · refine ⟨h.b1, h.b2, h.b3, h.b4, h.now, h.sec, ?_⟩
      have hl := h.lb
      show -9223372036854775808 ≤ (if 0 < D.left then D.left - 1 else D.left) ∧ (if 0 < D.left then D.left - 1 else D.left) ≤ 9223372036854775807
      split <;> omega
  unfold Dk.written
  by_cases h1 : D.has n = false
  · rw [if_pos h1]; exact h
  rw [if_neg h1]
  by_cases h2 : D.size < p.length
  · rw [if_pos h2]; exact h
  rw [if_neg h2]
  by_cases h3 : D.beginE = 0
  · rw [if_pos h3]
    refine ⟨hbg.b1, hbg.b2, hbg.b3, hbg.b4, fun m hm => ?_, hbg.sec, hbg.lb⟩
    rw [now_written]
    show (if m = n.toNat then p ++ zeros (D.size - p.length) else D.begun.now m).length = D.begun.size ∧ _
    by_cases e : m = n.toNat
    · rw [if_pos e, D.begun_size]
      refine ⟨by rw [List.length_append, zeros, List.length_replicate]; omega, fun x hx => ?_⟩
      rcases List.mem_append.1 (show x ∈ p ++ zeros (D.size - p.length) by simpa [e] using hx) with hx | hx
      · exact hp x hx
      · rw [List.eq_of_mem_replicate hx]; decide
    · have := hbg.now m hm
      simp only [if_neg e]
      exact this
  · rw [if_neg h3]; exact hbg
set_option maxHeartbeats 1000000 in
theorem rcountQ_calls (h : RParts W f g1 g2 g3 c1 c2 c3 D) (hwf : WfD D) (per : Int) : Calls Try.prog 48 #[.pointer (some ⟨f, 0, none⟩), .int .i64 per] W fun e w' => e = .returned (.int .i64 (countD D per)) ∧ Drawn0 W w' := by
  obtain ⟨x0, x1, x2, x3, x4, x5, x6⟩ := h.cells
  have hb3 := hwf.b3; have hb4 := hwf.b4; have hb1 := hwf.b1; have hb2 := hwf.b2
  have HD := Aside0.mk h
  clear h x2 x3 x4 x5 x6
  by_cases h1 : per < 1
  · have d1 : decide (per < 1) = true := decide_eq_true h1
    go_enter Try.func48, Try.ntmps48
    go_wp2_with fail
    go_ret
    exact ⟨by rw [countD, if_pos (.inl h1)]; rfl, Drawn0.refl _⟩
  have d1 : decide (per < 1) = false := decide_eq_false h1
  by_cases h2 : 8192 < per
  · have d2 : decide (8192 < per) = true := decide_eq_true h2
    go_enter Try.func48, Try.ntmps48
    go_wp2_with fail
    go_ret
    exact ⟨by rw [countD, if_pos (.inr (.inl h2))]; rfl, Drawn0.refl _⟩
  have d2 : decide (8192 < per) = false := decide_eq_false h2
  have hp : 0 ≤ per * (D.size : Int) ∧ per * (D.size : Int) ≤ 8192 * 1024 := ⟨Int.mul_nonneg (by omega) (by omega), Int.mul_le_mul (by omega) (by omega) (by omega) (by omega)⟩
  have hw : IntKind.i64.wrap (per * (D.size : Int)) = per * (D.size : Int) := IntWalk.i64_in _ (by omega)
  have hw2 : wrap64 (per * (D.size : Int)) = per * (D.size : Int) := by unfold wrap64; omega
  go_enter Try.func48, Try.ntmps48
  go_wp2_with fail
  refine (rroom_calls _ _).mono ?_
  rintro e w2 ⟨rfl, hd2⟩
  have HB2 := Aside0.mk hd2
  have y1 := pw_cell_below hd2.below x1
  clear hd2
  by_cases h3 : room (per * (D.size : Int)) = 0
  · have d3 : (room (per * (D.size : Int)) == 0) = true := by simpa using h3
    have H3 := Aside0.mk h3
    clear h3
    go_wp2_with fail
    go_ret
    exact ⟨by rw [countD, if_pos (.inr (.inr H3.out))]; rfl, HB2.out⟩
  have d3 : (room (per * (D.size : Int)) == 0) = false := by simpa using h3
  have H3 := Aside0.mk h3
  clear h3
  have hq := Int.ediv_le_self per (show (0 : Int) ≤ (D.sectors : Int) by omega)
  have hq0 : 0 ≤ (D.sectors : Int) / per := Int.ediv_nonneg (by omega) (by omega)
  have e0 : Aside0 (countD D per = if 16384 < (D.sectors : Int) / per then 16384 else (D.sectors : Int) / per) := ⟨by
    rw [countD, if_neg (fun h => h.elim (fun h => by omega) (fun h => h.elim (fun h => by omega) H3.out))]⟩
  by_cases h4 : 16384 < (D.sectors : Int) / per
  · have d4 : decide (16384 < (D.sectors : Int) / per) = true := decide_eq_true h4
    go_wp2_with fail
    go_ret
    exact ⟨by rw [e0.out, if_pos h4]; rfl, HB2.out⟩
  · have d4 : decide (16384 < (D.sectors : Int) / per) = false := decide_eq_false h4
    have H4 := Aside0.mk h4
    go_wp2_with fail
    go_ret
    exact ⟨by rw [e0.out, if_neg (by have := H4.out; omega)]; rfl, HB2.out⟩
end
end Go.Proofs.YteimienhaodfcaaK
