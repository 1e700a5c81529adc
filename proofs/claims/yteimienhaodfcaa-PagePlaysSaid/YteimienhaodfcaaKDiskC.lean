/- The disk's functions, walked: New, Read; what settle does, told. -/
import Derived.Test.YteimienhaodfcaaKDiskB
import Derived.Test.YteimienhaodfcaaKClone
import Derived.Deep.QuietTactic
import Derived.BigQuiet
import Derived.Lib.AppendZerosOnto
import Derived.Lib.SliceRun
import Derived.Lib.Walk
namespace Go.Proofs.YteimienhaodfcaaK
open Go.RowKit Go.Proofs.YteimienhaodfcaaW.PrintWords Go.Proofs.YteimienhaodfcaaW.PrintLast Go.Proofs.YteimienhaodfcaaW.PrintMore Go.Crc
open Go.ChangeMaps (setBlock)
attribute [local go_sem] max2_int min2_int max_two min_two
set_option linter.unusedVariables false
set_option linter.unusedSimpArgs false
variable {w w' : World} {X X' S : Nat → Prop} {d sb mb clock : Nat} {es : Array MapEntry} {safe : List Int} {D : Dk}
def Dk.made (s z : Nat) : Dk := ⟨s, z, fun _ => zeros z, fun _ => none, 0, -1, false⟩
def newOk (s z : Int) : Prop := 1 ≤ s ∧ s ≤ 65536 ∧ 64 ≤ z ∧ z ≤ 1024
theorem secOf_zeros (s z n : Nat) (h : n < s) : secOf (zeros (s * z)) z n = zeros z := by
  have h1 : (n + 1) * z ≤ s * z := Nat.mul_le_mul_right _ h
  rw [Nat.add_mul, Nat.one_mul] at h1
  unfold secOf zeros
  rw [List.drop_replicate, List.take_replicate]
  congr 1; omega
set_option maxHeartbeats 1000000 in
set_option maxRecDepth 100000 in
theorem new_no (s z : Int) (h : ¬ newOk s z) (w : World) : Calls Try.prog 16 #[.int .i64 s, .int .i64 z] w fun e w' => e = .returned (.tuple #[.pointer none, .int .i64 2]) ∧ Below w.heap.size w w' := by
  have hh := h
  unfold newOk at hh
  by_cases h1 : s < 1
  · have d1 : decide (s < 1) = true := decide_eq_true h1
    go_enter Try.func16, Try.ntmps16
    go_wp2
    go_ret2
    exact ⟨rfl, Below.refl _ _⟩
  have d1 : decide (s < 1) = false := decide_eq_false h1
  by_cases h2 : 65536 < s
  · have d2 : decide (65536 < s) = true := decide_eq_true h2
    go_enter Try.func16, Try.ntmps16
    go_wp2
    go_ret2
    exact ⟨rfl, Below.refl _ _⟩
  have d2 : decide (65536 < s) = false := decide_eq_false h2
  by_cases h3 : z < 64
  · have d3 : decide (z < 64) = true := decide_eq_true h3
    go_enter Try.func16, Try.ntmps16
    go_wp2
    go_ret2
    exact ⟨rfl, Below.refl _ _⟩
  have d3 : decide (z < 64) = false := decide_eq_false h3
  have h4 : 1024 < z := by omega
  have d4 : decide (1024 < z) = true := decide_eq_true h4
  go_enter Try.func16, Try.ntmps16
  go_wp2
  go_ret2
  exact ⟨rfl, Below.refl _ _⟩
set_option maxHeartbeats 1000000 in
set_option maxRecDepth 100000 in
theorem new_ok (s z : Nat) (h1 : 1 ≤ s) (h2 : s ≤ 65536) (h3 : 64 ≤ z) (h4 : z ≤ 1024) (w : World) : Calls Try.prog 16 #[.int .i64 (s : Int), .int .i64 (z : Int)] w fun e w' => ∃ d, e = .returned (.tuple #[.pointer (some ⟨d, 0, none⟩), .int .i64 0]) ∧ DAt w' (fun k => w.heap.size ≤ k) d (Dk.made s z) ∧ Below w.heap.size w w' := by
  have hm : s * z ≤ 65536 * 1024 := Nat.mul_le_mul h2 h4
  have e1 : (s : Int) * (z : Int) = ((s * z : Nat) : Int) := by simp
  have hmk : ∀ W : World, (Instr.makeSlice 33 (.int .i64 ((s : Int) * (z : Int))) (.int .i64 ((s : Int) * (z : Int)))).run Try.prog W = .ok (.slice (some ⟨W.heap.size, 0, none⟩) (s * z) (s * z)) (W.alloc (.cells ((zeros (s * z)).map (.int .u8)).toArray 5)) := fun W => by
    rw [e1]; exact make_bytes W (s * z) (by omega)
  have w1 : wrap64 ((s : Int) * (z : Int)) = (s : Int) * (z : Int) := by rw [e1]; unfold wrap64; omega
  have hw : IntKind.i64.wrap ((s : Int) * (z : Int)) = (s : Int) * (z : Int) := IntWalk.i64_in _ (by rw [e1]; omega)
  have hmm := @run_makeMap Try.prog
  clear e1
  go_enter Try.func16, Try.ntmps16
  go_wp2
  go_ret2
  obtain ⟨o1, ho1⟩ : ∃ o, o = Obj.cells ((zeros (s * z)).map (Value.int .u8)).toArray 5 := ⟨_, rfl⟩
  rw [← ho1]
  have b1 : (((w.alloc o1).alloc (.map #[] 0)).alloc (.cells #[.int .i64 (s : Int), .int .i64 (z : Int), .slice (some ⟨w.heap.size, 0, none⟩) (s * z) (s * z), .map (some (w.heap.size + 1)), .int .i64 0, .int .i64 (-1), .bool false] 100)).heap[w.heap.size]? = some o1 := blk_alloc (blk_alloc (blk_new w _) _) _
  have b2 : (((w.alloc o1).alloc (.map #[] 0)).alloc (.cells #[.int .i64 (s : Int), .int .i64 (z : Int), .slice (some ⟨w.heap.size, 0, none⟩) (s * z) (s * z), .map (some (w.heap.size + 1)), .int .i64 0, .int .i64 (-1), .bool false] 100)).heap[w.heap.size + 1]? = some (.map #[] 0) := by
    have := blk_alloc (blk_new (w.alloc o1) (.map #[] 0)) (.cells #[.int .i64 (s : Int), .int .i64 (z : Int), .slice (some ⟨w.heap.size, 0, none⟩) (s * z) (s * z), .map (some (w.heap.size + 1)), .int .i64 0, .int .i64 (-1), .bool false] 100)
    rwa [World.size_alloc] at this
  have b3 : (((w.alloc o1).alloc (.map #[] 0)).alloc (.cells #[.int .i64 (s : Int), .int .i64 (z : Int), .slice (some ⟨w.heap.size, 0, none⟩) (s * z) (s * z), .map (some (w.heap.size + 1)), .int .i64 0, .int .i64 (-1), .bool false] 100)).heap[w.heap.size + 1 + 1]? = some (.cells #[.int .i64 (s : Int), .int .i64 (z : Int), .slice (some ⟨w.heap.size, 0, none⟩) (s * z) (s * z), .map (some (w.heap.size + 1)), .int .i64 0, .int .i64 (-1), .bool false] 100) := by
    have := blk_new ((w.alloc o1).alloc (.map #[] 0)) (.cells #[.int .i64 (s : Int), .int .i64 (z : Int), .slice (some ⟨w.heap.size, 0, none⟩) (s * z) (s * z), .map (some (w.heap.size + 1)), .int .i64 0, .int .i64 (-1), .bool false] 100)
    rwa [World.size_alloc, World.size_alloc] at this
  refine ⟨_, rfl, ⟨w.heap.size, w.heap.size + 1, #[], 0, zeros (s * z), ⟨b3, by rw [Blk, b1, ho1], b2, by simp [zeros, Dk.made], fun n hn => secOf_zeros s z n hn, zeros_bytes _, MapKept.stamped_empty 0, fun e he => by simp at he, fun n l h => by simp [Dk.made] at h, by omega, Nat.le_refl _, by omega, h1, h2, h3, h4, by simp [Dk.made], by omega⟩⟩, below_alloc (below_alloc (below_alloc (Below.refl _ _) _) _) _⟩
namespace Dk
def readE (D : Dk) (n : Int) : Int := if D.has n = false then 2 else if D.dead = true then 20 else 0
def readB (D : Dk) (n : Int) : List Int := if D.readE n = 0 then D.now n.toNat else []
end Dk
theorem blk_C {g : Nat} {l : List Int} (hb : Blk w g l) (hl : l.length ≤ 9223372036854775807) (o n : Nat) (hn : o + n ≤ l.length) : Kd.C (Kd.int .u8) w (some ⟨g, o, none⟩) n ((l.drop o).take n) := blk_reads hb .u8 l rfl hl o n hn
theorem safe_sec (h : DParts w X d sb mb es clock safe D) {n : Nat} (hn : n < D.sectors) : Kd.C (Kd.int .u8) w (some ⟨sb, n * D.size, none⟩) D.size (D.sec n) := by
  obtain ⟨hb1, hb2⟩ := sector_bounds h hn
  have hl := h.len
  have := blk_C h.hs (by omega) (n * D.size) D.size (by omega)
  rwa [show (safe.drop (n * D.size)).take D.size = D.sec n from h.sec n hn] at this
theorem sec_len (h : DParts w X d sb mb es clock safe D) {n : Nat} (hn : n < D.sectors) : (D.sec n).length = D.size := by
  have := (safe_sec h hn).1; exact this
theorem now_len (h : DParts w X d sb mb es clock safe D) {n : Nat} (hn : n < D.sectors) : (D.now n).length = D.size := by
  unfold Dk.now
  cases hf : D.fresh n with
  | none => exact sec_len h hn
  | some l =>
    obtain ⟨x, _, b, he⟩ := h.fresh_some hf
    exact he.len
theorem clone_n (A : Option Addr) (n c : Nat) (l : List Int) (w : World) (hr : Kd.C (Kd.int .u8) w A n l) (hl : n < 140737488355328) :
    Calls Try.prog 62 #[.slice A n c] w fun e w' => ∃ v0_ : Value, e = .returned v0_ ∧ Kd.R (Kd.int .u8) 5 w' w.heap.size (fun _ => True) v0_ l ∧ Below w.heap.size w w' := by
  have h1 : l.length = n := hr.1
  subst h1
  exact Cl.clone_calls A c l w hr hl
set_option maxHeartbeats 1000000 in
set_option maxRecDepth 100000 in
theorem read_calls (h : DParts w X d sb mb es clock safe D) (n : Int) : Calls Try.prog 21 #[.pointer (some ⟨d, 0, none⟩), .int .i64 n] w fun e w' => ∃ v, e = .returned (.tuple #[v, .int .i64 (D.readE n)]) ∧ Kd.R (Kd.int .u8) 5 w' w.heap.size (fun _ => True) v (D.readB n) ∧ Below w.heap.size w w' := by
  have HD := Aside0.mk h
  clear h
  go_enter Try.func21, Try.ntmps21
  go_wp2_with fail
  refine (has_calls HD.out n).mono ?_
  rintro e w1 ⟨rfl, hd1⟩
  have HB1 := Aside0.mk hd1.below
  clear hd1
  cases hh : D.has n with
  | false =>
    go_wp2_with fail
    go_ret2
    have e1 : D.readE n = 2 := by simp [Dk.readE, hh]
    refine ⟨_, by rw [e1]; rfl, ?_, HB1.out⟩
    rw [show D.readB n = [] by simp [Dk.readB, e1]]
    exact Kd.R_nil _ _ _ _ _
  | true =>
    have HH := Aside0.mk hh
    clear hh
    have HD1 := Aside0.mk (HD.out.frm (S := fun _ => False) (Frm.of_below HB1.out) (fun _ _ h => h))
    obtain ⟨c0, k1, k2, k3, k4, k5, k6⟩ := HD1.out.cells
    cases hdd : D.dead with
    | true =>
      have HE := Aside0.mk hdd
      rw [hdd] at k6
      clear hdd
      go_wp2_with fail
      go_ret2
      have e1 : D.readE n = 20 := by simp [Dk.readE, HH.out, HE.out]
      refine ⟨_, by rw [e1]; rfl, ?_, HB1.out⟩
      rw [show D.readB n = [] by simp [Dk.readB, e1]]
      exact Kd.R_nil _ _ _ _ _
    | false =>
      have HE := Aside0.mk hdd
      rw [hdd] at k6
      clear hdd
      obtain ⟨m, hm⟩ : ∃ m : Nat, n = m := ⟨n.toNat, by have := HH.out; simp [Dk.has] at this; omega⟩
      subst hm
      have hmlt : m < D.sectors := by have := HH.out; simp [Dk.has] at this; exact this
      have e1 : Aside0 (D.readE (m : Int) = 0) := ⟨by simp [Dk.readE, HH.out, HE.out]⟩
      have hb4 := HD1.out.b4
      cases hf : D.fresh m with
      | some l =>
        obtain ⟨x, hx, b, he⟩ := HD1.out.fresh_some hf
        have hlk := map_look (P := Try.prog) (t := 98) Try.underlying98 Try.underlying3 HD1.out.hm HD1.out.st HD1.out.keys hx he.key
        rw [he.val] at hlk
        have hC : Kd.C (Kd.int .u8) w1 (some ⟨b, 0, none⟩) D.size l := by
          have := blk_C he.blk (by rw [he.len]; omega) 0 D.size (by rw [he.len]; omega)
          rwa [List.drop_zero, List.take_of_length_le (by rw [he.len]; omega)] at this
        have HF := Aside0.mk (And.intro hf he.len)
        have HC := Aside0.mk hC
        clear hf he hC
        go_wp2_with fail
        refine (clone_n (some ⟨b, 0, none⟩) D.size D.size l w1 HC.out (by omega)).mono ?_
        rintro e w2 ⟨v2, rfl, hr2, hb2⟩
        have H2 := Aside0.mk (And.intro hr2 hb2)
        clear hr2 hb2
        go_wp2_with fail
        go_ret2
        refine ⟨_, by rw [e1.out]; rfl, ?_, below_step HB1.out H2.out.2⟩
        rw [show D.readB (m : Int) = l by simp [Dk.readB, e1.out, Dk.now, HF.out.1]]
        exact Kd.R_lower H2.out.1 HB1.out.size
      | none =>
        have hz : (zeroValue 33).run Try.prog w1 = .ok (.slice none 0 0) w1 := by kernel_rfl
        have hlk := map_look_none (P := Try.prog) (t := 98) Try.underlying98 Try.underlying3 HD1.out.hm HD1.out.keys hz (HD1.out.fresh_none hf)
        have HF := Aside0.mk hf
        clear hf hz
        go_wp2_with fail
        refine (at_calls HD1.out m hmlt).mono ?_
        rintro e w2 ⟨rfl, hd2⟩
        have HC := Aside0.mk (Kd.C_below (safe_sec HD1.out hmlt) hd2.below); have HB2 := Aside0.mk hd2.below
        clear hd2 hlk
        go_wp2_with fail
        refine (clone_n (some ⟨sb, m * D.size, none⟩) D.size _ (D.sec m) w2 HC.out (by omega)).mono ?_
        rintro e w3 ⟨v2, rfl, hr2, hb2⟩
        have H2 := Aside0.mk (And.intro hr2 hb2)
        clear hr2 hb2
        go_wp2_with fail
        go_ret2
        refine ⟨_, by rw [e1.out]; rfl, ?_, below_step HB1.out (below_step HB2.out H2.out.2)⟩
        rw [show D.readB (m : Int) = D.sec m by simp [Dk.readB, e1.out, Dk.now, HF.out]]
        exact Kd.R_lower H2.out.1 (Nat.le_trans HB1.out.size HB2.out.size)
theorem secOf_len {safe : List Int} {size sectors n : Nat} (hlen : safe.length = sectors * size) (hn : n < sectors) : (secOf safe size n).length = size := by
  have h1 : (n + 1) * size ≤ sectors * size := Nat.mul_le_mul_right _ hn
  rw [Nat.add_mul, Nat.one_mul] at h1
  unfold secOf; rw [List.length_take, List.length_drop]; omega
theorem secOf_get {safe : List Int} {size n i : Nat} (hi : i < size) : (secOf safe size n)[i]? = safe[n * size + i]? := by
  unfold secOf; rw [List.getElem?_take, if_pos hi, List.getElem?_drop]
def wrS (safe L : List Int) (o : Nat) : List Int := safe.take o ++ (L ++ safe.drop (o + L.length))
theorem wrS_get (safe L : List Int) (o i : Nat) (h : o + L.length ≤ safe.length) : (wrS safe L o)[i]? = if i < o then safe[i]? else if i < o + L.length then L[i - o]? else safe[i]? := by
  unfold wrS
  have h0 : (safe.take o).length = o := by rw [List.length_take]; omega
  by_cases h1 : i < o
  · rw [if_pos h1, List.getElem?_append_left (by omega), List.getElem?_take, if_pos h1]
  · rw [if_neg h1, List.getElem?_append_right (by omega), h0]
    by_cases h2 : i < o + L.length
    · rw [if_pos h2, List.getElem?_append_left (by omega)]
    · rw [if_neg h2, List.getElem?_append_right (by omega), List.getElem?_drop]
      congr 1; omega
theorem wrS_len (safe L : List Int) (o : Nat) (h : o + L.length ≤ safe.length) : (wrS safe L o).length = safe.length := by
  unfold wrS; rw [List.length_append, List.length_append, List.length_take, List.length_drop]; omega
theorem secOf_same {safe L : List Int} {size sectors n : Nat} (hlen : safe.length = sectors * size) (hn : n < sectors) (hL : L.length ≤ size) : secOf (wrS safe L (n * size)) size n = L ++ (secOf safe size n).drop L.length := by
  have h1 : (n + 1) * size ≤ sectors * size := Nat.mul_le_mul_right _ hn
  rw [Nat.add_mul, Nat.one_mul] at h1
  have hs := secOf_len hlen hn
  apply List.ext_getElem?
  intro i
  by_cases hi : i < size
  · rw [secOf_get hi, wrS_get _ _ _ _ (by omega), if_neg (by omega)]
    by_cases h2 : i < L.length
    · rw [if_pos (by omega), List.getElem?_append_left h2]; congr 1; omega
    · rw [if_neg (by omega), List.getElem?_append_right (by omega), List.getElem?_drop, secOf_get (by omega)]; congr 1; omega
  · rw [List.getElem?_eq_none (by unfold secOf; rw [List.length_take]; omega), List.getElem?_eq_none (by rw [List.length_append, List.length_drop]; omega)]
theorem secOf_other {safe L : List Int} {size sectors n m : Nat} (hlen : safe.length = sectors * size) (hn : n < sectors) (hL : L.length ≤ size) (hm : m ≠ n) : secOf (wrS safe L (n * size)) size m = secOf safe size m := by
  have h1 : (n + 1) * size ≤ sectors * size := Nat.mul_le_mul_right _ hn
  rw [Nat.add_mul, Nat.one_mul] at h1
  have h2 : m * size + size ≤ n * size ∨ n * size + size ≤ m * size := by
    rcases Nat.lt_or_gt_of_ne hm with h | h
    · left; have := Nat.mul_le_mul_right size (show m + 1 ≤ n from h); rwa [Nat.add_mul, Nat.one_mul] at this
    · right; have := Nat.mul_le_mul_right size (show n + 1 ≤ m from h); rwa [Nat.add_mul, Nat.one_mul] at this
  apply List.ext_getElem?
  intro i
  by_cases hi : i < size
  · rw [secOf_get hi, secOf_get hi, wrS_get _ _ _ _ (by omega)]
    rcases h2 with h2 | h2
    · rw [if_pos (by omega)]
    · rw [if_neg (by omega), if_neg (by omega)]
  · unfold secOf; rw [List.getElem?_eq_none (by rw [List.length_take]; omega), List.getElem?_eq_none (by rw [List.length_take]; omega)]
theorem wrS_bytes {safe L : List Int} {o : Nat} (h : Bytes safe) (hL : Bytes L) : Bytes (wrS safe L o) := Bytes.append (fun x hx => h x (List.mem_of_mem_take hx)) (Bytes.append hL fun x hx => h x (List.mem_of_mem_drop hx))
/-- What has been settled when the entries seen have come. -/
structure SetI (w : World) (D : Dk) (f : Nat → Nat) (sb mb r : Nat) (es : Array MapEntry) (clock : Nat) (seen : Array Nat) (s : List Int) (W : World) : Prop where
  it : W.heap[r]? = some (.mapIter (some mb) clock seen clock)
  frm : Frm (fun k => k = sb) w W
  blk : Blk W sb s
  len : s.length = D.sectors * D.size
  byt : Bytes s
  yes : ∀ x ∈ es.toList, ∀ n : Nat, x.key = .int .i64 (n : Int) → seen.contains x.born = true → secOf s D.size n = (D.settle f).sec n
  no : ∀ n, n < D.sectors → (∀ x ∈ es.toList, x.key = .int .i64 (n : Int) → seen.contains x.born = false) → secOf s D.size n = D.sec n
theorem SetI.step (h : DParts w X d sb mb es clock safe D) {f : Nat → Nat} (hfn : ∀ n, f n ≤ D.size) {r : Nat} {seen : Array Nat} {s : List Int} {W W' : World} (hI : SetI w D f sb mb r es clock seen s W) {x : MapEntry} (hx : x ∈ (leftOf es seen).toList) {n : Nat} {l : List Int} {b : Nat} (he : Ent w X sb D.size D.sectors D.fresh x n l b)
    (it : W'.heap[r]? = some (.mapIter (some mb) clock (seen.push x.born) clock)) (frm : Frm (fun k => k = sb) w W') (blk : Blk W' sb (wrS s (l.take (f n)) (n * D.size))) : SetI w D f sb mb r es clock (seen.push x.born) (wrS s (l.take (f n)) (n * D.size)) W' := by
  obtain ⟨hx1, hx2⟩ := mem_left hx
  have hll : (l.take (f n)).length = f n := by rw [List.length_take, he.len]; have := hfn n; omega
  have hfl := hfn n
  have huniq : ∀ y ∈ es.toList, y.key = .int .i64 (n : Int) → y = x := fun y hy hk => by
    obtain ⟨i, hi, rfl⟩ := List.getElem_of_mem hy
    obtain ⟨j, hj, rfl⟩ := List.getElem_of_mem hx1
    have := nodup_inj h.st.2.2 (i := i) (j := j) (by simpa using hi) (by simpa using hj) (by simp at hk ⊢; rw [hk]; exact he.key.symm)
    subst this; rfl
  have hsec : secOf s D.size n = D.sec n := hI.no n he.lt fun y hy hk => by rw [huniq y hy hk]; exact hx2
  refine ⟨it, frm, blk, ?_, wrS_bytes hI.byt fun y hy => he.byt y (List.mem_of_mem_take hy), fun y hy m hk hs => ?_, fun m hm hno => ?_⟩
  · have h1 := (sector_bounds h he.lt).1
    rw [wrS_len _ _ _ (by rw [hI.len, hll]; omega)]; exact hI.len
  · by_cases hmn : m = n
    · subst hmn
      rw [secOf_same (L := l.take (f m)) hI.len he.lt (by omega), hsec, hll]
      simp only [Dk.settle, he.fr]
    · rw [secOf_other (L := l.take (f n)) hI.len he.lt (by omega) hmn]
      refine hI.yes y hy m hk ?_
      have hyx : y.born ≠ x.born := fun e => by
        obtain ⟨i, hi, rfl⟩ := List.getElem_of_mem hy
        obtain ⟨j, hj, rfl⟩ := List.getElem_of_mem hx1
        have := nodup_inj h.st.2.1 (i := i) (j := j) (by simpa using hi) (by simpa using hj) (by simpa using e)
        subst this
        have h3 := he.key; rw [hk] at h3; simp only [Value.int.injEq, true_and] at h3; omega
      simpa [hyx] using hs
  · have hmn : m ≠ n := fun e => by subst e; have := hno x hx1 he.key; simp at this
    rw [secOf_other (L := l.take (f n)) hI.len he.lt (by omega) hmn]
    refine hI.no m hm fun y hy hk => ?_
    have := hno y hy hk
    simp at this ⊢
    exact this.1
theorem SetI.done (h : DParts w X d sb mb es clock safe D) {f : Nat → Nat} {r : Nat} {seen : Array Nat} {s : List Int} {W : World} (hI : SetI w D f sb mb r es clock seen s W) (h0 : (leftOf es seen).size = 0) (hr : w.heap.size ≤ r) :
    DParts (setBlock W mb (.map #[] clock)) X d sb mb #[] clock s (D.settle f) ∧ Frm X w (setBlock W mb (.map #[] clock)) := by
  obtain ⟨n1, n2, n3⟩ := h.ne_m
  have hall := all_seen es seen h0
  have hm : W.heap[mb]? = some (.map es clock) := hI.frm.blk h.hm (fun e => n2 e.symm)
  have hd : W.heap[d]? = _ := hI.frm.blk h.hd h.nd
  refine ⟨⟨(heap_setB_other n1).trans hd, (heap_setB_other n2).trans hI.blk, heap_setB_same hm, hI.len, fun n hn => ?_, hI.byt, MapKept.stamped_empty _, fun e he => by simp at he, fun n l hf => by simp [Dk.settle] at hf, h.xd, h.xs, h.xm, h.b1, h.b2, h.b3, h.b4, h.lb, h.nd⟩, ?_⟩
  · have hn' : n < D.sectors := hn
    cases hf : D.fresh n with
    | some l =>
      obtain ⟨x, hx, b, he⟩ := h.fresh_some hf
      exact hI.yes x hx n he.key (hall x hx)
    | none =>
      rw [show (D.settle f).sec n = D.sec n by simp [Dk.settle, hf]]
      exact hI.no n hn' fun x hx hk => absurd hk (h.fresh_none hf x hx)
  · exact (hI.frm.mono fun k hk => by subst hk; exact h.xs).setB (.inl h.xm) _
end Go.Proofs.YteimienhaodfcaaK
