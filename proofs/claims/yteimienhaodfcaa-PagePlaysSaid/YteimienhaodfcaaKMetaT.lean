/- MetaTorn: what a torn sector tells; append of 28 zeros. -/
import Derived.Test.YteimienhaodfcaaKLive4
import Derived.Test.YteimienhaodfcaaKMetaP
import Derived.Test.YteimienhaodfcaaKFlow
import Derived.Test.YteimienhaodfcaaKClone
import Derived.Deep.QuietTactic
import Derived.BigQuiet
import Derived.Outline
import Derived.Deep.RegionHeld3
import Derived.Lib.AppendZerosOnto
import Derived.Lib.SliceRun
import Derived.Lib.Walk
namespace Go.Proofs.YteimienhaodfcaaK
open Go.RowKit Go.Proofs.YteimienhaodfcaaW.PrintWords Go.Proofs.YteimienhaodfcaaW.PrintLast Go.Proofs.YteimienhaodfcaaW.PrintMore Go.Crc
open Go.ChangeMaps (setBlock)
attribute [local go_sem] max2_int min2_int max_two min_two
set_option linter.unusedVariables false
set_option linter.unusedSimpArgs false
variable {w w' : World} {X X' S : Nat → Prop} {d sb mb clock : Nat} {es : Array MapEntry} {safe : List Int} {D : Dk}
/-- A meta's bytes on a sector of 64. -/
theorem getM2_take {l l' : List Int} (h : l.take 36 = l'.take 36) : getM2 l = getM2 l' := by
  have e : ∀ lo hi : Nat, hi ≤ 36 → segM l lo hi = segM l' lo hi := fun lo hi hh => by
    unfold segM
    rw [show l.take hi = (l.take 36).take hi by rw [List.take_take]; congr 1; omega, h, List.take_take, show min hi 36 = hi by omega]
  unfold getM2
  rw [e 0 8 (by omega), e 8 12 (by omega), e 12 20 (by omega), e 20 24 (by omega), h]
theorem getM_zeros {l : List Int} (h36 : 36 ≤ l.length) (hz : ∀ x ∈ l.drop 36, x = 0) : getM l = getM2 l := by
  unfold getM getM2
  rw [if_neg (by omega), if_neg]
  rw [Bool.not_eq_true, List.any_eq_false]
  intro x hx
  simp [hz x hx]
/-- What a sector that was torn in the midst of a meta tells. -/
theorem torn_meta (B1 B2 : List Int) (s1 s2 : Int) (cut : Nat) (h1 : B1.length = 64) (h2 : B2.length = 64) (hb1 : Bytes B1) (hb2 : Bytes B2) (hz1 : ∀ x ∈ B1.drop 36, x = 0) (hz2 : ∀ x ∈ B2.drop 36, x = 0)
    (hf2 : B2.take 8 = be 8 s2) (hl2 : (B2.take 36).drop 28 = be 8 s2) (hs2 : 1 ≤ s2 ∧ s2 < 18446744073709551616)
    (hf1 : B1.take 8 = be 8 s1) (hl1 : (B1.take 36).drop 28 = be 8 s1) (hs1 : 0 ≤ s1 ∧ s1 < 18446744073709551616) (hne : s1 ≠ s2) (hc : cut ≤ 64) :
    getM (B2.take cut ++ B1.drop cut) = (0, 0, 0, 0, 40) ∨ getM (B2.take cut ++ B1.drop cut) = getM B1 ∨ getM (B2.take cut ++ B1.drop cut) = getM B2 := by
  have hX : (B2.take cut ++ B1.drop cut).length = 64 := by rw [List.length_append, List.length_take, List.length_drop]; omega
  have hg : ∀ i : Nat, (B2.take cut ++ B1.drop cut)[i]? = if i < cut then B2[i]? else B1[i]? := fun i => by
    by_cases hi : i < cut
    · rw [if_pos hi, List.getElem?_append_left (by rw [List.length_take]; omega), List.getElem?_take, if_pos hi]
    · rw [if_neg hi, List.getElem?_append_right (by rw [List.length_take]; omega), List.getElem?_drop, List.length_take]; congr 1; omega
  obtain ⟨X, hXd⟩ : ∃ X, X = B2.take cut ++ B1.drop cut := ⟨_, rfl⟩
  rw [← hXd] at hX hg ⊢
  have hbX : Bytes X := by
    rw [hXd]; exact Bytes.append (fun x hx => hb2 x (List.mem_of_mem_take hx)) (fun x hx => hb1 x (List.mem_of_mem_drop hx))
  have hzX : ∀ x ∈ X.drop 36, x = 0 := fun x hx => by
    obtain ⟨i, hi⟩ := List.getElem?_of_mem hx
    rw [List.getElem?_drop, hg] at hi
    by_cases hlt : 36 + i < cut
    · rw [if_pos hlt] at hi
      exact hz2 x (List.mem_of_getElem? (i := i) (by rw [List.getElem?_drop]; exact hi))
    · rw [if_neg hlt] at hi
      exact hz1 x (List.mem_of_getElem? (i := i) (by rw [List.getElem?_drop]; exact hi))
  have e1 := getM_zeros (l := B1) (by omega) hz1
  have e2 := getM_zeros (l := B2) (by omega) hz2
  have eX := getM_zeros (l := X) (by omega) hzX
  rcases getM_cases X hbX with h | ⟨s, r, k, d, hs, _, _, _, ht, _⟩
  · exact .inl h
  have hXf : X.take 8 = be 8 s := by
    have := congrArg (List.take 8) ht
    rw [List.take_take, metaB_shape] at this
    rw [show min 8 36 = 8 from rfl] at this
    rw [this]
    have h0 := seg0 s r k d (be 4 (crc (headM s r k d)) ++ be 8 s)
    rwa [List.drop_zero] at h0
  have hXl : (X.take 36).drop 28 = be 8 s := by
    rw [ht, metaB_shape, ← List.append_assoc, List.drop_left' (by rw [List.length_append, headM_length, be_length])]
  have inj : ∀ a b : Int, 0 ≤ a ∧ a < 18446744073709551616 → 0 ≤ b ∧ b < 18446744073709551616 → be 8 a = be 8 b → a = b := fun a b ha hb h => by
    rw [← tolL_be8 a ha.1 ha.2, ← tolL_be8 b hb.1 hb.2, h]
  have hs0 : 0 ≤ s ∧ s < 18446744073709551616 := ⟨by omega, hs.2⟩
  have toX1 : (∀ i, i < cut → i < 36 → B2[i]? = B1[i]?) → X.take 36 = B1.take 36 := fun h => by
    apply List.ext_getElem?
    intro i
    rw [List.getElem?_take, List.getElem?_take]
    by_cases hi : i < 36
    · rw [if_pos hi, if_pos hi, hg]
      by_cases hlt : i < cut
      · rw [if_pos hlt]; exact h i hlt hi
      · rw [if_neg hlt]
    · rw [if_neg hi, if_neg hi]
  have toX2 : (∀ i, cut ≤ i → i < 36 → B1[i]? = B2[i]?) → X.take 36 = B2.take 36 := fun h => by
    apply List.ext_getElem?
    intro i
    rw [List.getElem?_take, List.getElem?_take]
    by_cases hi : i < 36
    · rw [if_pos hi, if_pos hi, hg]
      by_cases hlt : i < cut
      · rw [if_pos hlt]
      · rw [if_neg hlt]; exact h i (by omega) hi
    · rw [if_neg hi, if_neg hi]
  have getf : ∀ (l : List Int) (v : Int), l.take 8 = be 8 v → ∀ i, i < 8 → l[i]? = (be 8 v)[i]? := fun l v h i hi => by rw [← h, List.getElem?_take, if_pos hi]
  have getl : ∀ (l : List Int) (v : Int), (l.take 36).drop 28 = be 8 v → ∀ i, 28 ≤ i → i < 36 → l[i]? = (be 8 v)[i - 28]? := fun l v h i h1 h2 => by
    rw [← h, List.getElem?_drop, List.getElem?_take, show 28 + (i - 28) = i by omega, if_pos h2]
  by_cases hc1 : 36 ≤ cut
  · right; right
    rw [eX, e2]
    exact getM2_take (toX2 fun i h1 h2 => by omega)
  by_cases hc2 : 28 < cut
  · -- the first 28 bytes are new: Seq is the new one, and the last 8 ones are all the new one's
    have hs' : s = s2 := inj _ _ hs0 ⟨by omega, hs2.2⟩ (by
      rw [← hXf, ← hf2]
      apply List.ext_getElem?
      intro i
      rw [List.getElem?_take, List.getElem?_take]
      by_cases hi : i < 8
      · rw [if_pos hi, if_pos hi, hg, if_pos (by omega)]
      · rw [if_neg hi, if_neg hi])
    right; right
    rw [eX, e2]
    refine getM2_take (toX2 fun i h1 h2 => ?_)
    have a1 := getl X s hXl i (by omega) h2
    rw [hg, if_neg (by omega), hs'] at a1
    rw [a1, getl B2 s2 hl2 i (by omega) h2]
  · -- the last 8 bytes are the old ones
    have hs' : s = s1 := inj _ _ hs0 hs1 (by
      rw [← hXl, ← hl1]
      apply List.ext_getElem?
      intro i
      rw [List.getElem?_drop, List.getElem?_drop, List.getElem?_take, List.getElem?_take]
      by_cases hi : 28 + i < 36
      · rw [if_pos hi, if_pos hi, hg, if_neg (by omega)]
      · rw [if_neg hi, if_neg hi])
    by_cases hc3 : 8 ≤ cut
    · exfalso
      apply hne
      rw [← hs']
      exact inj _ _ hs0 ⟨by omega, hs2.2⟩ (by
        rw [← hXf, ← hf2]
        apply List.ext_getElem?
        intro i
        rw [List.getElem?_take, List.getElem?_take]
        by_cases hi : i < 8
        · rw [if_pos hi, if_pos hi, hg, if_pos (by omega)]
        · rw [if_neg hi, if_neg hi])
    · right; left
      rw [eX, e1]
      refine getM2_take (toX1 fun i h1 h2 => ?_)
      have a1 := getf X s hXf i (by omega)
      rw [hg, if_pos h1, hs'] at a1
      rw [a1, getf B1 s1 hf1 i (by omega)]
theorem zero_cells_u8 (n : Nat) : Builtin.zeroCells (Value.int .u8 0).cells n = (List.replicate n (Value.int .u8 0)).toArray := by
  apply Array.toList_inj.mp
  apply List.ext_getElem?
  intro i
  simp [Builtin.zeroCells, Value.cells]
  by_cases h : i < n
  · simp [h, List.getElem?_replicate, Nat.mod_one]
  · simp [h, List.getElem?_replicate]
theorem app28 (W : World) (g : Nat) (l : List Int) (hb : Blk W g l) (hl : l.length = 36) : ∃ G W1, 64 ≤ G ∧ (∀ ty, (Builtin.append_ #[33, 3] ty #[.slice (some ⟨g, 0, none⟩) 36 36, .int .i64 28]).run Try.prog W = .ok (.slice (some ⟨W.heap.size, 0, none⟩) 64 G) W1) ∧ Kd.C (Kd.int .u8) W1 (some ⟨W.heap.size, 0, none⟩) 64 (l ++ zeros 28) ∧ Below W.heap.size W W1 := by
  obtain ⟨i0, hi0, h3⟩ := Option.map_eq_some_iff.1 infoByte
  simp only [Prod.mk.injEq] at h3
  obtain ⟨hz0, hz1, hz2⟩ := h3
  have hbd : Blk W.drew g l := blk_drewN hb 1
  have hrun : ∀ ty, _ := fun ty => Lib.run_append_grow_zeros (P := Try.prog) W 33 3 ty 5 i0 (.int .u8 0) .i64 .i64 Try.underlying33 Try.underlying3 hi0 hz0 (some ⟨g, 0, none⟩) 36 36 (l.map (Value.int .u8))
    (run_firstCells_some W.drew i0.size 36 ⟨g, 0, none⟩ 36 36 _ (by rw [hz1, List.length_map, hl]) (fun j v hv => by
      rw [show Addr.add ⟨g, 0, none⟩ j = ⟨g, j, none⟩ by simp [Addr.add]; omega, blk_cell hbd]; simpa using hv)) 28 (by omega) (by omega) (by omega) (by omega) (by rw [hz2]; omega) (growslice_fits (by omega) (by rw [hz2]; omega))
  obtain ⟨G, hG⟩ : ∃ G, G = grownCap W (36 + 28) 36 5 := ⟨_, rfl⟩
  have hGn : 64 ≤ G := by rw [hG]; exact grownCap_ge W _ _ _
  have hG63 : G ≤ maxLen := by rw [hG]; exact grownCap_le_maxLen W _ _ _ (by unfold maxLen; omega)
  rw [← hG] at hrun
  have he : ((l.map (Value.int .u8)).toArray ++ Builtin.zeroCells (Value.int .u8 0).cells 28 ++ Builtin.zeroCells (Value.int .u8 0).cells (G - (36 + 28))) = ((l ++ zeros (28 + (G - 64))).map (Value.int .u8)).toArray := by
    have e64 : G - (36 + 28) = G - 64 := by omega
    rw [zero_cells_u8, zero_cells_u8, e64]
    apply Array.toList_inj.mp
    simp only [Array.toList_append, List.map_append, zeros, List.map_replicate, ← List.replicate_append_replicate, List.append_assoc]
  rw [he] at hrun
  obtain ⟨W1, hW1⟩ : ∃ W1, W1 = W.drew.alloc (.cells ((l ++ zeros (28 + (G - 64))).map (Value.int .u8)).toArray 5) := ⟨_, rfl⟩
  rw [← hW1] at hrun
  refine ⟨G, W1, hGn, hrun, ?_, ?_⟩
  · have hB : Blk W1 W.heap.size (l ++ zeros (28 + (G - 64))) := by rw [hW1]; exact blk_new W.drew _
    have := blk_C hB (by rw [List.length_append, hl, zeros, List.length_replicate]; unfold maxLen at hG63; omega) 0 64 (by rw [List.length_append, hl, zeros, List.length_replicate]; omega)
    have e : ((l ++ zeros (28 + (G - 64))).drop 0).take 64 = l ++ zeros 28 := by
      have hz : zeros (28 + (G - 64)) = zeros 28 ++ zeros (G - 64) := by simp only [zeros, List.replicate_append_replicate]
      rw [List.drop_zero, hz, ← List.append_assoc, List.take_left' (by rw [List.length_append, hl, zeros, List.length_replicate])]
    rwa [e] at this
  · rw [hW1]; exact below_drew (below_alloc (Below.refl _ _) _)
theorem mget64 (A : Option Addr) (c : Nat) (l : List Int) (w : World) (hr : Kd.C (Kd.int .u8) w A 64 l) (hl : l.length = 64) (hc : 64 ≤ c) (hby : Bytes l) : Calls Try.prog 29 #[.slice A 64 c] w (GetPost l w) := by
  have := mget_calls A c l w (by rw [hl]; exact hr) (by omega) hby
  rwa [hl] at this
theorem empty_R {W : World} {g base : Nat} (h : W.heap[g]? = some (.cells #[] 5 (0, 0))) (hb : base ≤ g) : Kd.R (Kd.int .u8) 5 W base (fun _ => True) (.slice (some ⟨g, 0, none⟩) 0 0) [] :=
  ⟨fun _ _ => trivial, [], ⟨rfl, .inr ⟨g, 0, #[], rfl, hb, h, Nat.le_refl _, by simp [maxLen], rfl, rfl⟩⟩, Reps.none _ _⟩
theorem blk_new2 (W : World) (a : Obj) (cs : Array Value) (t : Nat) : ((W.alloc a).alloc (.cells cs t)).heap[W.heap.size + 1]? = some (.cells cs t (0, 0)) := by
  have := blk_new (W.alloc a) (.cells cs t)
  rwa [World.size_alloc] at this
def Keep52 (W W' : World) : Prop := ∀ (g : Nat) (cs : Array Value), W.heap[g]? = some (.cells cs 52 (0, 0)) → W'.heap[g]? = some (.cells cs 52 (0, 0))
theorem keep52_app {W w1 : World} {base : Nat} {ok : Nat → Prop} {v : Value} {xs : List Int} (h : Kd.R (Kd.int .u8) 5 W base ok v xs) (hg : W.grownBy w1 v.ownBlock) : Keep52 W w1 := fun g cs hc => by
  have hlt : g < W.heap.size := blk_lt hc
  have hne : some g ≠ v.ownBlock := by
    intro he
    obtain ⟨_, inner, hown, _⟩ := h
    rcases hown.2 with ⟨rfl, hn⟩ | ⟨g', cap, cur, rfl, _, hc', _⟩
    · simp [Value.ownBlock] at he
    · have e : g = g' := by simpa [Value.ownBlock] using he
      rw [e] at hc
      rw [hc] at hc'
      simp at hc'
  rw [hg.block g hlt hne]; exact hc
theorem empty_R2 {W : World} {a : Obj} : Kd.R (Kd.int .u8) 5 ((W.alloc a).alloc (.cells #[] 5)).drew W.heap.size (fun _ => True) (.slice (some ⟨W.heap.size + 1, 0, none⟩) 0 0) [] := empty_R (blk_new2 W a #[] 5) (Nat.le_succ _)
theorem set4 {w : World} {g : Nat} {a b c d x y z u : Value} (h : w.heap[g]? = some (.cells #[a, b, c, d] 52 (0, 0))) : ((((w.setCell ⟨g, 0, none⟩ x).setCell ⟨g, 1, none⟩ y).setCell ⟨g, 2, none⟩ z).setCell ⟨g, 3, none⟩ u).heap[g]? = some (.cells #[x, y, z, u] 52 (0, 0)) := by
  have h1 := blk_set h 0 x
  have h2 := blk_set h1 1 y
  have h3 := blk_set h2 2 z
  have h4 := blk_set h3 3 u
  simpa using h4
theorem keep52_new2 {W w1 : World} {a : Obj} {cs : Array Value} (h : Keep52 ((W.alloc a).alloc (.cells cs 52)).drew w1) : w1.heap[W.heap.size + 1]? = some (.cells cs 52 (0, 0)) := h _ _ (blk_new2 W a cs 52)
theorem keep52_new1 {W w1 : World} {b : Obj} {cs : Array Value} (h : Keep52 ((W.alloc (.cells cs 52)).alloc b).drew w1) : w1.heap[W.heap.size]? = some (.cells cs 52 (0, 0)) := h _ _ (blk_alloc (blk_new W _) _)
structure Sec (B : List Int) (s : Int) : Prop where
  len : B.length = 64
  bytes : Bytes B
  rest : ∀ x ∈ B.drop 36, x = 0
  first : B.take 8 = be 8 s
  last : (B.take 36).drop 28 = be 8 s
theorem sec_zero : Sec (zeros 64) 0 := ⟨rfl, zeros_bytes _, fun x hx => by
  have := List.mem_of_mem_drop hx
  exact (List.mem_replicate.1 this).2, rfl, rfl⟩
theorem sec_meta (s r k d : Int) : Sec (metaB s r k d ++ zeros 28) s where
  len := by rw [List.length_append, metaB_length, zeros, List.length_replicate]
  bytes := Bytes.append (metaB_bytes _ _ _ _) (zeros_bytes _)
  rest := fun x hx => by
    rw [List.drop_left' (metaB_length _ _ _ _)] at hx
    exact (List.mem_replicate.1 hx).2
  first := by
    rw [List.take_append_of_le_length (by rw [metaB_length]; decide), metaB_shape]
    have h0 := seg0 s r k d (be 4 (crc (headM s r k d)) ++ be 8 s)
    rwa [List.drop_zero] at h0
  last := by
    rw [List.take_left' (metaB_length _ _ _ _), metaB_shape, ← List.append_assoc, List.drop_left' (by rw [List.length_append, headM_length, be_length])]
end Go.Proofs.YteimienhaodfcaaK
