/- MetaSwitches: the plain law; acts of law 4. -/
import Derived.Test.YteimienhaodfcaaKLive4
import Derived.Test.YteimienhaodfcaaKLX
import Derived.Test.YteimienhaodfcaaKMetaP
import Derived.Test.YteimienhaodfcaaKMetaT
import Derived.Test.YteimienhaodfcaaKFlow
import Derived.Test.YteimienhaodfcaaKClone
import Derived.Deep.QuietTactic
import Derived.BigQuiet
import Derived.Deep.RegionHeld3
import Derived.Lib.AppendZerosOnto
import Derived.Lib.SliceRun
import Derived.Lib.Walk
namespace Go.Proofs.YteimienhaodfcaaK
open Go.RowKit Go.Proofs.YteimienhaodfcaaW.PrintWords Go.Proofs.YteimienhaodfcaaW.PrintLast Go.Proofs.YteimienhaodfcaaW.PrintMore Go.Crc
open Go.ChangeMaps (setBlock)
attribute [local go_sem] max2_int min2_int max_two min_two
set_option linter.unusedVariables false
set_option linter.unusedSimpArgs false
variable {w w' : World} {X X' S : Nat → Prop} {d sb mb clock : Nat} {es : Array MapEntry} {safe : List Int} {D : Dk}
namespace MSw
/-- The meta with Seq s counts, and lies whole; the other meta's sector ends with the elder Seq. -/
structure Sw (D : Dk) (s r k d : Int) : Prop where
  sec : D.sectors = 8
  siz : D.size = 64
  dead : D.dead = false
  clean : ∀ n, D.fresh n = none
  hs : 1 ≤ s ∧ s < 255
  hr : 0 ≤ r ∧ r ≤ 16384
  hk : 0 ≤ k ∧ k ≤ 2147483647
  hd : 0 ≤ d ∧ d ≤ 64
  cur : D.sec (s % 2 * 2).toNat = metaB s r k d ++ zeros 28
  len : (D.sec ((s + 1) % 2 * 2).toNat).length = 64
  byt : Bytes (D.sec ((s + 1) % 2 * 2).toNat)
  rest : ∀ x ∈ (D.sec ((s + 1) % 2 * 2).toNat).drop 36, x = 0
  tail : ((D.sec ((s + 1) % 2 * 2).toNat).take 36).drop 28 = be 8 (s - 1)
theorem be8_small {v : Int} (h : 0 ≤ v ∧ v < 256) : be 8 v = [0, 0, 0, 0, 0, 0, 0, v] := by
  have e : ∀ i : Nat, i ≠ 0 → v / 256 ^ i % 256 = 0 := fun i hi => by
    have : v / 256 ^ i = 0 := Int.ediv_eq_zero_of_lt h.1 (by
      obtain ⟨j, rfl⟩ : ∃ j, i = j + 1 := ⟨i - 1, by omega⟩
      have h1 : (0 : Int) < 256 ^ j := Int.pow_pos (by decide)
      rw [Int.pow_succ]; omega)
    rw [this]; rfl
  have e0 : v / 256 ^ 0 % 256 = v := by rw [Int.pow_zero, Int.ediv_one]; omega
  simp only [be]
  rw [e 7 (by decide), e 6 (by decide), e 5 (by decide), e 4 (by decide), e 3 (by decide), e 2 (by decide), e 1 (by decide), e0]
theorem be8_inj {a b : Int} (ha : 0 ≤ a ∧ a < 18446744073709551616) (hb : 0 ≤ b ∧ b < 18446744073709551616) (h : be 8 a = be 8 b) : a = b := by
  rw [← tolL_be8 a ha.1 ha.2, ← tolL_be8 b hb.1 hb.2, h]
/-- What the elder sector tells. -/
theorem old_get {B : List Int} {s : Int} (hs : 1 ≤ s ∧ s < 255) (hb : Bytes B) (hl : B.length = 64) (ht : (B.take 36).drop 28 = be 8 (s - 1)) : (getM B).2.2.2.2 = 40 ∨ ((getM B).2.2.2.2 = 0 ∧ (getM B).1 = s - 1) := by
  rcases getM_cases B hb with h | ⟨s', r, k, d, hs', _, _, _, h36, h⟩
  · left; rw [h]
  · right; rw [h]
    refine ⟨rfl, ?_⟩
    rw [h36, metaB_shape, ← List.append_assoc, List.drop_left' (by rw [List.length_append, headM_length, be_length])] at ht
    exact be8_inj ⟨by omega, hs'.2⟩ ⟨by omega, by omega⟩ ht
theorem count2 {D : Dk} (h1 : D.sectors = 8) (h2 : D.size = 64) : countD D 2 = 4 := by unfold countD; rw [h1, h2]; decide
theorem Sw.best {D : Dk} {s r k d : Int} (h : Sw D s r k d) : bestD D 2 = (s, r, k, d, 0) := by
  have hg := getM_ok s r k d ⟨h.hs.1, by have := h.hs.2; omega⟩ h.hr h.hk h.hd 28
  have hn : ∀ n, D.now n = D.sec n := fun n => by unfold Dk.now; rw [h.clean n]; rfl
  have ho := old_get h.hs h.byt h.len h.tail
  have hs := h.hs
  have hb : bst D 2 2 = (s, r, k, d) := by
    show upB (upB (0, 0, 0, 0) (getM (D.now (0 * 2))) 0) (getM (D.now (1 * 2))) 1 = _
    rw [hn, hn]
    rcases (by omega : s % 2 = 0 ∨ s % 2 = 1) with e | e
    · have e1 : (s % 2 * 2).toNat = 0 := by rw [e]; rfl
      have e2 : ((s + 1) % 2 * 2).toNat = 1 * 2 := by rw [show (s + 1) % 2 = 1 by omega]; rfl
      have hc := h.cur
      rw [e1] at hc
      rw [e2] at ho
      rw [show 0 * 2 = 0 from rfl, hc, hg]
      have hin : upB (0, 0, 0, 0) (s, r, k, d, 0) 0 = (s, r, k, d) := by
        unfold upB
        exact if_pos ⟨rfl, e, by show (0 : Int) < s; omega⟩
      rw [hin]
      unfold upB
      refine if_neg fun hx => ?_
      rcases ho with ho | ho
      · rw [ho] at hx; exact absurd hx.1 (by decide)
      · have := hx.2.2; rw [ho.2] at this; exact absurd this (by show ¬ s < s - 1; omega)
    · have e1 : (s % 2 * 2).toNat = 1 * 2 := by rw [e]; rfl
      have e2 : ((s + 1) % 2 * 2).toNat = 0 * 2 := by rw [show (s + 1) % 2 = 0 by omega]; rfl
      have hc := h.cur
      rw [e1] at hc
      rw [e2] at ho
      rw [hc, hg]
      have hlt : (upB (0, 0, 0, 0) (getM (D.sec (0 * 2))) 0).1 < s := by
        unfold upB
        split
        · rename_i hx
          rcases ho with ho | ho
          · rw [ho] at hx; exact absurd hx.1 (by decide)
          · show (getM (D.sec (0 * 2))).1 < s; rw [ho.2]; omega
        · show (0 : Int) < s; omega
      generalize upB (0, 0, 0, 0) (getM (D.sec (0 * 2))) 0 = b at hlt
      unfold upB
      exact if_pos ⟨rfl, e, hlt⟩
  unfold bestD
  rw [count2 h.sec h.siz, if_neg (by decide), h.dead, if_neg (by decide)]
  show (if (bst D 2 2).1 = 0 then _ else _) = _
  have h2 : (2 : Int).toNat = 2 := rfl
  rw [hb, if_neg (by show ¬ s = 0; omega), h2, hb]
/-- A torn sector. -/
theorem mix {B : List Int} {s r k d : Int} {c : Nat} (hs : 1 ≤ s ∧ s < 255) (hc : c ≤ 64) (hb : Bytes B) (hl : B.length = 64) (hz : ∀ x ∈ B.drop 36, x = 0) (ht : (B.take 36).drop 28 = be 8 (s - 1)) :
    (36 ≤ c ∧ (metaB (s + 1) r k d ++ zeros 28).take c ++ B.drop c = metaB (s + 1) r k d ++ zeros 28) ∨
    (c < 36 ∧ ((metaB (s + 1) r k d ++ zeros 28).take c ++ B.drop c).length = 64 ∧ Bytes ((metaB (s + 1) r k d ++ zeros 28).take c ++ B.drop c) ∧ (∀ x ∈ ((metaB (s + 1) r k d ++ zeros 28).take c ++ B.drop c).drop 36, x = 0) ∧ (((metaB (s + 1) r k d ++ zeros 28).take c ++ B.drop c).take 36).drop 28 = be 8 (s - 1)) := by
  obtain ⟨N, hN⟩ : ∃ N, N = metaB (s + 1) r k d ++ zeros 28 := ⟨_, rfl⟩
  have hS : Sec N (s + 1) := by rw [hN]; exact sec_meta _ _ _ _
  rw [← hN]
  have hg : ∀ i : Nat, (N.take c ++ B.drop c)[i]? = if i < c then N[i]? else B[i]? := fun i => by
    have hn := hS.len
    by_cases hi : i < c
    · rw [if_pos hi, List.getElem?_append_left (by rw [List.length_take]; omega), List.getElem?_take, if_pos hi]
    · rw [if_neg hi, List.getElem?_append_right (by rw [List.length_take]; omega), List.getElem?_drop, List.length_take]; congr 1; omega
  by_cases h36 : 36 ≤ c
  · left
    refine ⟨h36, List.ext_getElem? fun i => ?_⟩
    rw [hg]
    by_cases hi : i < c
    · rw [if_pos hi]
    · rw [if_neg hi]
      have hn := hS.len
      by_cases h64 : i < 64
      · obtain ⟨x, hx⟩ : ∃ x, B[i]? = some x := ⟨_, List.getElem?_eq_getElem (by omega)⟩
        obtain ⟨y, hy⟩ : ∃ y, N[i]? = some y := ⟨_, List.getElem?_eq_getElem (by omega)⟩
        have h1 := hz x (List.mem_of_getElem? (i := i - 36) (by rw [List.getElem?_drop, show 36 + (i - 36) = i by omega]; exact hx))
        have h2 := hS.rest y (List.mem_of_getElem? (i := i - 36) (by rw [List.getElem?_drop, show 36 + (i - 36) = i by omega]; exact hy))
        rw [hx, hy, h1, h2]
      · rw [List.getElem?_eq_none (by omega), List.getElem?_eq_none (by omega)]
  · right
    have hn := hS.len
    refine ⟨by omega, by rw [List.length_append, List.length_take, List.length_drop]; omega, Bytes.append (fun x hx => hS.bytes x (List.mem_of_mem_take hx)) (fun x hx => hb x (List.mem_of_mem_drop hx)), fun x hx => ?_, ?_⟩
    · obtain ⟨i, hi⟩ := List.getElem?_of_mem hx
      rw [List.getElem?_drop, hg, if_neg (by omega)] at hi
      exact hz x (List.mem_of_getElem? (i := i) (by rw [List.getElem?_drop]; exact hi))
    · have hl1 := hS.last
      rw [be8_small (by omega)] at hl1
      rw [be8_small (by omega)] at ht ⊢
      apply List.ext_getElem?
      intro i
      have h1 := congrArg (fun l => l[i]?) hl1
      have h2 := congrArg (fun l => l[i]?) ht
      simp only [List.getElem?_drop, List.getElem?_take] at h1 h2 ⊢
      by_cases hi : 28 + i < 36
      · rw [if_pos hi] at h1 h2 ⊢
        rw [hg]
        by_cases hic : 28 + i < c
        · rw [if_pos hic, h1]
          match i, hi, hic with
          | 0, _, _ => rfl
          | 1, _, _ => rfl
          | 2, _, _ => rfl
          | 3, _, _ => rfl
          | 4, _, _ => rfl
          | 5, _, _ => rfl
          | 6, _, _ => rfl
          | 7, _, hic => omega
          | i + 8, hi, _ => omega
        · rw [if_neg hic, h2]
      · rw [if_neg hi] at h1 h2 ⊢
        exact h2
theorem Sw.after {D D' : Dk} {s r k d r' k' d' : Int} {c : Nat} (h : Sw D s r k d) (h1 : D'.sectors = 8) (h2 : D'.size = 64) (h3 : D'.dead = false) (h4 : ∀ n, D'.fresh n = none) (hc : c ≤ 64) (hs : s < 254) (hr : 0 ≤ r' ∧ r' ≤ 16384) (hk : 0 ≤ k' ∧ k' ≤ 2147483647) (hd : 0 ≤ d' ∧ d' ≤ 64)
    (hsec : ∀ n, D'.sec n = if n = ((s + 1) % 2 * 2).toNat then (metaB (s + 1) r' k' d' ++ zeros 28).take c ++ (D.sec n).drop c else D.sec n) : (36 ≤ c ∧ Sw D' (s + 1) r' k' d') ∨ (c < 36 ∧ Sw D' s r k d) := by
  have hss := h.hs
  have hne : ¬ (s % 2 * 2).toNat = ((s + 1) % 2 * 2).toNat := by omega
  have e2 : (s + 1 + 1) % 2 = s % 2 := by omega
  have ecur : D'.sec (s % 2 * 2).toNat = metaB s r k d ++ zeros 28 := by rw [hsec, if_neg hne]; exact h.cur
  have eoth : D'.sec ((s + 1) % 2 * 2).toNat = (metaB (s + 1) r' k' d' ++ zeros 28).take c ++ (D.sec ((s + 1) % 2 * 2).toNat).drop c := by rw [hsec, if_pos rfl]
  have hS : Sec (metaB s r k d ++ zeros 28) s := sec_meta _ _ _ _
  rcases mix (r := r') (k := k') (d := d') h.hs hc h.byt h.len h.rest h.tail with ⟨g1, g2⟩ | ⟨g1, g2, g3, g4, g5⟩
  · refine .inl ⟨g1, h1, h2, h3, h4, ⟨by omega, by omega⟩, hr, hk, hd, by rw [eoth, g2], ?_, ?_, ?_, ?_⟩
    · rw [e2, ecur]; exact hS.len
    · rw [e2, ecur]; exact hS.bytes
    · rw [e2, ecur]; exact hS.rest
    · rw [e2, ecur, show s + 1 - 1 = s by omega]; exact hS.last
  · refine .inr ⟨g1, h1, h2, h3, h4, h.hs, h.hr, h.hk, h.hd, ecur, ?_, ?_, ?_, ?_⟩
    · rw [eoth]; exact g2
    · rw [eoth]; exact g3
    · rw [eoth]; exact g4
    · rw [eoth]; exact g5
theorem mok {s r k d : Int} (h : mOk s r k d = true) : (0 ≤ r ∧ r ≤ 16384) ∧ (0 ≤ k ∧ k ≤ 2147483647) ∧ (0 ≤ d ∧ d ≤ 64) ∧ metaOf s r k d = metaB s r k d := by
  have h' : getM (metaOf s r k d) = (s, r, k, d, 0) := of_decide_eq_true h
  rcases getM_cases (metaOf s r k d) (metaB_bytes _ _ _ _) with h0 | ⟨s', r', k', d', hs, hr, hk, hd, _, h0⟩
  · rw [h0] at h'; simp at h'
  · rw [h'] at h0
    simp only [Prod.mk.injEq] at h0
    obtain ⟨rfl, rfl, rfl, rfl, _⟩ := h0
    refine ⟨hr, hk, hd, ?_⟩
    unfold metaOf
    rw [u64_small (by omega) (by omega), u64_small (by omega) (by omega), u64_small (by omega) (by omega)]
theorem Sw.same {D D' : Dk} {s r k d : Int} (h : Sw D s r k d) (h1 : D'.sectors = 8) (h2 : D'.size = 64) (h3 : D'.dead = false) (h4 : ∀ n, D'.fresh n = none) (h5 : ∀ n, D'.sec n = D.sec n) : Sw D' s r k d :=
  ⟨h1, h2, h3, h4, h.hs, h.hr, h.hk, h.hd, by rw [h5]; exact h.cur, by rw [h5]; exact h.len, by rw [h5]; exact h.byt, by rw [h5]; exact h.rest, by rw [h5]; exact h.tail⟩
theorem Sw.round {D : Dk} {s r k d : Int} (h : Sw D s r k d) (hs : s < 254) (N r' k' d' : Int) (keep : List Int) (torn : List (Int × Int)) :
    ((D.armed N).mwriteE 2 (s + 1) r' k' d' = 2 → Sw (((D.armed N).mwritten 2 (s + 1) r' k' d').armed (-1)) s r k d) ∧
    ((D.armed N).mwriteE 2 (s + 1) r' k' d' ≠ 2 → (D.armed N).mwriteE 2 (s + 1) r' k' d' ≠ 0 → Sw (((D.armed N).mwritten 2 (s + 1) r' k' d').crashed keep torn) s r k d) ∧
    ((D.armed N).mwriteE 2 (s + 1) r' k' d' = 0 → Sw ((((D.armed N).mwritten 2 (s + 1) r' k' d').synced).crashed keep torn) (s + 1) r' k' d' ∨
      (((D.armed N).mwritten 2 (s + 1) r' k' d').beginE ≠ 0 ∧ Sw ((((D.armed N).mwritten 2 (s + 1) r' k' d').synced).crashed keep torn) s r k d)) := by
  obtain ⟨L, hA⟩ : ∃ L, D.armed N = { D with left := L } := by
    unfold Dk.armed; rw [h.dead, if_neg (by decide)]; exact ⟨_, rfl⟩
  rw [hA]
  obtain ⟨E, hE⟩ : ∃ E : Dk, E = { D with left := L } := ⟨_, rfl⟩
  rw [← hE]
  have e1 : E.sectors = 8 := by rw [hE]; exact h.sec
  have e2 : E.size = 64 := by rw [hE]; exact h.siz
  have e3 : E.dead = false := by rw [hE]; exact h.dead
  have e4 : ∀ n, E.fresh n = none := by rw [hE]; exact h.clean
  have e5 : ∀ n, E.sec n = D.sec n := by rw [hE]; exact fun _ => rfl
  have hc2 : ¬ countD E 2 < 2 := by rw [count2 e1 e2]; decide
  unfold Dk.mwriteE Dk.mwritten
  by_cases hm : mOk (s + 1) r' k' d' = false
  · rw [if_pos (.inr hm), if_pos (.inr hm)]
    refine ⟨fun _ => ?_, fun hx => absurd rfl hx, fun hx => absurd hx (by decide)⟩
    have hA2 : E.armed (-1) = { E with left := -1 } := by
      unfold Dk.armed; rw [e3, if_neg (by decide)]; rfl
    rw [hA2]
    exact h.same e1 e2 e3 e4 e5
  have hmt : mOk (s + 1) r' k' d' = true := by simpa using hm
  obtain ⟨hr, hk, hd, ho⟩ := mok hmt
  rw [if_neg (by rintro (hx | hx); exact hc2 hx; exact hm hx), if_neg (by rintro (hx | hx); exact hc2 hx; exact hm hx), ho]
  have hhas : E.has ((s + 1) % 2 * 2) = true := by
    unfold Dk.has; rw [e1, Bool.and_eq_true]; exact ⟨decide_eq_true (by omega), decide_eq_true (by omega)⟩
  have hlen : ¬ E.size < (metaB (s + 1) r' k' d').length := by rw [e2, metaB_length]; decide
  unfold Dk.writeE Dk.written
  rw [hhas, if_neg (by decide), if_neg hlen, if_neg (by decide), if_neg hlen]
  by_cases hb : E.beginE = 0
  · rw [if_pos hb, hb]
    refine ⟨fun hx => absurd hx (by decide), fun _ hx => absurd rfl hx, fun _ => ?_⟩
    have hnd : ¬ (E.dead = true ∨ E.left = 0) := fun hx => by unfold Dk.beginE at hb; rw [if_pos hx] at hb; exact absurd hb (by decide)
    have hbg : E.begun = E.did := by unfold Dk.begun; rw [if_neg hnd]
    rw [hbg]
    obtain ⟨F, hF⟩ : ∃ F, F = E.did.put ((s + 1) % 2 * 2).toNat (metaB (s + 1) r' k' d' ++ zeros (E.size - (metaB (s + 1) r' k' d').length)) := ⟨_, rfl⟩
    rw [← hF]
    have hz : E.size - (metaB (s + 1) r' k' d').length = 28 := by rw [e2, metaB_length]
    rw [hz] at hF
    have f1 : F.sectors = 8 := by rw [hF]; exact e1
    have f2 : F.size = 64 := by rw [hF]; exact e2
    have f3 : F.dead = false := by rw [hF]; exact e3
    have f4 : ∀ n, F.fresh n = if n = ((s + 1) % 2 * 2).toNat then some (metaB (s + 1) r' k' d' ++ zeros 28) else none := fun n => by
      rw [hF]; show (if n = _ then _ else E.fresh n) = _; rw [e4]
    have f5 : ∀ n, F.sec n = D.sec n := fun n => by rw [hF]; exact e5 n
    by_cases hb2 : F.beginE = 0
    · left
      have hnd2 : ¬ (F.dead = true ∨ F.left = 0) := fun hx => by unfold Dk.beginE at hb2; rw [if_pos hx] at hb2; exact absurd hb2 (by decide)
      have hbg2 : F.begun = F.did := by unfold Dk.begun; rw [if_neg hnd2]
      have hsy : F.synced = F.did.settle fun _ => F.size := by unfold Dk.synced; rw [if_pos hb2, hbg2]
      rw [hsy]
      have := h.after (D' := (F.did.settle fun _ => F.size).crashed keep torn) (c := 64) (r' := r') (k' := k') (d' := d') f1 f2 rfl (fun _ => rfl) (Nat.le_refl _) hs hr hk hd (fun n => by
        show (match F.fresh n with | some l => l.take F.size ++ (F.sec n).drop F.size | none => F.sec n) = _
        rw [f4, f5, f2]
        split <;> rename_i hx
        · split at hx
          · rw [if_pos (by assumption)]; cases hx; rfl
          · cases hx
        · split at hx
          · cases hx
          · rw [if_neg (by assumption)])
      rcases this with hx | hx
      · exact hx.2
      · exact absurd hx.1 (by decide)
    · have hd2 : F.dead = true ∨ F.left = 0 := Classical.byContradiction fun hx => hb2 (by unfold Dk.beginE; rw [if_neg hx])
      have hbg2 : F.begun = F.died := by unfold Dk.begun; rw [if_pos hd2]
      have hsy : F.synced = F.died := by unfold Dk.synced; rw [if_neg hb2, hbg2]
      rw [hsy]
      have := h.after (D' := (F.died).crashed keep torn) (c := keptOf keep torn F.size ((s + 1) % 2 * 2).toNat) (r' := r') (k' := k') (d' := d') f1 f2 rfl (fun _ => rfl) (by have := keptOf_le keep torn F.size ((s + 1) % 2 * 2).toNat; omega) hs hr hk hd (fun n => by
        show (match F.fresh n with | some l => l.take (keptOf keep torn F.size n) ++ (F.sec n).drop (keptOf keep torn F.size n) | none => F.sec n) = _
        rw [f4, f5]
        split <;> rename_i hx
        · split at hx
          · rename_i hn; rw [if_pos hn]; cases hx; rw [hn]
          · cases hx
        · split at hx
          · cases hx
          · rw [if_neg (by assumption)])
      rcases this with hx | hx
      · exact .inl hx.2
      · exact .inr ⟨hb2, hx.2⟩
  · rw [if_neg hb]
    refine ⟨fun hx => ?_, fun _ _ => ?_, fun hx => absurd hx hb⟩
    · unfold Dk.beginE at hx; split at hx <;> exact absurd hx (by decide)
    have hd2 : E.dead = true ∨ E.left = 0 := Classical.byContradiction fun hx => hb (by unfold Dk.beginE; rw [if_neg hx])
    have hbg : E.begun = E.died := by unfold Dk.begun; rw [if_pos hd2]
    rw [hbg]
    refine h.same e1 e2 rfl (fun _ => rfl) fun n => ?_
    show (match E.fresh n with | some l => _ | none => E.sec n) = _
    rw [e4]; exact e5 n
theorem Sw.start (left ops : Int) (D : Dk) (h1 : D.sectors = 8) (h2 : D.size = 64) (h3 : D.dead = false) (h4 : ∀ n, D.fresh n = none) (h5 : D.sec 2 = metaB 1 0 0 0 ++ zeros 28) (h6 : D.sec 0 = zeros 64) : Sw D 1 0 0 0 := by
  refine ⟨h1, h2, h3, h4, by decide, by decide, by decide, by decide, h5, ?_, ?_, ?_, ?_⟩
  all_goals rw [show (((1 : Int) + 1) % 2 * 2).toNat = 0 from rfl, h6]
  · exact sec_zero.len
  · exact sec_zero.bytes
  · exact sec_zero.rest
  · exact sec_zero.last
end MSw
namespace MSw
theorem sw0 : Sw (((Dk.made 8 64).mwritten 2 1 0 0 0).synced) 1 0 0 0 := by
  obtain ⟨F, hF⟩ : ∃ F, F = (Dk.made 8 64).mwritten 2 1 0 0 0 := ⟨_, rfl⟩
  have hb : F.beginE = 0 := by rw [hF]; decide +kernel
  have hs : F.synced = F.begun.settle fun _ => F.size := by unfold Dk.synced; rw [if_pos hb]
  rw [← hF]
  refine Sw.start 0 0 _ ?_ ?_ ?_ ?_ ?_ ?_
  · rw [hF]; decide +kernel
  · rw [hF]; decide +kernel
  · rw [hF]; decide +kernel
  · rw [hs]; exact fun _ => rfl
  · rw [hF]; decide +kernel
  · rw [hF]; decide +kernel
theorem e0 : (Dk.made 8 64).mwriteE 2 1 0 0 0 = 0 := by decide +kernel
theorem e1 : ((Dk.made 8 64).mwritten 2 1 0 0 0).beginE = 0 := by decide +kernel
end MSw
abbrev KM4 : Kd (Int × Int × Int × Int) := Kd.iso (Kd.pair (Kd.int .u64) (Kd.pair (Kd.int .i64) (Kd.pair (Kd.int .i64) (Kd.int .i64)))) id
abbrev KA4 : Kd (Int × (Int × Int × Int × Int) × Int × List Int × List Int × List (Int × Int)) := Kd.iso (Kd.pair (Kd.int .i64) (Kd.pair KM4 (Kd.pair (Kd.int .i64) (Kd.pair (Kd.slice 5 (Kd.int .u8)) (Kd.pair (Kd.slice 3 (Kd.int .i64)) (Kd.slice 44 (Kd.iso KT id))))))) id
abbrev A4 := Int × (Int × Int × Int × Int) × Int × List Int × List Int × List (Int × Int)
theorem heap_KT : Kd.Heap KT := Kd.heap_pair (Kd.heap_int _) (Kd.heap_int _)
/-- An act's cells. -/
theorem act_get {w : World} {A : Option Addr} {n : Nat} {l : List A4} (h : Kd.C KA4 w A n l) {i : Nat} (hi : i < l.length) : ∃ ad, A = some ad ∧ ∃ Ap cp Ak ck At ct,
    w.cell? (ad.add (i * 9)) = some (.int .i64 l[i].1) ∧ w.cell? ⟨(ad.add (i * 9)).block, (ad.add (i * 9)).off + 1, none⟩ = some (.int .u64 l[i].2.1.1) ∧ w.cell? ⟨(ad.add (i * 9)).block, (ad.add (i * 9)).off + 2, none⟩ = some (.int .i64 l[i].2.1.2.1) ∧ w.cell? ⟨(ad.add (i * 9)).block, (ad.add (i * 9)).off + 3, none⟩ = some (.int .i64 l[i].2.1.2.2.1) ∧ w.cell? ⟨(ad.add (i * 9)).block, (ad.add (i * 9)).off + 4, none⟩ = some (.int .i64 l[i].2.1.2.2.2) ∧
    w.cell? ⟨(ad.add (i * 9)).block, (ad.add (i * 9)).off + 5, none⟩ = some (.int .i64 l[i].2.2.1) ∧ w.cell? ⟨(ad.add (i * 9)).block, (ad.add (i * 9)).off + 6, none⟩ = some (.slice Ap l[i].2.2.2.1.length cp) ∧ w.cell? ⟨(ad.add (i * 9)).block, (ad.add (i * 9)).off + 7, none⟩ = some (.slice Ak l[i].2.2.2.2.1.length ck) ∧ w.cell? ⟨(ad.add (i * 9)).block, (ad.add (i * 9)).off + 8, none⟩ = some (.slice At l[i].2.2.2.2.2.length ct) ∧
    (l[i].2.2.2.1.length ≤ cp ∧ Kd.C (Kd.int .u8) w Ap l[i].2.2.2.1.length l[i].2.2.2.1) ∧ (l[i].2.2.2.2.1.length ≤ ck ∧ Kd.C (Kd.int .i64) w Ak l[i].2.2.2.2.1.length l[i].2.2.2.2.1) ∧ (l[i].2.2.2.2.2.length ≤ ct ∧ KT.C w At l[i].2.2.2.2.2.length l[i].2.2.2.2.2) := by
  have hn := h.1
  obtain ⟨ad, cs, hA, hlen, hK, hcell⟩ := Kd.C_get h (0, (0, 0, 0, 0), 0, [], [], []) (i : Int) (by omega) (by omega)
  rw [Int.toNat_natCast, List.getD_eq_getElem?_getD, List.getElem?_eq_getElem hi, Option.getD_some] at hK
  obtain ⟨c0, c1, rfl, rfl, c2, c3, rfl, hm, c4, c5, rfl, rfl, c6, c7, rfl, ⟨Ap, cp, rfl, hp1, hp2⟩, c8, c9, rfl, ⟨Ak, ck, rfl, hk1, hk2⟩, ⟨At, ct, rfl, ht1, ht2⟩⟩ := hK
  obtain ⟨d0, d1, rfl, rfl, d2, d3, rfl, rfl, d4, d5, rfl, rfl, rfl⟩ := hm
  rw [Int.toNat_natCast] at hcell
  have e : ∀ (j : Nat) (hj : 0 < j) u, _ → w.cell? ⟨(ad.add (i * 9)).block, (ad.add (i * 9)).off + j, none⟩ = some u := fun j hj u h => by
    have := hcell j u h
    rw [← add_field ad (i * 9) j hj]; exact this
  refine ⟨ad, hA, Ap, cp, Ak, ck, At, ct, hcell 0 _ rfl, e 1 (by decide) _ rfl, e 2 (by decide) _ rfl, e 3 (by decide) _ rfl, e 4 (by decide) _ rfl, e 5 (by decide) _ rfl, e 6 (by decide) _ rfl, e 7 (by decide) _ rfl, e 8 (by decide) _ rfl, ⟨hp1, hp2⟩, ⟨hk1, hk2⟩, ⟨ht1, ht2⟩⟩
def BoolIf (p : Prop) (e : Ending) : Prop := ∃ b, e = .returned (.bool b) ∧ (b = false → p)
set_option maxHeartbeats 1000000 in
theorem huge4_calls (A : Option Addr) (c : Nat) (l : List A4) (w : World) (hr : Kd.C KA4 w A l.length l) : Calls Try.prog 36 #[.slice A l.length c] w fun e w' => BoolIf (l.length ≤ 60) e ∧ Drawn0 w w' := by
  have hlm : l.length ≤ 9223372036854775807 := hr.2.1
  have HR := Aside0.mk hr
  clear hr
  go_enter Try.func36, Try.ntmps36
  go_wp2
  go_loopw [3, 4] (fun x i wr => ∃ (y : Int) (k : Nat), k ≤ l.length ∧ x = .int .i64 y ∧ i = .int .i64 k ∧ Aside0 (Drawn0 w wr)) (fun _ i _ => l.length - (intOf i).toNat)
  case atStart => exact ⟨0, 0, Nat.zero_le _, rfl, rfl, ⟨by repeat (first | exact Drawn0.refl _ | apply Drawn0.step)⟩⟩
  case round =>
    obtain ⟨y, k, hk, rfl, rfl, HD⟩ := hrel
    by_cases hlt : k < l.length
    · by_cases h60 : k ≤ 60
      · obtain ⟨ad, hA, Ap, cp, Ak, ck, At, ct, x0, x1, x2, x3, x4, x5, x6, x7, x8, _⟩ := act_get (Kd.C_below HR.out HD.out.below) hlt
        subst hA
        obtain ⟨n6, hn6⟩ : ∃ n, n = l[k].2.2.2.1.length := ⟨_, rfl⟩
        obtain ⟨n7, hn7⟩ : ∃ n, n = l[k].2.2.2.2.1.length := ⟨_, rfl⟩
        obtain ⟨n8, hn8⟩ : ∃ n, n = l[k].2.2.2.2.2.length := ⟨_, rfl⟩
        rw [← hn6] at x6; rw [← hn7] at x7; rw [← hn8] at x8
        clear x0 x1 x2 x3 x4 x5 hn6 hn7 hn8
        go_wp2_with fail
        go_quiet (fail)
        go_wp2_with fail
        go_roundw
        case rel => exact ⟨_, k + 1, by omega, rfl, by go_num, ⟨by repeat (first | exact HD.out | apply Drawn0.step)⟩⟩
        case measure => simp [intOf]; omega
      · go_wp2_with fail
        all_goals go_ret
        all_goals exact ⟨⟨true, rfl, fun hb => absurd hb (by decide)⟩, by repeat (first | exact HD.out | apply Drawn0.step)⟩
    · go_wp2_with fail
      all_goals go_ret
      all_goals first
        | exact ⟨⟨true, rfl, fun hb => absurd hb (by decide)⟩, by repeat (first | exact HD.out | apply Drawn0.step)⟩
        | exact ⟨⟨_, rfl, fun _ => by omega⟩, by repeat (first | exact HD.out | apply Drawn0.step)⟩
end Go.Proofs.YteimienhaodfcaaK
