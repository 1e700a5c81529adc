/- Sorting in plain Lean: what swaps, rotations and merges make of a list. -/
set_option linter.unusedVariables false
namespace Go.Proofs.YtjhgckpcadngaaaGreatSrt
variable {α : Type}
/-- Only the places from a to b change, and they hold the same elements. -/
def Seg (a b : Nat) (L L' : List α) : Prop := L'.Perm L ∧ L'.take a = L.take a ∧ L'.drop b = L.drop b
theorem Seg.refl (a b : Nat) (L : List α) : Seg a b L L := ⟨.refl _, rfl, rfl⟩
theorem Seg.trans {a b : Nat} {L L' L'' : List α} (h : Seg a b L L') (h' : Seg a b L' L'') : Seg a b L L'' := ⟨h'.1.trans h.1, h'.2.1.trans h.2.1, h'.2.2.trans h.2.2⟩
theorem Seg.length {a b : Nat} {L L' : List α} (h : Seg a b L L') : L'.length = L.length := h.1.length_eq
theorem Seg.mono {a b a' b' : Nat} {L L' : List α} (h : Seg a b L L') (ha : a' ≤ a) (hb : b ≤ b') : Seg a' b' L L' := by
  refine ⟨h.1, ?_, ?_⟩
  · have := congrArg (List.take a') h.2.1
    rwa [List.take_take, List.take_take, Nat.min_eq_left ha] at this
  · have := congrArg (List.drop (b' - b)) h.2.2
    rwa [List.drop_drop, List.drop_drop, show b + (b' - b) = b' by omega] at this
theorem Seg.low {a b : Nat} {L L' : List α} (h : Seg a b L L') {k : Nat} (hk : k < a) : L'[k]? = L[k]? := by
  have := congrArg (·[k]?) h.2.1
  simpa [List.getElem?_take, hk] using this
theorem Seg.high {a b : Nat} {L L' : List α} (h : Seg a b L L') {k : Nat} (hk : b ≤ k) : L'[k]? = L[k]? := by
  have := congrArg (·[k - b]?) h.2.2
  simpa [List.getElem?_drop, show b + (k - b) = k by omega] using this
theorem split3 (a b : Nat) (L : List α) (hab : a ≤ b) : L = L.take a ++ ((L.take b).drop a ++ L.drop b) := by
  rw [← List.append_assoc]
  have h : L.take a ++ (L.take b).drop a = L.take b := by
    have := List.take_append_drop a (L.take b)
    rwa [List.take_take, Nat.min_eq_left hab] at this
  rw [h, List.take_append_drop]
theorem Seg.mid {a b : Nat} {L L' : List α} (h : Seg a b L L') (hab : a ≤ b) : ((L'.take b).drop a).Perm ((L.take b).drop a) := by
  have h1 := h.1
  rw [split3 a b L hab, split3 a b L' hab, h.2.1, h.2.2] at h1
  exact (List.perm_append_right_iff _).1 ((List.perm_append_left_iff _).1 h1)
theorem mem_mid {a b : Nat} {L : List α} {x : α} : x ∈ (L.take b).drop a ↔ ∃ k, a ≤ k ∧ k < b ∧ L[k]? = some x := by
  rw [List.mem_iff_getElem?]
  constructor
  · rintro ⟨i, hi⟩
    rw [List.getElem?_drop, List.getElem?_take] at hi
    split at hi
    · exact ⟨a + i, by omega, by omega, hi⟩
    · exact absurd hi (by simp)
  · rintro ⟨k, h1, h2, h3⟩
    refine ⟨k - a, ?_⟩
    rw [List.getElem?_drop, List.getElem?_take, show a + (k - a) = k by omega, if_pos h2, h3]
theorem Seg.mem {a b : Nat} {L L' : List α} (h : Seg a b L L') {i : Nat} {x : α} (h1 : a ≤ i) (h2 : i < b) (hx : L'[i]? = some x) : ∃ j, a ≤ j ∧ j < b ∧ L[j]? = some x :=
  mem_mid.1 ((h.mid (by omega)).mem_iff.1 (mem_mid.2 ⟨i, h1, h2, hx⟩))
/-- Two places change. -/
def swpAt (L : List α) (i j : Nat) : List α := match L[i]?, L[j]? with | some x, some y => (L.set i y).set j x | _, _ => L
theorem swpAt_eq {L : List α} {i j : Nat} (hi : i < L.length) (hj : j < L.length) : swpAt L i j = (L.set i L[j]).set j L[i] := by
  unfold swpAt; rw [List.getElem?_eq_getElem hi, List.getElem?_eq_getElem hj]
theorem swpAt_length (L : List α) (i j : Nat) : (swpAt L i j).length = L.length := by unfold swpAt; split <;> simp
theorem swpAt_get {L : List α} {i j : Nat} (hi : i < L.length) (hj : j < L.length) (k : Nat) : (swpAt L i j)[k]? = if k = j then L[i]? else if k = i then L[j]? else L[k]? := by
  rw [swpAt_eq hi hj]
  by_cases h1 : k = j
  · subst h1; rw [if_pos rfl, List.getElem?_set_self (by simpa using hj), List.getElem?_eq_getElem hi]
  · rw [if_neg h1, List.getElem?_set_ne (fun h => h1 h.symm)]
    by_cases h2 : k = i
    · subst h2; rw [if_pos rfl, List.getElem?_set_self hi, List.getElem?_eq_getElem hj]
    · rw [if_neg h2, List.getElem?_set_ne (fun h => h2 h.symm)]
theorem Seg_swp {L : List α} {a b i j : Nat} (hi : i < L.length) (hj : j < L.length) (ai : a ≤ i) (ib : i < b) (aj : a ≤ j) (jb : j < b) : Seg a b L (swpAt L i j) := by
  refine ⟨?_, ?_, ?_⟩
  · rw [swpAt_eq hi hj]; exact List.set_set_perm hi hj
  · rw [swpAt_eq hi hj, List.take_set_of_le (by omega), List.take_set_of_le (by omega)]
  · rw [swpAt_eq hi hj, List.drop_set_of_lt (by omega), List.drop_set_of_lt (by omega)]
variable (le : α → α → Prop)
def SortR (a b : Nat) (L : List α) : Prop := ∀ i j x y, a ≤ i → i < j → j < b → L[i]? = some x → L[j]? = some y → le x y
theorem SortR.mono {le : α → α → Prop} {a b a' b' : Nat} {L : List α} (h : SortR le a b L) (ha : a ≤ a') (hb : b' ≤ b) : SortR le a' b' L := fun i j x y h1 h2 h3 => h i j x y (by omega) h2 (by omega)
theorem SortR.small {le : α → α → Prop} {a b : Nat} (h : b ≤ a + 1) (L : List α) : SortR le a b L := fun i j x y h1 h2 h3 => by omega
theorem SortR.congr {le : α → α → Prop} {a b : Nat} {L L' : List α} (h : SortR le a b L) (e : ∀ k, a ≤ k → k < b → L'[k]? = L[k]?) : SortR le a b L' := fun i j x y h1 h2 h3 hx hy => h i j x y h1 h2 h3 ((e i h1 (by omega)) ▸ hx) ((e j (by omega) h3) ▸ hy)
/-- Two blocks change places: [a, m) and [m, b). -/
def RotOf (a m b : Nat) (L L' : List α) : Prop := ∀ k, L'[k]? = if k < a then L[k]? else if k < a + (b - m) then L[k + (m - a)]? else if k < b then L[k - (b - m)]? else L[k]?
/-- Two rows of n change places, from a on and from b on. -/
def SwpOf (a b n : Nat) (L L' : List α) : Prop := ∀ k, L'[k]? = if a ≤ k ∧ k < a + n then L[k + (b - a)]? else if b ≤ k ∧ k < b + n then L[k - (b - a)]? else L[k]?
theorem SwpOf.zero (a b : Nat) (L : List α) : SwpOf a b 0 L L := fun k => by rw [if_neg (by omega), if_neg (by omega)]
theorem SwpOf.step {a b n : Nat} {L L' : List α} (h : SwpOf a b n L L') (hab : a + n < b) (hi : a + n < L'.length) (hj : b + n < L'.length) : SwpOf a b (n + 1) L (swpAt L' (a + n) (b + n)) := fun k => by
  have e1 : L'[a + n]? = L[a + n]? := by rw [h (a + n), if_neg (by omega), if_neg (by omega)]
  have e2 : L'[b + n]? = L[b + n]? := by rw [h (b + n), if_neg (by omega), if_neg (by omega)]
  rw [swpAt_get hi hj, e1, e2, h k]
  by_cases h1 : k = b + n
  · subst h1
    rw [if_pos rfl, if_neg (by omega), if_pos (by omega)]
    congr 1; omega
  · rw [if_neg h1]
    by_cases h2 : k = a + n
    · subst h2
      rw [if_pos rfl, if_pos (by omega)]
      congr 1; omega
    · rw [if_neg h2]
      by_cases h3 : a ≤ k ∧ k < a + n
      · rw [if_pos h3, if_pos (by omega)]
      · rw [if_neg h3]
        by_cases h4 : b ≤ k ∧ k < b + n
        · rw [if_pos h4, if_neg (by omega), if_pos (by omega)]
        · rw [if_neg h4, if_neg (by omega), if_neg (by omega)]
theorem RotOf.done {m i : Nat} {C L' : List α} (h : SwpOf (m - i) m i C L') (hi : i ≤ m) : RotOf (m - i) m (m + i) C L' := fun k => by
  rw [h k]
  by_cases h1 : k < m - i
  · rw [if_neg (by omega), if_neg (by omega), if_pos h1]
  · rw [if_neg h1]
    by_cases h2 : k < m
    · rw [if_pos (by omega), if_pos (by omega)]
    · rw [if_neg (by omega)]
      by_cases h3 : k < m + i
      · rw [if_pos (by omega), if_neg (by omega), if_pos h3]
        congr 1; omega
      · rw [if_neg (by omega), if_neg (by omega), if_neg h3]
/-- i > j: the block behind goes to the front. -/
theorem RotOf.left {m i j : Nat} {C C' T : List α} (hs : SwpOf (m - i) m j C C') (h : RotOf (m - (i - j)) m (m + j) C' T) (hi : i ≤ m) (hij : j < i) : RotOf (m - i) m (m + j) C T := fun k => by
  rw [h k]
  by_cases h1 : k < m - (i - j)
  · rw [if_pos h1, hs k]
    by_cases h2 : k < m - i
    · rw [if_neg (by omega), if_neg (by omega), if_pos h2]
    · rw [if_pos (by omega), if_neg h2, if_pos (by omega)]
  · rw [if_neg h1, if_neg (show ¬ k < m - i by omega), if_neg (show ¬ k < m - i + (m + j - m) by omega)]
    by_cases h2 : k < m - (i - j) + (m + j - m)
    · rw [if_pos h2, if_pos (by omega), hs]
      rw [if_neg (by omega), if_pos (by omega)]
      congr 1; omega
    · rw [if_neg h2]
      by_cases h3 : k < m + j
      · rw [if_pos h3, if_pos h3, hs, if_neg (by omega), if_neg (by omega)]
      · rw [if_neg h3, if_neg h3, hs, if_neg (by omega), if_neg (by omega)]
/-- i < j: the block ahead goes to the end. -/
theorem RotOf.right {m i j : Nat} {C C' T : List α} (hs : SwpOf (m - i) (m + j - i) i C C') (h : RotOf (m - i) m (m + (j - i)) C' T) (hi : i ≤ m) (hij : i < j) : RotOf (m - i) m (m + j) C T := fun k => by
  rw [h k]
  by_cases h1 : k < m - i
  · rw [if_pos h1, if_pos h1, hs, if_neg (by omega), if_neg (by omega)]
  · rw [if_neg h1, if_neg h1]
    by_cases h2 : k < m - i + (m + (j - i) - m)
    · rw [if_pos h2, if_pos (by omega), hs]
      by_cases h3 : k + (m - (m - i)) < m
      · omega
      · rw [if_neg (by omega), if_neg (by omega)]
    · rw [if_neg h2]
      by_cases h3 : k < m + (j - i)
      · rw [if_pos h3, if_pos (by omega), hs, if_pos (by omega)]
        congr 1; omega
      · rw [if_neg h3, hs, if_neg (by omega)]
        by_cases h4 : k < m + j
        · rw [if_pos (by omega), if_neg (by omega), if_pos h4]
          congr 1; omega
        · rw [if_neg (by omega), if_neg (by omega), if_neg h4]
theorem SortR.join {le : α → α → Prop} {a c b : Nat} {L : List α} (h1 : SortR le a c L) (h2 : SortR le c b L) (hx : ∀ i j x y, a ≤ i → i < c → c ≤ j → j < b → L[i]? = some x → L[j]? = some y → le x y) : SortR le a b L := fun i j x y hi hij hj ex ey => by
  rcases Nat.lt_or_ge i c with h | h
  · rcases Nat.lt_or_ge j c with h' | h'
    · exact h1 i j x y hi hij h' ex ey
    · exact hx i j x y hi h h' hj ex ey
  · exact h2 i j x y h hij hj ex ey
theorem RotOf.front {st m en : Nat} {L L' : List α} (h : RotOf st m en L L') {k : Nat} (h1 : st ≤ k) (h2 : k < st + (en - m)) : L'[k]? = L[k + (m - st)]? := by rw [h k, if_neg (by omega), if_pos h2]
theorem RotOf.back {st m en : Nat} {L L' : List α} (h : RotOf st m en L L') {k : Nat} (hs : st ≤ m) (h1 : st + (en - m) ≤ k) (h2 : k < en) : L'[k]? = L[k - (en - m)]? := by rw [h k, if_neg (by omega), if_neg (by omega), if_pos h2]
theorem RotOf.out {st m en : Nat} {L L' : List α} (h : RotOf st m en L L') (hs : st ≤ m) (hm : m ≤ en) {k : Nat} (h1 : k < st ∨ en ≤ k) : L'[k]? = L[k]? := by
  rw [h k]
  rcases h1 with h1 | h1
  · rw [if_pos h1]
  · rw [if_neg (by omega), if_neg (by omega), if_neg (by omega)]
theorem RotOf.none1 {st en : Nat} (L : List α) : RotOf st st en L L := fun k => by
  rw [Nat.sub_self, Nat.add_zero]
  by_cases h1 : k < st
  · rw [if_pos h1]
  · rw [if_neg h1]
    by_cases h2 : k < st + (en - st)
    · rw [if_pos h2]
    · rw [if_neg h2, if_neg (by omega)]
theorem RotOf.none2 {st m : Nat} (L : List α) : RotOf st m m L L := fun k => by
  rw [Nat.sub_self, Nat.add_zero, Nat.sub_zero]
  by_cases h1 : k < st
  · rw [if_pos h1]
  · rw [if_neg h1, if_neg h1]; split <;> rfl
/-- One element ahead of a sorted row goes to its place. -/
theorem sort_one_left {le : α → α → Prop} {a b i : Nat} {L L' : List α} (hab : a + 1 < b) (hs : SortR le (a + 1) b L) (hi1 : a + 1 ≤ i) (hi2 : i ≤ b) (hr : RotOf a (a + 1) i L L')
    (tr : ∀ x y z, le x y → le y z → le x z)
    (lo : i = a + 1 ∨ ∀ x y, L[i - 1]? = some x → L[a]? = some y → le x y) (hi : i = b ∨ ∀ x y, L[a]? = some x → L[i]? = some y → le x y) : SortR le a b L' := by
  have g1 : ∀ k, a ≤ k → k < i - 1 → L'[k]? = L[k + 1]? := fun k h1 h2 => by rw [hr.front h1 (by omega)]; congr 1; omega
  have g2 : L'[i - 1]? = L[a]? := by rw [hr.back (by omega) (by omega) (by omega)]; congr 1; omega
  have g3 : ∀ k, i ≤ k → L'[k]? = L[k]? := fun k h => hr.out (by omega) (by omega) (.inr h)
  have lo' : ∀ k x y, a + 1 ≤ k → k < i → L[k]? = some x → L[a]? = some y → le x y := fun k x y h1 h2 hx hy => by
    rcases lo with h | h
    · omega
    · rcases Nat.lt_or_ge k (i - 1) with h3 | h3
      · have hlen : i - 1 < L.length ∨ L.length ≤ i - 1 := by omega
        rcases hlen with hl | hl
        · exact tr _ _ _ (hs k (i - 1) x L[i - 1] h1 h3 (by omega) hx (List.getElem?_eq_getElem hl)) (h _ _ (List.getElem?_eq_getElem hl) hy)
        · have e : L'[i - 1]? = none := by
            rw [List.getElem?_eq_none]
            have hn := hr (i - 1)
            have : L'.length ≤ i - 1 ∨ i - 1 < L'.length := by omega
            rcases this with h' | h'
            · exact h'
            · exfalso
              have hn2 : ∀ q, L.length ≤ q → i ≤ q + 1 → L'[q]? = none ∨ q = i - 1 := fun q hq1 hq2 => by
                rcases Nat.lt_or_ge q i with h5 | h5
                · exact .inr (by omega)
                · exact .inl (by rw [g3 q h5]; exact List.getElem?_eq_none hq1)
              have hn3 := hn2 i (by omega) (by omega)
              have hk := g1 (i - 2) (by omega) (by omega)
              rw [show i - 2 + 1 = i - 1 by omega, List.getElem?_eq_none hl] at hk
              have := List.getElem?_eq_none_iff.1 hk
              omega
          rw [g2, hy] at e; exact absurd e (by simp)
      · exact h x y (by rw [← hx]; congr 1; omega) hy
  have hi' : ∀ k x y, i ≤ k → k < b → L[a]? = some x → L[k]? = some y → le x y := fun k x y h1 h2 hx hy => by
    rcases hi with h | h
    · omega
    · rcases Nat.lt_or_ge i k with h3 | h3
      · obtain ⟨z, hz⟩ : ∃ z, L[i]? = some z := by
          have hk := (List.getElem?_eq_some_iff.1 hy).1
          exact ⟨L[i], List.getElem?_eq_getElem (by omega)⟩
        exact tr _ _ _ (h x z hx hz) (hs i k z y (by omega) h3 h2 hz hy)
      · exact h x y hx (by rw [← hy]; congr 1; omega)
  have s1 : SortR le a (i - 1) L' := fun p q x y h1 h2 h3 hx hy => hs (p + 1) (q + 1) x y (by omega) (by omega) (by omega) (g1 p h1 (by omega) ▸ hx) (g1 q (by omega) h3 ▸ hy)
  have s2 : SortR le i b L' := fun p q x y h1 h2 h3 hx hy => hs p q x y (by omega) h2 h3 (g3 p h1 ▸ hx) (g3 q (by omega) ▸ hy)
  have s3 : SortR le (i - 1) b L' := (SortR.small (by omega : i ≤ i - 1 + 1) L').join s2 fun p q x y h1 h2 h3 h4 hx hy => by
    obtain rfl : p = i - 1 := by omega
    exact hi' q x y h3 h4 (g2 ▸ hx) (g3 q h3 ▸ hy)
  refine s1.join s3 fun p q x y h1 h2 h3 h4 hx hy => ?_
  rw [g1 p h1 h2] at hx
  rcases Nat.lt_or_ge q i with h5 | h5
  · obtain rfl : q = i - 1 := by omega
    exact lo' (p + 1) x y (by omega) (by omega) hx (g2 ▸ hy)
  · exact hs (p + 1) q x y (by omega) (by omega) h4 hx (g3 q h5 ▸ hy)
/-- One element behind a sorted row goes to its place. -/
theorem sort_one_right {le : α → α → Prop} {a m i : Nat} {L L' : List α} (ham : a < m) (hml : m < L.length) (hs : SortR le a m L) (hi1 : a ≤ i) (hi2 : i ≤ m) (hr : RotOf i m (m + 1) L L')
    (tr : ∀ x y z, le x y → le y z → le x z)
    (lo : i = a ∨ ∀ x y, L[i - 1]? = some x → L[m]? = some y → le x y) (hi : i = m ∨ ∀ x y, L[m]? = some x → L[i]? = some y → le x y) : SortR le a (m + 1) L' := by
  have gs : ∀ k, k < m → ∃ z, L[k]? = some z := fun k hk => ⟨L[k], List.getElem?_eq_getElem (by omega)⟩
  have g1 : L'[i]? = L[m]? := by rw [hr.front (by omega) (by omega)]; congr 1; omega
  have g2 : ∀ k, i < k → k < m + 1 → L'[k]? = L[k - 1]? := fun k h1 h2 => by rw [hr.back (by omega) (by omega) (by omega)]; congr 1; omega
  have g3 : ∀ k, k < i → L'[k]? = L[k]? := fun k h => hr.out (by omega) (by omega) (.inl h)
  have lo' : ∀ k x y, a ≤ k → k < i → L[k]? = some x → L[m]? = some y → le x y := fun k x y h1 h2 hx hy => by
    rcases lo with h | h
    · omega
    · obtain ⟨z, hz⟩ := gs (i - 1) (by omega)
      rcases Nat.lt_or_ge k (i - 1) with h3 | h3
      · exact tr _ _ _ (hs k (i - 1) x z h1 h3 (by omega) hx hz) (h _ _ hz hy)
      · exact h x y (by rw [← hx]; congr 1; omega) hy
  have hi' : ∀ k x y, i ≤ k → k < m → L[m]? = some x → L[k]? = some y → le x y := fun k x y h1 h2 hx hy => by
    rcases hi with h | h
    · omega
    · obtain ⟨z, hz⟩ := gs i (by omega)
      rcases Nat.lt_or_ge i k with h3 | h3
      · exact tr _ _ _ (h x z hx hz) (hs i k z y (by omega) h3 h2 hz hy)
      · exact h x y hx (by rw [← hy]; congr 1; omega)
  have s1 : SortR le a i L' := fun p q x y h1 h2 h3 hx hy => hs p q x y h1 h2 (by omega) (g3 p (by omega) ▸ hx) (g3 q h3 ▸ hy)
  have s2 : SortR le (i + 1) (m + 1) L' := fun p q x y h1 h2 h3 hx hy => hs (p - 1) (q - 1) x y (by omega) (by omega) (by omega) (g2 p (by omega) (by omega) ▸ hx) (g2 q (by omega) (by omega) ▸ hy)
  have s3 : SortR le i (m + 1) L' := (SortR.small (by omega : i + 1 ≤ i + 1) L').join s2 fun p q x y h1 h2 h3 h4 hx hy => by
    obtain rfl : p = i := by omega
    exact hi' (q - 1) x y (by omega) (by omega) (g1 ▸ hx) (g2 q (by omega) h4 ▸ hy)
  refine s1.join s3 fun p q x y h1 h2 h3 h4 hx hy => ?_
  rw [g3 p h2] at hx
  rcases Nat.lt_or_ge i q with h5 | h5
  · exact hs p (q - 1) x y (by omega) (by omega) (by omega) hx (g2 q h5 h4 ▸ hy)
  · obtain rfl : q = i := by omega
    exact lo' p x y (by omega) (by omega) hx (g1 ▸ hy)
/-- A merge's cut: both halves are two sorted rows, and what is in the first is not above what is in the second. -/
theorem cut_sorted {le : α → α → Prop} {a m b mid st s0 r0 : Nat} {L L1 : List α} (ham : a < m) (hmb : m < b) (hbl : b ≤ L.length) (h1 : SortR le a m L) (h2 : SortR le m b L)
    (tr : ∀ x y z, le x y → le y z → le x z) (hmid : mid = (a + b) / 2)
    (hs0 : s0 = if mid < m then mid + m - b else a) (hr0 : r0 = if mid < m then mid else m) (hst : s0 ≤ st) (hst2 : st ≤ r0)
    (lo : st = s0 ∨ ∀ x y, L[st - 1]? = some x → L[mid + m - st]? = some y → le x y) (hi : st = r0 ∨ ∀ x y, L[mid + m - 1 - st]? = some x → L[st]? = some y → le x y)
    (hr : RotOf st m (mid + m - st) L L1) :
    a ≤ st ∧ st ≤ mid ∧ st ≤ m ∧ m ≤ mid + m - st ∧ mid ≤ mid + m - st ∧ mid + m - st ≤ b ∧ SortR le a st L1 ∧ SortR le st mid L1 ∧ SortR le mid (mid + m - st) L1 ∧ SortR le (mid + m - st) b L1 ∧
    ∀ i j x y, a ≤ i → i < mid → mid ≤ j → j < b → L1[i]? = some x → L1[j]? = some y → le x y := by
  have b1 : a ≤ s0 ∧ r0 ≤ mid ∧ r0 ≤ m ∧ mid + m - s0 ≤ b := by subst hs0 hr0; split <;> omega
  obtain ⟨en, hen⟩ : ∃ e, e = mid + m - st := ⟨_, rfl⟩
  rw [← hen] at hr lo ⊢
  have g1 : ∀ k, k < st → L1[k]? = L[k]? := fun k h => hr.out (by omega) (by omega) (.inl h)
  have g2 : ∀ k, st ≤ k → k < mid → L1[k]? = L[k + (m - st)]? := fun k h h' => hr.front h (by omega)
  have g3 : ∀ k, mid ≤ k → k < en → L1[k]? = L[k - (en - m)]? := fun k h h' => hr.back (by omega) (by omega) h'
  have g4 : ∀ k, en ≤ k → L1[k]? = L[k]? := fun k h => hr.out (by omega) (by omega) (.inr h)
  have gs : ∀ k, k < b → ∃ z, L[k]? = some z := fun k hk => ⟨L[k], List.getElem?_eq_getElem (by omega)⟩
  -- [a, st) against [en, b)
  have x1 : ∀ i j x y, a ≤ i → i < st → en ≤ j → j < b → L[i]? = some x → L[j]? = some y → le x y := fun i j x y c1 c2 c3 c4 hx hy => by
    rcases lo with h | h
    · exfalso; subst hs0; split at h <;> omega
    · obtain ⟨u, hu⟩ := gs (st - 1) (by omega)
      obtain ⟨v, hv⟩ := gs en (by omega)
      have k1 := h u v hu hv
      have k2 : i = st - 1 ∧ x = u ∨ le x u := by
        rcases Nat.lt_or_ge i (st - 1) with h' | h'
        · exact .inr (h1 i (st - 1) x u c1 h' (by omega) hx hu)
        · obtain rfl : i = st - 1 := by omega
          exact .inl ⟨rfl, by rw [hu] at hx; exact (Option.some.inj hx).symm⟩
      have k3 : y = v ∨ le v y := by
        rcases Nat.lt_or_ge en j with h' | h'
        · exact .inr (h2 en j v y (by omega) h' c4 hv hy)
        · obtain rfl : j = en := by omega
          exact .inl (by rw [hv] at hy; exact (Option.some.inj hy).symm)
      have k4 : le x v := by
        rcases k2 with ⟨_, rfl⟩ | k2
        · exact k1
        · exact tr _ _ _ k2 k1
      rcases k3 with rfl | k3
      · exact k4
      · exact tr _ _ _ k4 k3
  -- [m, en) against [st, m)
  have x2 : ∀ i j x y, m ≤ i → i < en → st ≤ j → j < m → L[i]? = some x → L[j]? = some y → le x y := fun i j x y c1 c2 c3 c4 hx hy => by
    rcases hi with h | h
    · exfalso; subst hr0; split at h <;> omega
    · obtain ⟨u, hu⟩ := gs (en - 1) (by omega)
      obtain ⟨v, hv⟩ := gs st (by omega)
      have k1 := h u v (by rw [← hu]; congr 1; omega) hv
      have k2 : x = u ∨ le x u := by
        rcases Nat.lt_or_ge i (en - 1) with h' | h'
        · exact .inr (h2 i (en - 1) x u c1 h' (by omega) hx hu)
        · obtain rfl : i = en - 1 := by omega
          exact .inl (by rw [hu] at hx; exact (Option.some.inj hx).symm)
      have k3 : y = v ∨ le v y := by
        rcases Nat.lt_or_ge st j with h' | h'
        · exact .inr (h1 st j v y (by omega) h' c4 hv hy)
        · obtain rfl : j = st := by omega
          exact .inl (by rw [hv] at hy; exact (Option.some.inj hy).symm)
      have k4 : le x v := by
        rcases k2 with rfl | k2
        · exact k1
        · exact tr _ _ _ k2 k1
      rcases k3 with rfl | k3
      · exact k4
      · exact tr _ _ _ k4 k3
  refine ⟨by omega, by omega, by omega, by omega, by omega, by omega, ?_, ?_, ?_, ?_, ?_⟩
  · exact fun i j x y c1 c2 c3 hx hy => h1 i j x y c1 c2 (by omega) (g1 i (by omega) ▸ hx) (g1 j c3 ▸ hy)
  · exact fun i j x y c1 c2 c3 hx hy => h2 _ _ x y (by omega) (by omega) (by omega) (g2 i c1 (by omega) ▸ hx) (g2 j (by omega) c3 ▸ hy)
  · exact fun i j x y c1 c2 c3 hx hy => h1 _ _ x y (by omega) (by omega) (by omega) (g3 i c1 (by omega) ▸ hx) (g3 j (by omega) c3 ▸ hy)
  · exact fun i j x y c1 c2 c3 hx hy => h2 i j x y (by omega) c2 c3 (g4 i c1 ▸ hx) (g4 j (by omega) ▸ hy)
  · intro i j x y c1 c2 c3 c4 hx hy
    rcases Nat.lt_or_ge i st with hi' | hi'
    · rw [g1 i hi'] at hx
      rcases Nat.lt_or_ge j en with hj' | hj'
      · rw [g3 j c3 hj'] at hy
        exact h1 i _ x y c1 (by omega) (by omega) hx hy
      · rw [g4 j hj'] at hy
        exact x1 i j x y c1 hi' hj' c4 hx hy
    · rw [g2 i hi' c2] at hx
      rcases Nat.lt_or_ge j en with hj' | hj'
      · rw [g3 j c3 hj'] at hy
        exact x2 _ _ x y (by omega) (by omega) (by omega) (by omega) hx hy
      · rw [g4 j hj'] at hy
        exact h2 _ j x y (by omega) (by omega) c4 hx hy
/-- Both halves sorted: the whole is. -/
theorem halves {le : α → α → Prop} {a mid b : Nat} {L1 L2 L3 : List α} (ha : a ≤ mid) (hb : mid ≤ b) (hx : ∀ i j x y, a ≤ i → i < mid → mid ≤ j → j < b → L1[i]? = some x → L1[j]? = some y → le x y)
    (s2 : Seg a mid L1 L2) (h2 : SortR le a mid L2) (s3 : Seg mid b L2 L3) (h3 : SortR le mid b L3) : SortR le a b L3 := by
  have h2' : SortR le a mid L3 := h2.congr fun k _ hk => s3.low hk
  refine h2'.join h3 fun i j x y c1 c2 c3 c4 ex ey => ?_
  rw [s3.low c2] at ex
  obtain ⟨i', d1, d2, ex'⟩ := s2.mem c1 c2 ex
  obtain ⟨j', d3, d4, ey'⟩ := s3.mem c3 c4 ey
  rw [s2.high d3] at ey'
  exact hx i' j' x y d1 d2 d3 d4 ex' ey'
theorem RotOf.stepR {a k : Nat} {L C : List α} (h : RotOf a (a + 1) (k + 1) L C) (hak : a ≤ k) (hk : k + 1 < C.length) : RotOf a (a + 1) (k + 2) L (swpAt C k (k + 1)) := fun j => by
  rw [swpAt_get (by omega) hk]
  by_cases h1 : j = k + 1
  · subst h1
    rw [if_pos rfl, h k, if_neg (by omega), if_neg (by omega), if_pos (by omega), if_neg (by omega), if_neg (by omega), if_pos (by omega)]
    congr 1; omega
  · rw [if_neg h1]
    by_cases h2 : j = k
    · subst h2
      rw [if_pos rfl, h (j + 1), if_neg (by omega), if_neg (by omega), if_neg (by omega), if_neg (by omega), if_pos (by omega)]
      congr 1; omega
    · rw [if_neg h2, h j]
      by_cases h3 : j < a
      · rw [if_pos h3, if_pos h3]
      · rw [if_neg h3, if_neg h3]
        by_cases h4 : j < k
        · rw [if_pos (by omega), if_pos (by omega)]
        · rw [if_neg (by omega), if_neg (by omega), if_neg (by omega), if_neg (by omega)]
theorem RotOf.stepL {q m : Nat} {L C : List α} (h : RotOf (q + 1) m (m + 1) L C) (hq : q + 1 ≤ m) (hm : m < C.length) : RotOf q m (m + 1) L (swpAt C (q + 1) q) := fun j => by
  have c1 : C[q + 1]? = L[m]? := by
    rw [h (q + 1), if_neg (by omega), if_pos (by omega)]; congr 1; omega
  have c2 : C[q]? = L[q]? := by rw [h q, if_pos (by omega)]
  rw [swpAt_get (by omega) (by omega), c1, c2]
  by_cases h1 : j = q
  · rw [if_pos h1, if_neg (by omega), if_pos (by omega)]
    congr 1; omega
  · rw [if_neg h1]
    by_cases h2 : j = q + 1
    · rw [if_pos h2, if_neg (by omega), if_neg (by omega), if_pos (by omega)]
      congr 1; omega
    · rw [if_neg h2, h j]
      by_cases h3 : j < q
      · rw [if_pos (by omega), if_pos h3]
      · have n1 : ¬ j < q + 1 := by omega
        have n2 : ¬ j < q + 1 + (m + 1 - m) := by omega
        have n3 : ¬ j < q + (m + 1 - m) := by omega
        rw [if_neg n1, if_neg n2, if_neg h3, if_neg n3]
/-- The inner loop of the insertion sort: all but the place q stands in order. -/
def Ins (le : α → α → Prop) (a q k : Nat) (L : List α) : Prop := ∀ i j x y, a ≤ i → i < j → j ≤ k → j ≠ q → L[i]? = some x → L[j]? = some y → le x y
theorem Ins.start {le : α → α → Prop} {a k : Nat} {L : List α} (h : SortR le a k L) : Ins le a k k L := fun i j x y h1 h2 h3 h4 => h i j x y h1 h2 (by omega)
theorem Ins.atLeft {le : α → α → Prop} {a k : Nat} {L : List α} (h : Ins le a a k L) : SortR le a (k + 1) L := fun i j x y h1 h2 h3 => h i j x y h1 h2 (by omega) (by omega)
theorem Ins.stop {le : α → α → Prop} {a q k : Nat} {L : List α} (tr : ∀ x y z, le x y → le y z → le x z) (h : Ins le a (q + 1) k L) (hq : q + 1 < L.length) (hc : le L[q] L[q + 1]) : SortR le a (k + 1) L := fun i j x y h1 h2 h3 ex ey => by
  by_cases e : j = q + 1
  · subst e
    have ey' : y = L[q + 1] := by rw [List.getElem?_eq_getElem hq] at ey; exact (Option.some.inj ey).symm
    rw [ey']
    rcases Nat.lt_or_ge i q with h5 | h5
    · exact tr _ _ _ (h i q x L[q] h1 h5 (by omega) (by omega) ex (List.getElem?_eq_getElem (by omega))) hc
    · obtain rfl : i = q := by omega
      have ex' : x = L[i] := by rw [List.getElem?_eq_getElem (by omega)] at ex; exact (Option.some.inj ex).symm
      rw [ex']; exact hc
  · exact h i j x y h1 h2 (by omega) e ex ey
theorem Ins.step {le : α → α → Prop} {a q k : Nat} {L : List α} (ha : a ≤ q) (h : Ins le a (q + 1) k L) (hq : q + 1 < L.length) (hc : le L[q + 1] L[q]) : Ins le a q k (swpAt L (q + 1) q) := fun i j x y h1 h2 h3 h4 ex ey => by
  rw [swpAt_get hq (by omega)] at ex ey
  rw [if_neg h4] at ey
  by_cases e : j = q + 1
  · rw [if_pos e] at ey
    have ey' : y = L[q] := by rw [List.getElem?_eq_getElem (by omega)] at ey; exact (Option.some.inj ey).symm
    rw [ey']
    by_cases e2 : i = q
    · rw [if_pos e2, List.getElem?_eq_getElem hq] at ex
      have ex' : x = L[q + 1] := (Option.some.inj ex).symm
      rw [ex']; exact hc
    · rw [if_neg e2, if_neg (by omega)] at ex
      exact h i q x L[q] h1 (by omega) (by omega) (by omega) ex (List.getElem?_eq_getElem (by omega))
  · rw [if_neg e] at ey
    by_cases e2 : i = q
    · rw [if_pos e2] at ex
      exact h (q + 1) j x y (by omega) (by omega) h3 e ex ey
    · rw [if_neg e2] at ex
      by_cases e3 : i = q + 1
      · rw [if_pos e3] at ex
        exact h q j x y (by omega) (by omega) h3 e ex ey
      · rw [if_neg e3] at ex
        exact h i j x y h1 h2 h3 e ex ey
end Go.Proofs.YtjhgckpcadngaaaGreatSrt
