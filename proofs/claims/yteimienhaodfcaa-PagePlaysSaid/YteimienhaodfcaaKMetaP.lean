/- Metas' bytes, pure. -/
import Derived.Test.YteimienhaodfcaaKMetaC
namespace Go.Proofs.YteimienhaodfcaaK
open Go.RowKit Go.Proofs.YteimienhaodfcaaW.PrintWords Go.Proofs.YteimienhaodfcaaW.PrintLast Go.Proofs.YteimienhaodfcaaW.PrintMore Go.Crc
set_option linter.unusedVariables false
set_option linter.unusedSimpArgs false
/-- A meta's first 24 bytes. -/
def headM (s r k d : Int) : List Int := be 8 s ++ (be 4 r ++ (be 8 k ++ be 4 d))
theorem headM_length (s r k d : Int) : (headM s r k d).length = 24 := rfl
theorem body24_shape (s r k d : Int) : body24 s r k d = headM s r k d ++ zeros 12 := by
  simp [body24, headM, layL, be, zeros, List.replicate_succ]
theorem metaB_shape (s r k d : Int) : metaB s r k d = headM s r k d ++ (be 4 (crc (headM s r k d)) ++ be 8 s) := by
  have h1 : (body24 s r k d).take 24 = headM s r k d := by rw [body24_shape, List.take_left' (headM_length _ _ _ _)]
  unfold metaB
  rw [h1, body24_shape]
  have h2 : layL (headM s r k d ++ zeros 12) 24 4 (crc (headM s r k d)) = headM s r k d ++ (be 4 (crc (headM s r k d)) ++ zeros 8) := by
    unfold layL
    rw [List.take_left' (headM_length _ _ _ _), ← List.drop_drop, List.drop_left' (headM_length _ _ _ _)]
    rfl
  rw [h2]
  unfold layL
  have h3 : (headM s r k d ++ (be 4 (crc (headM s r k d)) ++ zeros 8)).take 28 = headM s r k d ++ be 4 (crc (headM s r k d)) := by
    rw [← List.append_assoc, List.take_left' (show (headM s r k d ++ be 4 (crc (headM s r k d))).length = 28 by rw [List.length_append, headM_length, be_length])]
  rw [h3, List.drop_eq_nil_of_le (by simp [headM_length, be_length, zeros]), List.append_nil, List.append_assoc]
theorem tolL_cons (a : Int) (l : List Int) : tolL (a :: l) = a * 256 ^ l.length + tolL l := by
  have gen : ∀ (l : List Int) (n : Int), l.foldl (fun n c => n * 256 + c) n = n * 256 ^ l.length + tolL l := by
    intro l
    induction l with
    | nil => intro n; simp [tolL]
    | cons b l ih =>
      intro n
      unfold tolL
      rw [List.foldl_cons, List.foldl_cons, ih, ih, List.length_cons, Int.pow_succ, Int.add_mul]
      have : n * 256 * 256 ^ l.length = n * (256 ^ l.length * 256) := by rw [Int.mul_assoc, Int.mul_comm 256]
      rw [this, Int.zero_mul, Int.zero_add, Int.add_assoc]
  unfold tolL
  rw [List.foldl_cons, gen, Int.zero_mul, Int.zero_add]; rfl
theorem tolL_be (n : Nat) (v : Int) (hv : 0 ≤ v) : tolL (be n v) = v % 256 ^ n := by
  induction n with
  | zero => simp [tolL, be, Int.emod_one]
  | succ n ih =>
    rw [be_succ, tolL_cons, ih, be_length]
    obtain ⟨m, rfl⟩ : ∃ m : Nat, v = m := ⟨v.toNat, by omega⟩
    have := Nat.mod_mul (x := m) (a := 256 ^ n) (b := 256)
    have e : ((256 : Int) ^ n) = ((256 ^ n : Nat) : Int) := by simp
    rw [Int.pow_succ, e]
    have h2 : ((m % (256 ^ n * 256) : Nat) : Int) = ((m % 256 ^ n + 256 ^ n * (m / 256 ^ n % 256) : Nat) : Int) := by rw [this]
    rw [Int.natCast_emod] at h2
    rw [show ((256 ^ n : Nat) : Int) * 256 = ((256 ^ n * 256 : Nat) : Int) by simp, h2]
    simp only [Int.natCast_add, Int.natCast_mul, Int.natCast_emod, Int.natCast_ediv]
    rw [Int.mul_comm, Int.add_comm]; rfl
theorem tolL_be8 (v : Int) (h0 : 0 ≤ v) (h1 : v < 18446744073709551616) : tolL (be 8 v) = v := by
  rw [tolL_be 8 v h0]; exact Int.emod_eq_of_lt h0 (by rw [show (256 : Int) ^ 8 = 18446744073709551616 by decide]; exact h1)
theorem tolL_be4 (v : Int) (h0 : 0 ≤ v) (h1 : v < 4294967296) : tolL (be 4 v) = v := by
  rw [tolL_be 4 v h0]; exact Int.emod_eq_of_lt h0 (by rw [show (256 : Int) ^ 4 = 4294967296 by decide]; exact h1)
theorem seg0 (s r k d : Int) (t : List Int) : (((headM s r k d ++ t).take 8).drop 0) = be 8 s := by simp [headM, be]
theorem seg1 (s r k d : Int) (t : List Int) : (((headM s r k d ++ t).take 12).drop 8) = be 4 r := by simp [headM, be]
theorem seg2 (s r k d : Int) (t : List Int) : (((headM s r k d ++ t).take 20).drop 12) = be 8 k := by simp [headM, be]
theorem seg3 (s r k d : Int) (t : List Int) : (((headM s r k d ++ t).take 24).drop 20) = be 4 d := by simp [headM, be]
theorem metaB_segs (s r k d : Int) (hs : 0 ≤ s ∧ s < 18446744073709551616) (hr : 0 ≤ r ∧ r < 4294967296) (hk : 0 ≤ k ∧ k < 18446744073709551616) (hd : 0 ≤ d ∧ d < 4294967296) (t : List Int) :
    segM (metaB s r k d ++ t) 0 8 = s ∧ segM (metaB s r k d ++ t) 8 12 = r ∧ segM (metaB s r k d ++ t) 12 20 = k ∧ segM (metaB s r k d ++ t) 20 24 = d := by
  unfold segM
  rw [metaB_shape, List.append_assoc, seg0, seg1, seg2, seg3]
  exact ⟨tolL_be8 s hs.1 hs.2, tolL_be4 r hr.1 hr.2, tolL_be8 k hk.1 hk.2, tolL_be4 d hd.1 hd.2⟩
/-- A meta that may be is told by its bytes, zeros behind them or not. -/
theorem getM_ok (s r k d : Int) (hs : 1 ≤ s ∧ s < 18446744073709551616) (hr : 0 ≤ r ∧ r ≤ 16384) (hk : 0 ≤ k ∧ k ≤ 2147483647) (hd : 0 ≤ d ∧ d ≤ 64) (n : Nat) : getM (metaB s r k d ++ zeros n) = (s, r, k, d, 0) := by
  obtain ⟨e0, e1, e2, e3⟩ := metaB_segs s r k d ⟨by omega, hs.2⟩ ⟨hr.1, by omega⟩ ⟨hk.1, by omega⟩ ⟨hd.1, by omega⟩ (zeros n)
  have hl := metaB_length s r k d
  unfold getM
  rw [if_neg (by rw [List.length_append, hl]; omega), if_neg (by rw [List.drop_left' hl]; simp [zeros]), e0, e1, e2, e3, if_neg (by omega), if_neg (by rw [List.take_left' hl]; simp; omega)]
theorem u64_small {x : Int} (h0 : 0 ≤ x) (h1 : x < 18446744073709551616) : IntKind.u64.wrap x = x := by rw [IntKind.wrap_u64]; omega
theorem getM_meta (s r k d : Int) (hs : 1 ≤ s ∧ s < 18446744073709551616) (hr : 0 ≤ r ∧ r ≤ 16384) (hk : 0 ≤ k ∧ k ≤ 2147483647) (hd : 0 ≤ d ∧ d ≤ 64) : getM (metaOf s r k d) = (s, r, k, d, 0) := by
  unfold metaOf
  rw [u64_small hr.1 (by omega), u64_small hk.1 (by omega), u64_small hd.1 (by omega)]
  have := getM_ok s r k d hs hr hk hd 0
  simpa [zeros] using this
theorem getM_cases (l : List Int) (hb : Bytes l) : getM l = (0, 0, 0, 0, 40) ∨ ∃ s r k d, (1 ≤ s ∧ s < 18446744073709551616) ∧ (0 ≤ r ∧ r ≤ 16384) ∧ (0 ≤ k ∧ k ≤ 2147483647) ∧ (0 ≤ d ∧ d ≤ 64) ∧ l.take 36 = metaB s r k d ∧ getM l = (s, r, k, d, 0) := by
  have hp : ∀ lo hi, 0 ≤ segM l lo hi := fun lo hi => (tolL_lt _ fun x hx => hb x (List.mem_of_mem_take (List.mem_of_mem_drop hx))).1
  unfold getM
  split
  · exact .inl rfl
  rename_i h1
  split
  · exact .inl rfl
  split
  · exact .inl rfl
  rename_i h3
  split
  · exact .inl rfl
  rename_i h4
  refine .inr ⟨_, _, _, _, ?_, ?_, ?_, ?_, (Decidable.not_not.1 fun h => h4 (.inr fun e => h e.symm)), rfl⟩
  · have h5 := tolL_lt ((l.take 8).drop 0) fun x hx => hb x (List.mem_of_mem_take (List.mem_of_mem_drop hx))
    have h8 : ((l.take 8).drop 0).length = 8 := by rw [List.length_drop, List.length_take]; omega
    rw [h8] at h5
    have : ¬ segM l 0 8 = 0 := fun h => h4 (.inl h)
    have h0 := hp 0 8
    exact ⟨by omega, Int.lt_of_lt_of_le h5.2 (by decide)⟩
  · have := hp 8 12; constructor <;> omega
  · have := hp 12 20; constructor <;> omega
  · have := hp 20 24; constructor <;> omega
theorem crc_rng (l : List Int) : 0 ≤ crc l ∧ crc l < 4294967296 := by
  have := from_lt 4294967295 l (by decide); unfold crc; omega
theorem be4_inj_ {x y : Int} (hx : 0 ≤ x ∧ x < 4294967296) (hy : 0 ≤ y ∧ y < 4294967296) (h : be 4 x = be 4 y) : x = y := by
  rw [← tolL_be4 x hx.1 hx.2, ← tolL_be4 y hy.1 hy.2, h]
theorem rd_drop_ (l : List Int) (i : Nat) (h : i < l.length) : l.drop i = rd l i :: l.drop (i + 1) := by
  rw [List.drop_eq_getElem_cons h]; simp [rd, List.getD_eq_getElem?_getD, List.getElem?_eq_getElem h]
theorem other_sum_ (p : List Int) (i : Nat) (y : Int) (hi : i < p.length) (hb : Bytes p) (hy : 0 ≤ y ∧ y < 256) (h : crc (p.set i y) = crc p) : y = rd p i := by
  have hx := hb _ (rd_in p i hi)
  have e1 : p = p.take i ++ rd p i :: p.drop (i + 1) := by rw [← rd_drop_ p i hi, List.take_append_drop]
  have e2 : p.set i y = p.take i ++ y :: p.drop (i + 1) := List.set_eq_take_append_cons_drop.trans (by rw [if_pos hi])
  have hs : sum (nat (p.set i y)) = sum (nat p) := by
    have : ((sum (nat (p.set i y)) : Nat) : Int) = ((sum (nat p) : Nat) : Int) := h
    omega
  rw [e2] at hs
  have hs2 : sum (nat (p.take i ++ y :: p.drop (i + 1))) = sum (nat (p.take i ++ rd p i :: p.drop (i + 1))) := by rw [hs, ← e1]
  unfold nat at hs2
  rw [List.map_append, List.map_append, List.map_cons, List.map_cons] at hs2
  have := sum_other _ _ _ _ (by omega) (by omega) hs2
  omega
theorem headM_bytes (s r k d : Int) : Bytes (headM s r k d) := Bytes.append (be_bytes _ _) (Bytes.append (be_bytes _ _) (Bytes.append (be_bytes _ _) (be_bytes _ _)))
/-- Two metas' bytes with the same first 24 ones are the same. -/
theorem metaB_head {s r k d s' r' k' d' : Int} (h : headM s' r' k' d' = headM s r k d) : metaB s' r' k' d' = metaB s r k d := by
  rw [metaB_shape, metaB_shape, h]
  have e : be 8 s' = be 8 s := by
    have h1 := seg0 s' r' k' d' []; have h2 := seg0 s r k d []
    rw [← h1, ← h2, h]
  rw [e]
/-- One byte that is another one: no meta. -/
theorem getM_set (s r k d : Int) (i : Nat) (y : Int) (hi : i < 36) (hy : 0 ≤ y ∧ y < 256) (hne : ¬ rd (metaB s r k d) i = y) : getM ((metaB s r k d).set i y) = (0, 0, 0, 0, 40) := by
  have hl := metaB_length s r k d
  have hb : Bytes ((metaB s r k d).set i y) := fun x hx => (List.mem_or_eq_of_mem_set hx).elim (metaB_bytes s r k d x) fun e => by rw [e]; exact hy
  rcases getM_cases _ hb with h | ⟨s', r', k', d', _, _, _, _, ht, _⟩
  · exact h
  · exfalso
    rw [List.take_of_length_le (by rw [List.length_set, hl]; exact Nat.le_refl _)] at ht
    rw [metaB_shape s r k d, metaB_shape s' r' k' d'] at ht
    by_cases h24 : i < 24
    · rw [List.set_append_left _ _ (by rw [headM_length]; exact h24)] at ht
      have hh := List.append_inj ht (by rw [List.length_set, headM_length, headM_length])
      have hc := List.append_inj hh.2 (by rw [be_length, be_length])
      have h1 := be4_inj_ (crc_rng _) (crc_rng _) hc.1
      rw [← hh.1] at h1
      have h2 := other_sum_ (headM s r k d) i y (by rw [headM_length]; exact h24) (headM_bytes _ _ _ _) hy h1.symm
      apply hne
      rw [h2, metaB_shape]
      simp only [rd, Int.toNat_natCast, List.getD_eq_getElem?_getD]
      rw [List.getElem?_append_left (by rw [headM_length]; exact h24)]
    · have e := congrArg (List.take 24) ht
      rw [List.set_append_right _ _ (by rw [headM_length]; omega), List.take_left' (headM_length _ _ _ _), List.take_left' (headM_length _ _ _ _)] at e
      have e2 := metaB_head e.symm
      rw [← metaB_shape, ← metaB_shape, e2] at ht
      apply hne
      have e3 := congrArg (fun l => l[i]?) ht
      simp only [List.getElem?_set_self (show i < (metaB s r k d).length by rw [hl]; exact hi)] at e3
      simp only [rd, Int.toNat_natCast, List.getD_eq_getElem?_getD, ← e3, Option.getD_some]
end Go.Proofs.YteimienhaodfcaaK
