-- Written by a program of this session (wip/myprint.py), which drives the kit's print; read and checked by Lean alone.
import Derived.Test.YteimienhaodfcaaPMetax0
import Derived.Test.YteimienhaodfcaaPMetax2
import Derived.Test.YteimienhaodfcaaPMetax3
namespace Go.Proofs.Yteimienhaodfcaa.PMeta
open Go.RowKit Go.Proofs.YteimienhaodfcaaW.PrintWords Go.Proofs.YteimienhaodfcaaW.PrintLast Go.Proofs.YteimienhaodfcaaW.PrintMore
attribute [local go_sem] max2_int min2_int max_two min_two max_three min_three max_four min_four   -- for this text's walks alone
set_option linter.unusedVariables false
set_option linter.unusedSimpArgs false


/-! ### klaxonlaw04_MetaBytes: function 7 -/
open Go.Proofs.YteimienhaodfcaaK Go.Crc
namespace MBy
theorem crc_l0_eq (k : Nat) (x0 : List Int) (x3 x4 : Int) : klaxonref01_Crc.l0 (k + 1) x0 x3 x4 = if x4 < (x0.length : Int) then (klaxonref01_Crc.l1 k x0 x3 x4 0) else (some x3) := by rw [klaxonref01_Crc.l0]
theorem crc_l1_eq (k : Nat) (x0 : List Int) (x3 x4 x5 : Int) : klaxonref01_Crc.l1 (k + 1) x0 x3 x4 x5 = if x5 < 8 then (if 0 ≤ x4 then (if x4 < (x0.length : Int) then (if 0 ≤ (IntKind.u64.wrap (x5)) then (if (Go.bits .and .u32 (Go.bits .xor .u32 x3 (shr .u32 ((rd x0 x4) % 4294967296) (IntKind.u64.wrap (x5)))) 1) = 1 then (klaxonref01_Crc.l1 k x0 (Go.bits .xor .u32 (x3 / 2) 3945912366) x4 (wrap64 (x5 + 1))) else (klaxonref01_Crc.l1 k x0 (x3 / 2) x4 (wrap64 (x5 + 1)))) else (none)) else (none)) else (none)) else (klaxonref01_Crc.l0 k x0 x3 (wrap64 (x4 + 1))) := by rw [klaxonref01_Crc.l1]
theorem crc_bits (l : List Int) (i p : Nat) (hi : i < l.length) (hp : rd l i = p) (hp2 : p < 256) (r : Int) (d : Nat) : ∀ (m j : Nat), j + d = 8 → m < 4294967296 →
    Ev (fun k => klaxonref01_Crc.l0 k l ((run m (bitsOf d (p / 2 ^ j)) : Nat) : Int) (wrap64 ((i : Int) + 1))) r → Ev (fun k => klaxonref01_Crc.l1 k l (m : Int) (i : Int) (j : Int)) r := by
  induction d with
  | zero =>
    intro m j hj hm h
    have h : Ev (fun k => klaxonref01_Crc.l0 k l (m : Int) (wrap64 ((i : Int) + 1))) r := h
    exact Ev.step (fun k => crc_l1_eq k _ _ _ _) (Ev.neg_ (by omega) h)
  | succ d ih =>
    intro m j hj hm h
    have a1 : (j : Int) < 8 := by omega
    have a2 : (0 : Int) ≤ (i : Int) := by omega
    have a3 : (i : Int) < (l.length : Int) := by omega
    have a4 : m / 2 < 4294967296 := by omega
    have ej : wrap64 ((j : Int) + 1) = ((j + 1 : Nat) : Int) := by rw [wrap64_id (by omega) (by omega)]; omega
    have hm2 : ((m : Int) / 2) = ((m / 2 : Nat) : Int) := by omega
    have a6 : j + 1 + d = 8 := by omega
    have hw : IntKind.u64.wrap (j : Int) = j := by rw [IntKind.wrap_u64]; omega
    have hpj : p / 2 ^ j < 4294967296 := Nat.lt_of_le_of_lt (Nat.div_le_self _ _) (by omega)
    have hs : shr .u32 (rd l i % 4294967296) (IntKind.u64.wrap (j : Int)) = ((p / 2 ^ j : Nat) : Int) := by
      rw [hw, hp, show ((p : Int) % 4294967296) = (p : Int) by omega]
      unfold shr
      rw [show min (j : Int).toNat IntKind.u32.bits = j by rw [show IntKind.u32.bits = 32 from rfl]; omega]
      norm_cast
    have hx : Go.bits .and .u32 (Go.bits .xor .u32 (m : Int) (shr .u32 (rd l i % 4294967296) (IntKind.u64.wrap (j : Int)))) 1 = (((m ^^^ (p / 2 ^ j)) % 2 : Nat) : Int) := by
      rw [hs, u32_xor_nat m _ hm hpj, and1 _ (xor_lt hm hpj)]
    have hb : (m ^^^ (p / 2 ^ j)) % 2 = (m ^^^ (p / 2 ^ j % 2)) % 2 := by rw [xor_mod2, xor_mod2]; omega
    have e3 : (m ^^^ (p / 2 ^ j % 2)) / 2 = m / 2 := by rw [Nat.xor_div_two, show p / 2 ^ j % 2 / 2 = 0 by omega, Nat.xor_zero]
    have ed : p / 2 ^ j / 2 = p / 2 ^ (j + 1) := by rw [Nat.div_div_eq_div_mul, Nat.pow_succ]
    rw [bitsOf, run, ed] at h
    have a5 : 0 ≤ IntKind.u64.wrap (j : Int) := by rw [hw]; exact Int.natCast_nonneg _
    have a7 : p / 2 ^ j % 2 < 4294967296 := Nat.lt_of_lt_of_le (Nat.mod_lt _ (by decide)) (by decide)
    have e : ∀ k, klaxonref01_Crc.l1 (k + 1) l (m : Int) (i : Int) (j : Int) = klaxonref01_Crc.l1 k l ((stp (m ^^^ (p / 2 ^ j % 2)) : Nat) : Int) (i : Int) ((j + 1 : Nat) : Int) := by
      intro k
      rw [crc_l1_eq, if_pos a1, if_pos a2, if_pos a3, if_pos a5, hx, hb, hm2, xorP _ a4, ej]
      unfold stp
      rw [e3]
      clear ej hm2 hw hs hx hb e3 ed h hpj a5 a7
      by_cases h1 : (m ^^^ (p / 2 ^ j % 2)) % 2 = 1
      · rw [if_pos (show (((m ^^^ (p / 2 ^ j % 2)) % 2 : Nat) : Int) = 1 by rw [h1]; rfl), if_pos h1]
      · rw [if_neg (show ¬ (((m ^^^ (p / 2 ^ j % 2)) % 2 : Nat) : Int) = 1 from fun hc => h1 (Int.ofNat.inj hc)), if_neg h1]
    exact Ev.step e (ih _ _ a6 (stp_lt (xor_lt hm a7)) h)
theorem crc_loop (l : List Int) (hl : Bytes l) (hs : l.length < 1000000000) (d : Nat) : ∀ (m i : Nat), i + d = l.length → m < 4294967296 → Ev (fun k => klaxonref01_Crc.l0 k l (m : Int) (i : Int)) ((from_ m (l.drop i) : Nat) : Int) := by
  induction d with
  | zero =>
    intro m i hi hm
    rw [List.drop_eq_nil_of_le (by omega)]
    show Ev _ (m : Int)
    exact Ev.step (fun k => crc_l0_eq k _ _ _) (Ev.neg_ (by omega) (Ev.now _))
  | succ d ih =>
    intro m i hi hm
    have hlt : i < l.length := by omega
    have hx := hl _ (rd_in l i hlt)
    obtain ⟨p, hp⟩ : ∃ p : Nat, rd l i = p := ⟨(rd l i).toNat, by omega⟩
    have hd : l.drop i = rd l i :: l.drop (i + 1) := by
      rw [List.drop_eq_getElem_cons hlt]; congr 1; simp [rd, List.getD, hlt]
    refine Ev.step (fun k => crc_l0_eq k _ _ _) (Ev.pos_ (by omega) ?_)
    refine crc_bits l i p hlt hp (by omega) _ 8 m 0 rfl hm ?_
    have e1 : from_ m (l.drop i) = from_ (run m (bitsOf 8 p)) (l.drop (i + 1)) := by
      rw [hd, show rd l i :: l.drop (i + 1) = [rd l i] ++ l.drop (i + 1) from rfl, from_append, hp, from_one _ _ (by omega) (by omega), run_byte _ _ (by omega), show ((p : Int)).toNat = p by omega]
    rw [e1, show p / 2 ^ 0 = p by simp, wrap64_id (by omega) (by omega), show ((i : Int) + 1) = ((i + 1 : Nat) : Int) by omega]
    exact ih _ _ (by omega) (run_lt _ _ hm (bits_lt 8 p))
theorem rcrc_ev (l : List Int) (hl : Bytes l) (hs : l.length < 1000000000) : Ev (fun k => klaxonref01_Crc.f k l) (crc l) := crc_loop l hl hs l.length 4294967295 0 (by omega) (by decide)
theorem bytesOf_str (l : List Int) (h : Bytes l) : bytesOf (strOfNums l) = l := by
  have := nums_bytes_ l h
  unfold bytesOf strOfNums
  unfold Lib.bytesOf at this
  simpa using this
theorem bt_str (l : List Int) (hl : Bytes l) (i : Int) : bt (strOfNums l) i = rd l i := by rw [← rd_bytesOf, bytesOf_str l hl]
theorem big_eq (k : Nat) (x0 : List Int) (x1 x7 : Int) : klaxonref04_big.l0 (k + 1) x0 x1 x7 = if x7 ≥ 0 then (if 0 ≤ (IntKind.u64.wrap (wrap64 (8 * x7))) then (if x0.length < 140737488355328 then (klaxonref04_big.l0 k (x0 ++ [(shr .u64 x1 (IntKind.u64.wrap (wrap64 (8 * x7)))) % 256]) x1 (wrap64 (x7 - 1))) else (none)) else (none)) else (some x0) := by rw [klaxonref04_big.l0]
theorem shr_be (v : Int) (i : Nat) (hi : i ≤ 7) (h0 : 0 ≤ v) : shr .u64 v (IntKind.u64.wrap (wrap64 (8 * (i : Int)))) = v / 256 ^ i := by
  have e1 : wrap64 (8 * (i : Int)) = ((8 * i : Nat) : Int) := by rw [wrap64_id (by omega) (by omega)]; omega
  have e2 : IntKind.u64.wrap ((8 * i : Nat) : Int) = ((8 * i : Nat) : Int) := by rw [IntKind.wrap_u64]; omega
  rw [e1, e2]
  obtain ⟨m, rfl⟩ : ∃ m : Nat, v = m := ⟨v.toNat, by omega⟩
  unfold shr
  rw [show min (((8 * i : Nat) : Int)).toNat IntKind.u64.bits = 8 * i by rw [show IntKind.u64.bits = 64 from rfl]; omega]
  have hp : (2 : Int) ^ (8 * i) = 256 ^ i := by
    have h := Nat.pow_mul 2 8 i
    have h2 : ((2 ^ (8 * i) : Nat) : Int) = (((2 ^ 8) ^ i : Nat) : Int) := by rw [h]
    simpa [Int.natCast_pow] using h2
  rw [hp]
theorem big_loop (v : Int) (h0 : 0 ≤ v) (i : Nat) : ∀ (L : List Int), i ≤ 8 → L.length + i < 1000 → Ev (fun k => klaxonref04_big.l0 k L v ((i : Int) - 1)) (L ++ be i v) := by
  induction i with
  | zero =>
    intro L _ _
    exact Ev.step (fun k => big_eq k _ _ _) (Ev.neg_ (by omega) (by rw [be, List.append_nil]; exact Ev.now _))
  | succ i ih =>
    intro L hi hl
    have e : (((i + 1 : Nat) : Int) - 1) = (i : Int) := by omega
    refine Ev.step (fun k => by rw [e, big_eq]) (Ev.pos_ (by omega) (Ev.pos_ ?_ (Ev.pos_ (by omega) ?_)))
    · rw [IntKind.wrap_u64]; omega
    · rw [shr_be v i (by omega) h0, wrap64_id (by omega) (by omega)]
      have := ih (L ++ [v / 256 ^ i % 256]) (by omega) (by rw [List.length_append, List.length_singleton]; omega)
      rw [List.append_assoc] at this
      exact this
theorem big_ev (L : List Int) (v : Int) (n : Nat) (h0 : 0 ≤ v) (hn : n ≤ 8) (hl : L.length < 500) : Ev (fun k => klaxonref04_big.f k L v (n : Int)) (L ++ be n v) := by
  have := big_loop v h0 n L hn (by omega)
  refine Ev.of (fun k => klaxonref04_big.mono _ _ _ _) (k := this.rounds.choose) ?_
  unfold klaxonref04_big.f
  rw [wrap64_id (by omega) (by omega)]
  exact this.rounds.choose_spec
theorem rput_ev (s r k d : Int) (hs : 0 ≤ s ∧ s < 18446744073709551616) : Ev (fun n => klaxonref04_Put.f n s r k d) (strOfNums (metaOf s r k d)) := by
  have hr := u64_range r; have hk := u64_range k; have hd := u64_range d
  unfold klaxonref04_Put.f
  refine Ev.bind_ (big_ev [] s 8 hs.1 (by decide) (by decide)) ?_
  refine Ev.bind_ (big_ev _ _ 4 hr.1 (by decide) (by simp [be_length])) ?_
  refine Ev.bind_ (big_ev _ _ 8 hk.1 (by decide) (by simp [be_length])) ?_
  refine Ev.bind_ (big_ev _ _ 4 hd.1 (by decide) (by simp [be_length])) ?_
  have e : (([] ++ be 8 s ++ be 4 (IntKind.u64.wrap r)) ++ be 8 (IntKind.u64.wrap k)) ++ be 4 (IntKind.u64.wrap d) = headM s (IntKind.u64.wrap r) (IntKind.u64.wrap k) (IntKind.u64.wrap d) := by
    unfold headM; simp only [List.nil_append, List.append_assoc]
  rw [e]
  refine Ev.bind_ (rcrc_ev _ (headM_bytes _ _ _ _) (by rw [headM_length]; decide)) ?_
  have hc := crc_rng (headM s (IntKind.u64.wrap r) (IntKind.u64.wrap k) (IntKind.u64.wrap d))
  rw [u64_small hc.1 (by omega)]
  refine Ev.bind_ (big_ev _ _ 4 hc.1 (by decide) (by rw [headM_length]; decide)) ?_
  refine Ev.bind_ (big_ev _ s 8 hs.1 (by decide) (by rw [List.length_append, headM_length, be_length]; decide)) ?_
  unfold metaOf
  rw [metaB_shape, List.append_assoc]
  exact Ev.now _
theorem told_eq (k : Nat) (x0 : ByteArray) (x3 x4 : Int) : klaxonref04_told.l0 (k + 1) x0 x3 x4 = if x4 < (x0.size : Int) then (if 0 ≤ x4 then (klaxonref04_told.l0 k x0 (Go.bits .or .u64 (IntKind.u64.wrap (x3 * 256)) (IntKind.u64.wrap (bt x0 x4))) (wrap64 (x4 + 1))) else (none)) else (some x3) := by rw [klaxonref04_told.l0]
theorem rtold_loop (l : List Int) (hl : Bytes l) (h8 : l.length ≤ 8) (d : Nat) : ∀ (i : Nat), l.length - i = d → i ≤ l.length → Ev (fun k => klaxonref04_told.l0 k (strOfNums l) (tolL (l.take i)) i) (tolL l) := by
  have hsz := strOfNums_size l
  induction d with
  | zero =>
    intro i hd hi
    have e : l.take i = l := List.take_of_length_le (by omega)
    rw [e]
    exact Ev.step (fun k => told_eq k _ _ _) (Ev.neg_ (by omega) (Ev.now _))
  | succ d ih =>
    intro i hd hi
    have hlt : i < l.length := by omega
    obtain ⟨b0, b1⟩ := hl _ (rd_in l i hlt)
    have hb := tolL_lt (l.take i) fun x hx => hl x (List.mem_of_mem_take hx)
    rw [List.length_take, show min i l.length = i by omega] at hb
    have hp := pow256_le i (by omega)
    have e : tolL (l.take (i + 1)) = tolL (l.take i) * 256 + rd l i := by rw [rd_take l i hlt, tolL_snoc]
    refine Ev.step (fun k => told_eq k _ _ _) (Ev.pos_ (by omega) (Ev.pos_ (by omega) ?_))
    rw [bt_str l hl, u64_small (by omega) (by omega), u64_small (by omega) (by omega), or_low8 _ _ hb.1 (by omega) b0 b1, ← e, wrap64_id (by omega) (by omega), show ((i : Int) + 1) = ((i + 1 : Nat) : Int) by omega]
    exact ih (i + 1) (by omega) (by omega)
theorem rtold_ev (l : List Int) (hl : Bytes l) (h8 : l.length ≤ 8) : Ev (fun k => klaxonref04_told.f k (strOfNums l)) (tolL l) := rtold_loop l hl h8 l.length 0 rfl (by omega)
theorem str_extract (l : List Int) (i j : Nat) : (strOfNums l).extract i j = strOfNums ((l.take j).drop i) := by
  apply ByteArray.ext
  apply Array.toList_inj.mp
  rw [Lib.extract_data, strOfNums_data, strOfNums_data, List.map_drop, List.map_take, List.drop_take]
theorem rget_l0 (k : Nat) (x0 : ByteArray) (x4 : Int) : klaxonref04_Get.l0 (k + 1) x0 x4 = if x4 < (x0.size : Int) then (if 0 ≤ x4 then (if (bt x0 x4) = 0 then (klaxonref04_Get.l0 k x0 (wrap64 (x4 + 1))) else (some (0, 0, 0, 0, 40))) else (none)) else (if 8 ≤ 12 then (if 12 ≤ (x0.size : Int) then ((klaxonref04_told.f k (x0.extract 8 12)).bind fun t127 => (if 12 ≤ 20 then (if 20 ≤ (x0.size : Int) then ((klaxonref04_told.f k (x0.extract 12 20)).bind fun t128 => (if 20 ≤ 24 then (if 24 ≤ (x0.size : Int) then ((klaxonref04_told.f k (x0.extract 20 24)).bind fun t129 => (if t127 > 16384 then (klaxonref04_Get.j1 k x0 t127 t128 t129 true) else (if t128 > 2147483647 then (klaxonref04_Get.j1 k x0 t127 t128 t129 true) else (klaxonref04_Get.j1 k x0 t127 t128 t129 (decide (t129 > 64)))))) else (none)) else (none))) else (none)) else (none))) else (none)) else (none)) := by rw [klaxonref04_Get.l0]
theorem rget_j1 (k : Nat) (x0 : ByteArray) (x5 x6 x7 : Int) (x42 : Bool) : klaxonref04_Get.j1 (k + 1) x0 x5 x6 x7 x42 = if x42 = true then (some (0, 0, 0, 0, 40)) else (if 0 ≤ 8 then (if 8 ≤ (x0.size : Int) then ((klaxonref04_told.f k (x0.extract 0 8)).bind fun t130 => (if t130 = 0 then (klaxonref04_Get.j2 k true t130 (wrap64 (x5)) (wrap64 (x6)) (wrap64 (x7))) else ((klaxonref04_Put.f k t130 (wrap64 (x5)) (wrap64 (x6)) (wrap64 (x7))).bind fun t132 => (if 0 ≤ 36 then (if 36 ≤ (x0.size : Int) then (klaxonref04_Get.j2 k (t132.toList != (x0.extract 0 36).toList) t130 (wrap64 (x5)) (wrap64 (x6)) (wrap64 (x7))) else (none)) else (none))))) else (none)) else (none)) := by rw [klaxonref04_Get.j1]
theorem rget_j2 (k : Nat) (x63 : Bool) (a b c d : Int) : klaxonref04_Get.j2 (k + 1) x63 a b c d = if x63 = true then (some (0, 0, 0, 0, 40)) else (some (a, b, c, d, 0)) := by rw [klaxonref04_Get.j2]
theorem rseg_ev (l : List Int) (hl : Bytes l) (a b : Nat) (h : b ≤ a + 8) : Ev (fun k => klaxonref04_told.f k ((strOfNums l).extract a b)) (segM l a b) := by
  rw [str_extract]
  exact rtold_ev _ (fun x hx => hl x (List.mem_of_mem_take (List.mem_of_mem_drop hx))) (by rw [List.length_drop, List.length_take]; omega)
theorem seg_nonneg (l : List Int) (hl : Bytes l) (a b : Nat) : 0 ≤ segM l a b := (tolL_lt _ fun x hx => hl x (List.mem_of_mem_take (List.mem_of_mem_drop hx))).1
theorem rget_tail (l : List Int) (hl : Bytes l) (h36 : 36 ≤ l.length) (b : Bool) (hb : b = decide (64 < segM l 20 24) ∨ b = true ∧ (16384 < segM l 8 12 ∨ 2147483647 < segM l 12 20)) (hb2 : b = false → ¬ (16384 < segM l 8 12 ∨ 2147483647 < segM l 12 20)) :
    Ev (fun k => klaxonref04_Get.j1 k (strOfNums l) (segM l 8 12) (segM l 12 20) (segM l 20 24) b) (getM2 l) := by
  have hsz := strOfNums_size l
  have n1 := seg_nonneg l hl 8 12; have n2 := seg_nonneg l hl 12 20; have n3 := seg_nonneg l hl 20 24
  cases b with
  | true =>
    have e : getM2 l = (0, 0, 0, 0, 40) := by
      unfold getM2
      rw [if_pos]
      rcases hb with h | h
      · exact .inr (.inr (of_decide_eq_true h.symm))
      · exact h.2.elim .inl fun h => .inr (.inl h)
    rw [e]
    exact Ev.step (fun k => rget_j1 k _ _ _ _ _) (Ev.pos_ rfl (Ev.now _))
  | false =>
    have h3 : ¬ 64 < segM l 20 24 := by
      rcases hb with h | h
      · exact of_decide_eq_false h.symm
      · cases h.1
    have h12 := hb2 rfl
    have hs0 := tolL_lt ((l.take 8).drop 0) fun x hx => hl x (List.mem_of_mem_take (List.mem_of_mem_drop hx))
    rw [show ((l.take 8).drop 0).length = 8 by rw [List.length_drop, List.length_take]; omega] at hs0
    have hs1 : 0 ≤ segM l 0 8 ∧ segM l 0 8 < 18446744073709551616 := ⟨hs0.1, Int.lt_of_lt_of_le hs0.2 (by decide)⟩
    have e0 : getM2 l = if segM l 0 8 = 0 ∨ metaB (segM l 0 8) (segM l 8 12) (segM l 12 20) (segM l 20 24) ≠ l.take 36 then (0, 0, 0, 0, 40) else (segM l 0 8, segM l 8 12, segM l 12 20, segM l 20 24, 0) := by
      unfold getM2; rw [if_neg (fun h => h.elim (fun h => h12 (.inl h)) fun h => h.elim (fun h => h12 (.inr h)) h3)]
    refine Ev.step (fun k => rget_j1 k _ _ _ _ _) (Ev.neg_ (by decide) (Ev.pos_ (by decide) (Ev.pos_ (by omega) ?_)))
    refine Ev.bind_ (rseg_ev l hl 0 8 (by omega)) ?_
    rw [e0]
    by_cases hz : segM l 0 8 = 0
    · rw [if_pos (.inl hz)]
      refine Ev.pos_ hz ?_
      exact Ev.step (fun k => rget_j2 k _ _ _ _ _) (Ev.pos_ rfl (Ev.now _))
    · refine Ev.neg_ hz ?_
      rw [wrap64_id (by omega) (by omega), wrap64_id (by omega) (by omega), wrap64_id (by omega) (by omega)]
      refine Ev.bind_ (rput_ev _ _ _ _ hs1) (Ev.pos_ (by decide) (Ev.pos_ (by omega) ?_))
      have em : metaOf (segM l 0 8) (segM l 8 12) (segM l 12 20) (segM l 20 24) = metaB (segM l 0 8) (segM l 8 12) (segM l 12 20) (segM l 20 24) := by
        unfold metaOf; rw [u64_small n1 (by omega), u64_small n2 (by omega), u64_small n3 (by omega)]
      have hc : ((strOfNums (metaOf (segM l 0 8) (segM l 8 12) (segM l 12 20) (segM l 20 24))).toList != ((strOfNums l).extract 0 36).toList) = !decide (metaB (segM l 0 8) (segM l 8 12) (segM l 12 20) (segM l 20 24) = l.take 36) := by
        rw [str_extract, List.drop_zero, em]
        show (!(_ == _)) = _
        rw [strOf_inj_ _ _ (metaB_bytes _ _ _ _) (fun x hx => hl x (List.mem_of_mem_take hx))]
      rw [hc]
      by_cases he : metaB (segM l 0 8) (segM l 8 12) (segM l 12 20) (segM l 20 24) = l.take 36
      · rw [if_neg (fun h => h.elim hz fun h => h he), decide_eq_true he]
        exact Ev.step (fun k => rget_j2 k _ _ _ _ _) (Ev.neg_ (by decide) (Ev.now _))
      · rw [if_pos (.inr he), decide_eq_false he]
        exact Ev.step (fun k => rget_j2 k _ _ _ _ _) (Ev.pos_ rfl (Ev.now _))
theorem rget_loop (l : List Int) (hl : Bytes l) (h36 : 36 ≤ l.length) (hbig : l.length ≤ 100000) (d : Nat) : ∀ (i : Nat), l.length - i = d → 36 ≤ i → i ≤ l.length → (∀ j : Nat, 36 ≤ j → j < i → rd l j = 0) → Ev (fun k => klaxonref04_Get.l0 k (strOfNums l) (i : Int)) (getM l) := by
  have hsz := strOfNums_size l
  induction d with
  | zero =>
    intro i hd h1 h2 hz
    have e : getM l = getM2 l := by
      unfold getM getM2
      rw [if_neg (by omega), if_neg]
      rw [Bool.not_eq_true, List.any_eq_false]
      intro x hx
      obtain ⟨j, hj, rfl⟩ := List.getElem_of_mem hx
      rw [List.length_drop] at hj
      have := hz (36 + j) (by omega) (by omega)
      rw [List.getElem_drop]
      simp only [rd, Int.toNat_natCast, List.getD_eq_getElem?_getD, List.getElem?_eq_getElem (show 36 + j < l.length by omega), Option.getD_some] at this
      simp [this]
    rw [e]
    refine Ev.step (fun k => rget_l0 k _ _) (Ev.neg_ (by omega) (Ev.pos_ (by decide) (Ev.pos_ (by omega) ?_)))
    refine Ev.bind_ (rseg_ev l hl 8 12 (by omega)) (Ev.pos_ (by decide) (Ev.pos_ (by omega) ?_))
    refine Ev.bind_ (rseg_ev l hl 12 20 (by omega)) (Ev.pos_ (by decide) (Ev.pos_ (by omega) ?_))
    refine Ev.bind_ (rseg_ev l hl 20 24 (by omega)) ?_
    by_cases g1 : segM l 8 12 > 16384
    · exact Ev.pos_ g1 (rget_tail l hl h36 true (.inr ⟨rfl, .inl g1⟩) (fun h => by cases h))
    refine Ev.neg_ g1 ?_
    by_cases g2 : segM l 12 20 > 2147483647
    · exact Ev.pos_ g2 (rget_tail l hl h36 true (.inr ⟨rfl, .inr g2⟩) (fun h => by cases h))
    refine Ev.neg_ g2 ?_
    exact rget_tail l hl h36 _ (.inl rfl) (fun _ h => h.elim g1 g2)
  | succ d ih =>
    intro i hd h1 h2 hz
    refine Ev.step (fun k => rget_l0 k _ _) (Ev.pos_ (by omega) (Ev.pos_ (by omega) ?_))
    rw [bt_str l hl]
    by_cases h0 : rd l i = 0
    · refine Ev.pos_ h0 ?_
      rw [wrap64_id (by omega) (by omega), show ((i : Int) + 1) = ((i + 1 : Nat) : Int) by omega]
      exact ih (i + 1) (by omega) (by omega) (by omega) fun j hj1 hj2 => by
        by_cases hji : j = i
        · rw [hji]; exact h0
        · exact hz j hj1 (by omega)
    · refine Ev.neg_ h0 ?_
      have e : getM l = (0, 0, 0, 0, 40) := by
        unfold getM
        rw [if_neg (by omega), if_pos]
        refine List.any_eq_true.2 ⟨rd l i, ?_, by simpa using h0⟩
        have hlt : i < l.length := by omega
        have : (l.drop 36)[i - 36]? = some (rd l i) := by
          rw [List.getElem?_drop, show 36 + (i - 36) = i by omega, List.getElem?_eq_getElem hlt]
          simp [rd, List.getD_eq_getElem?_getD, List.getElem?_eq_getElem hlt]
        exact List.mem_of_getElem? this
      rw [e]; exact Ev.now _
theorem rget_ev (l : List Int) (hl : Bytes l) (hbig : l.length ≤ 100000) : Ev (fun k => klaxonref04_Get.f k (strOfNums l)) (getM l) := by
  have hsz := strOfNums_size l
  unfold klaxonref04_Get.f
  by_cases h : l.length < 36
  · have e : getM l = (0, 0, 0, 0, 40) := by unfold getM; rw [if_pos h]
    rw [e]
    exact Ev.pos_ (by omega) (Ev.now _)
  · exact Ev.neg_ (by omega) (rget_loop l hl (by omega) hbig _ 36 rfl (by omega) (by omega) fun j h1 h2 => by omega)
set_option maxHeartbeats 8000000 in
set_option maxRecDepth 100000 in
theorem metabytes_law (s r k d : Int) (A : Option Addr) (c : Nat) (l : List Int) (w : World) (hr : Kd.C (Kd.int .u8) w A l.length l) (hc : l.length ≤ c) (hs : 0 ≤ s ∧ s < 18446744073709551616) (hby : Bytes l) :
    Calls Try.prog 7 #[.agg #[.int .u64 s, .int .i64 r, .int .i64 k, .int .i64 d], .slice A l.length c] w fun e w' => e = .returned (.bool true) ∧ Below w.heap.size w w' := by
  have hlm := hr.2.1
  have HR := Aside0.mk hr; have HBY := Aside0.mk hby; have HS := Aside0.mk hs
  clear hr hby hs
  obtain ⟨W0, hW0⟩ : ∃ W, W = w.alloc (.cells #[.int .u64 s, .int .i64 r, .int .i64 k, .int .i64 d] 52) := ⟨_, rfl⟩
  have hB0 : Below w.heap.size w W0 := by rw [hW0]; exact below_alloc (Below.refl _ _) _
  have hx0 : W0.heap[w.heap.size]? = some (.cells #[.int .u64 s, .int .i64 r, .int .i64 k, .int .i64 d] 52) := by rw [hW0]; exact blk_new w _
  have H0 := Aside0.mk (And.intro hB0 hx0)
  clear hB0 hx0
  by_cases h1 : 20000 < (l.length : Int)
  · have d1 : decide (20000 < (l.length : Int)) = true := decide_eq_true h1
    go_enter Try.func7, Try.ntmps7
    go_wp2_with fail
    rw [← hW0]
    clear hW0
    refine (live4_calls W0).mono ?_
    rintro e w1 ⟨rfl, hb1⟩
    have HB1 := Aside0.mk (below_step H0.out.1 hb1)
    clear hb1
    go_wp2_with fail
    go_ret
    exact ⟨rfl, HB1.out⟩
  have d1 : decide (20000 < (l.length : Int)) = false := decide_eq_false h1
  go_enter Try.func7, Try.ntmps7
  go_upto_region 3 with (fail)
  rw [← hW0]
  clear hW0
  have HO : Aside0 (Kd.R (Kd.int .u8) 5 (W0.alloc (.cells #[] 5)) W0.heap.size (fun _ => True) (.slice (some ⟨W0.heap.size, 0, none⟩) 0 0) []) := ⟨⟨fun _ _ => trivial, [], ⟨rfl, .inr ⟨W0.heap.size, 0, #[], rfl, Nat.le_refl _, blk_new W0 _, Nat.le_refl _, by simp [maxLen], rfl, rfl⟩⟩, Reps.none _ _⟩⟩
  have HR0 := Aside0.mk (Kd.C_below HR.out H0.out.1)
  have HR3 := Aside0.mk (Kd.C_alloc HR0.out (.cells #[] 5))
  have HB3 := Aside0.mk (below_alloc (Below.refl W0.heap.size W0) (.cells #[] 5))
  have hl1 : l.length < 140737488355328 := by omega
  go_wp2_with ((with_reducible refine gate_builtin (b := .append) (xs := #[.tmp 14, .tmp 15]) rfl ?_); at_builtin; refine Kd.R_append_rows (Kd.int .u8) (Rr := fun (x : Int) (c : List Value) => c = [.int .u8 x]) (w0 := W0) W0.heap.size rfl (.tmp 14) (.tmp 15) 33 5 (.int .u8 0) 1 rfl Try.underlying33 infoByte rfl (by decide) (by omega) (.slice (some ⟨W0.heap.size, 0, none⟩) 0 0) [] l A l.length c (fun _ => True) (fun _ => False) rfl rfl ?HO HR3.out (fun _ _ h => h) (fun _ hk => hk.elim) (fun _ _ => trivial) ?HB ?hbase ?hl ?_; (case HO => exact HO.out); (case HB => exact HB3.out); (case hbase => exact HB3.out.size); (case hl => simp; omega); intro v1 w8 hr hb hg hat; rw [List.nil_append] at hr; obtain ⟨B8, d8, rfl⟩ := Kd.R_slice hr; have HR8 := Aside0.mk hr; have HB8 := Aside0.mk hb; clear hr hb hg hat)
  obtain ⟨_, hq8, hC8⟩ := Kd.R_reads' HR8.out
  refine (mget_calls B8 d8 l w8 hC8 hq8 HBY.out).mono ?_
  rintro e w9 ⟨rfl, hb9⟩
  obtain ⟨x0, x1, x2, x3, x4, hx⟩ : ∃ x0 x1 x2 x3 x4, getM l = (x0, x1, x2, x3, x4) := ⟨_, _, _, _, _, rfl⟩
  rw [hx]
  have HX := Aside0.mk hx
  have h09 : Below W0.heap.size W0 w9 := below_step HB8.out hb9
  have HB9 := Aside0.mk h09
  clear hC8 hq8 HR8 HB8 HO HR3 HB3 hb9 h09 hx
  simp only
  obtain ⟨xb, hxb⟩ : ∃ n, n = w9.heap.size := ⟨_, rfl⟩
  obtain ⟨WX, hWX⟩ : ∃ W, W = w9.alloc (.cells #[.int .u64 x0, .int .i64 x1, .int .i64 x2, .int .i64 x3] 52) := ⟨_, rfl⟩
  have hBX : Below W0.heap.size W0 WX := by rw [hWX]; exact below_alloc HB9.out _
  have hxX : WX.heap[xb]? = some (.cells #[.int .u64 x0, .int .i64 x1, .int .i64 x2, .int .i64 x3] 52) := by rw [hWX, hxb]; exact blk_new w9 _
  have hcvb : (convert 33 9 (.slice A l.length c)).run Try.prog WX = .ok (.string (strOfNums l)) WX := Kd.C_string (c := c) Try.underlying33 Try.underlying5 Try.underlying9 (Kd.C_below HR0.out hBX)
  rw [hWX] at hcvb
  have HBX := Aside0.mk (And.intro hBX hxX)
  clear hBX hxX
  obtain ⟨kg, hg⟩ := Ev.at_ (rget_ev l HBY.out (by omega))
  rw [HX.out] at hg
  have HG := Aside0.mk hg
  clear hg
  go_wp2_with fail
  rw [← hWX, ← hxb]
  clear hWX hxb hcvb
  refine (klaxonref04_Get.calls kg (strOfNums l) x0 x1 x2 x3 x4 WX HG.out).mono ?_
  rintro e w10 ⟨rfl, hb10⟩
  obtain ⟨yb, hyb⟩ : ∃ n, n = w10.heap.size := ⟨_, rfl⟩
  obtain ⟨WY, hWY⟩ : ∃ W, W = w10.alloc (.cells #[.int .u64 x0, .int .i64 x1, .int .i64 x2, .int .i64 x3] 52) := ⟨_, rfl⟩
  have hBY : Below W0.heap.size W0 WY := by rw [hWY]; exact below_alloc (below_step HBX.out.1 hb10) _
  have hyY : WY.heap[yb]? = some (.cells #[.int .u64 x0, .int .i64 x1, .int .i64 x2, .int .i64 x3] 52) := by rw [hWY, hyb]; exact blk_new w10 _
  have hxY : WY.heap[xb]? = some (.cells #[.int .u64 x0, .int .i64 x1, .int .i64 x2, .int .i64 x3] 52) := by rw [hWY]; exact blk_alloc (blk_below HBX.out.2 hb10) _
  have hmY : WY.heap[w.heap.size]? = some (.cells #[.int .u64 s, .int .i64 r, .int .i64 k, .int .i64 d] 52) := blk_below H0.out.2 hBY
  obtain ⟨Inv, hInv⟩ : ∃ I : World → Prop, I = fun W => W.heap[w.heap.size]? = some (.cells #[.int .u64 s, .int .i64 r, .int .i64 k, .int .i64 d] 52) ∧ W.heap[xb]? = some (.cells #[.int .u64 x0, .int .i64 x1, .int .i64 x2, .int .i64 x3] 52) ∧ W.heap[yb]? = some (.cells #[.int .u64 x0, .int .i64 x1, .int .i64 x2, .int .i64 x3] 52) ∧ Below w.heap.size w W := ⟨_, rfl⟩
  have hI : Inv WY := by rw [hInv]; exact ⟨hmY, hxY, hyY, below_step H0.out.1 hBY⟩
  have IB : ∀ W W', Inv W → Below W.heap.size W W' → Inv W' := by
    rw [hInv]; rintro W W' ⟨a1, a2, a3, a4⟩ hb; exact ⟨blk_below a1 hb, blk_below a2 hb, blk_below a3 hb, below_step a4 hb⟩
  have IF : ∀ W, Inv W → (W.cell? ⟨w.heap.size, 0, none⟩ = some (.int .u64 s) ∧ W.cell? ⟨w.heap.size, 1, none⟩ = some (.int .i64 r) ∧ W.cell? ⟨w.heap.size, 2, none⟩ = some (.int .i64 k) ∧ W.cell? ⟨w.heap.size, 3, none⟩ = some (.int .i64 d)) ∧ (W.cell? ⟨xb, 0, none⟩ = some (.int .u64 x0) ∧ W.cell? ⟨xb, 1, none⟩ = some (.int .i64 x1) ∧ W.cell? ⟨xb, 2, none⟩ = some (.int .i64 x2) ∧ W.cell? ⟨xb, 3, none⟩ = some (.int .i64 x3)) ∧ (W.cell? ⟨yb, 0, none⟩ = some (.int .u64 x0) ∧ W.cell? ⟨yb, 1, none⟩ = some (.int .i64 x1) ∧ W.cell? ⟨yb, 2, none⟩ = some (.int .i64 x2) ∧ W.cell? ⟨yb, 3, none⟩ = some (.int .i64 x3)) := by
    rw [hInv]; rintro W ⟨a1, a2, a3, a4⟩
    refine ⟨⟨?_, ?_, ?_, ?_⟩, ⟨?_, ?_, ?_, ?_⟩, ⟨?_, ?_, ?_, ?_⟩⟩ <;> first | (rw [blk_cell a1]; rfl) | (rw [blk_cell a2]; rfl) | (rw [blk_cell a3]; rfl)
  have IW : ∀ W, Inv W → Below w.heap.size w W := by rw [hInv]; exact fun W h => h.2.2.2
  have IB := Aside0.mk IB; have IF := Aside0.mk IF; have IW := Aside0.mk IW
  have HI := Aside0.mk (IB.out _ _ hI (below_drew1 (Below.refl _ _)))
  obtain ⟨kp, hp⟩ := Ev.at_ (rput_ev s r k d HS.out)
  have HP := Aside0.mk hp
  clear hBY hyY hxY hmY hInv hI hp hb10
  simp only
  go_wp2_with fail
  rw [← hWY, ← hyb]
  clear hWY hyb
  have SF := IF
  have HRF : Aside0 (∀ W : World, Below W.heap.size W W) := ⟨fun W => Below.refl _ _⟩
  refine' wp_region_flow (by kernel_rfl) (by kernel_rfl) Inv (fun W W' => Below W.heap.size W W') HRF.out HI.out _ ?_
  rotate_left
  refine' Flow.val _ 0 (some 26) (Op.load 52 (Operand.tmp 2)) 52 (none) [] _ rfl (by kernel_rfl) (by kernel_rfl) (by kernel_rfl) (by rfl) ?_ ?_ HRF.out
  rotate_left 2
  · (intro W hW hK; have hF := SF.out W hW; go_simp; first | done | with_reducible rfl)
  try simp only [Act.put, List.setIfInBounds_toArray, List.set_cons_zero, List.set_cons_succ]
  refine' Flow.val _ 3 (some 29) (Op.load 52 (Operand.tmp 2)) 52 (none) [] _ rfl (by kernel_rfl) (by kernel_rfl) (by kernel_rfl) (by rfl) ?_ ?_ HRF.out
  rotate_left 2
  · (intro W hW hK; have hF := SF.out W hW; go_simp; first | done | with_reducible rfl)
  try simp only [Act.put, List.setIfInBounds_toArray, List.set_cons_zero, List.set_cons_succ]
  refine' Flow.op [(2, (fun u => u = (.string (strOfNums (metaOf s r k d)) : Value)), fun _ _ => True), (4, (fun u => u = (.string (strOfNums (metaOf s r k d)) : Value)), fun _ _ => True), (5, (fun u => u = (.bool true : Value)), fun _ _ => True), (6, (fun u => u = (.bool true : Value)), fun _ _ => True), (7, (fun u => u = (.agg #[.int .u64 x0, .int .i64 x1, .int .i64 x2, .int .i64 x3] : Value)), fun _ _ => True), (8, (fun u => u = (.agg #[.int .u64 x0, .int .i64 x1, .int .i64 x2, .int .i64 x3] : Value)), fun _ _ => True), (9, (fun u => u = (.bool true : Value)), fun _ _ => True), (10, (fun u => u = (.bool true : Value)), fun _ _ => True), (11, (fun u => u = (.bool true : Value)), fun _ _ => True), (12, (fun u => u = (.int .i64 x4 : Value)), fun _ _ => True), (13, (fun u => u = (.int .i64 x4 : Value)), fun _ _ => True), (14, (fun u => u = (.int .i64 x4 : Value)), fun _ _ => True), (15, (fun u => u = (.bool true : Value)), fun _ _ => True), (16, (fun u => u = (.bool true : Value)), fun _ _ => True), (17, (fun u => u = (.bool true : Value)), fun _ _ => True), (18, (fun u => u = (.bool true : Value)), fun _ _ => True), (19, (fun u => u = (.bool true : Value)), fun _ _ => True), (20, (fun u => u = (.bool true : Value)), fun _ _ => True)] 1 (some 27) (Op.call { callee := Callee.value (Operand.func 31), args := #[Operand.tmp 26], argTypes := #[52] }) 33 (none) [] (fun v => ∃ g : Nat, v = .slice (some ⟨g, 0, none⟩) 36 36) (fun v W => ∃ g : Nat, v = .slice (some ⟨g, 0, none⟩) 36 36 ∧ Blk W g (metaOf s r k d)) rfl (by kernel_rfl) (by kernel_rfl) (by kernel_rfl) ⟨_, 0, rfl⟩ (fun v W W' hb ⟨g, e, h⟩ => ⟨g, e, blk_below h hb⟩) (by rfl) ?_ ?_
  · intro W hW hK
    refine .inr ⟨31, #[.agg #[.int .u64 s, .int .i64 r, .int .i64 k, .int .i64 d]], by go_simp, (mput_calls s r k d W HS.out).mono ?_⟩
    rintro e w' ⟨g, rfl, _, hbk, hb⟩
    exact ⟨_, rfl, ⟨_, rfl⟩, IB.out _ _ hW hb, hb, ⟨g, rfl, hbk⟩⟩
  rintro v ⟨g5, rfl⟩
  try simp only [Act.put, List.setIfInBounds_toArray, List.set_cons_zero, List.set_cons_succ]
  refine' Flow.val _ 2 (some 28) (Op.convert 33 9 (Operand.tmp 27)) 9 (none) [1] _ rfl (by kernel_rfl) (by kernel_rfl) (by kernel_rfl) (by rfl) ?_ ?_ HRF.out
  · intro W hW hK
    have h5 := hK 1 (by simp)
    simp only [updK, if_true, if_false, reduceIte] at h5
    obtain ⟨g', e, hC⟩ := h5
    obtain rfl : g5 = g' := by simpa using e
    have cvg : (convert 33 9 (.slice (some ⟨g5, 0, none⟩) 36 36)).run Try.prog W = .ok (.string (strOfNums (metaOf s r k d))) W := mconv g5 36 _ W hC (metaB_length _ _ _ _)
    go_simp; first | done | with_reducible rfl
  try simp only [Act.put, List.setIfInBounds_toArray, List.set_cons_zero, List.set_cons_succ]
  refine' Flow.call _ 4 (some 30) (Op.call { callee := Callee.value (Operand.func 32), args := #[Operand.tmp 29], argTypes := #[52] }) 9 (none) [] _ 32 #[.agg #[.int .u64 s, .int .i64 r, .int .i64 k, .int .i64 d]] rfl (by kernel_rfl) (by kernel_rfl) (by kernel_rfl) (by rfl) ?_ ?_ ?_
  · (intro W; go_simp; first | done | with_reducible rfl)
  · intro W hW hK
    exact (klaxonref04_Put.calls kp s r k d (strOfNums (metaOf s r k d)) W HP.out).mono fun e w' ⟨he, hb⟩ => ⟨he, IB.out _ _ hW hb, hb⟩
  try simp only [Act.put, List.setIfInBounds_toArray, List.set_cons_zero, List.set_cons_succ]
  refine' Flow.val _ 5 (some 31) (Op.binOp BinOp.eql 9 (Operand.tmp 28) (Operand.tmp 30) 9) 4 (none) [] _ rfl (by kernel_rfl) (by kernel_rfl) (by kernel_rfl) (by rfl) ?_ ?_ HRF.out
  · (intro W hW hK; go_simp; first | done | with_reducible rfl)
  try simp only [Act.put, List.setIfInBounds_toArray, List.set_cons_zero, List.set_cons_succ]
  refine' Flow.val _ 6 (some 32) (Op.move (Operand.tmp 31)) 4 (none) [] _ rfl (by kernel_rfl) (by kernel_rfl) (by kernel_rfl) (by rfl) ?_ ?_ HRF.out
  · (intro W hW hK; go_simp; first | done | with_reducible rfl)
  try simp only [Act.put, List.setIfInBounds_toArray, List.set_cons_zero, List.set_cons_succ]
  refine' Flow.val _ 7 (some 33) (Op.load 52 (Operand.tmp 5)) 52 (some (6, true)) [] _ rfl (by kernel_rfl) (by kernel_rfl) (by kernel_rfl) (by rfl) ?_ ?_ HRF.out
  · (intro W hW hK; have hF := SF.out W hW; go_simp; first | done | with_reducible rfl)
  try simp only [Act.put, List.setIfInBounds_toArray, List.set_cons_zero, List.set_cons_succ]
  refine' Flow.val _ 8 (some 34) (Op.load 52 (Operand.tmp 7)) 52 (some (6, true)) [] _ rfl (by kernel_rfl) (by kernel_rfl) (by kernel_rfl) (by rfl) ?_ ?_ HRF.out
  · (intro W hW hK; have hF := SF.out W hW; go_simp; first | done | with_reducible rfl)
  try simp only [Act.put, List.setIfInBounds_toArray, List.set_cons_zero, List.set_cons_succ]
  refine' Flow.val _ 9 (some 35) (Op.binOp BinOp.eql 52 (Operand.tmp 33) (Operand.tmp 34) 52) 4 (some (6, true)) [] _ rfl (by kernel_rfl) (by kernel_rfl) (by kernel_rfl) (by rfl) ?_ ?_ HRF.out
  · (intro W hW hK; go_simp; first | done | with_reducible rfl)
  try simp only [Act.put, List.setIfInBounds_toArray, List.set_cons_zero, List.set_cons_succ]
  refine' Flow.val _ 10 (some 36) (Op.pick (Operand.tmp 32) (Operand.tmp 35) (Operand.const (Value.bool false))) 4 (none) [] _ rfl (by kernel_rfl) (by kernel_rfl) (by kernel_rfl) (by rfl) ?_ ?_ HRF.out
  · (intro W hW hK; go_simp; first | done | with_reducible rfl)
  try simp only [Act.put, List.setIfInBounds_toArray, List.set_cons_zero, List.set_cons_succ]
  refine' Flow.val _ 11 (some 37) (Op.move (Operand.tmp 36)) 4 (none) [] _ rfl (by kernel_rfl) (by kernel_rfl) (by kernel_rfl) (by rfl) ?_ ?_ HRF.out
  · (intro W hW hK; go_simp; first | done | with_reducible rfl)
  try simp only [Act.put, List.setIfInBounds_toArray, List.set_cons_zero, List.set_cons_succ]
  refine' Flow.val _ 12 (some 38) (Op.move (Operand.tmp 6)) 28 (some (11, true)) [] _ rfl (by kernel_rfl) (by kernel_rfl) (by kernel_rfl) (by rfl) ?_ ?_ HRF.out
  · (intro W hW hK; go_simp; first | done | with_reducible rfl)
  try simp only [Act.put, List.setIfInBounds_toArray, List.set_cons_zero, List.set_cons_succ]
  refine' Flow.call _ 13 (some 39) (Op.call { callee := Callee.value (Operand.func 33), args := #[Operand.tmp 38], argTypes := #[28] }) 3 (some (11, true)) [] _ 33 #[.int .i64 x4] rfl (by kernel_rfl) (by kernel_rfl) (by kernel_rfl) (by rfl) ?_ ?_ ?_
  · (intro W; go_simp; first | done | with_reducible rfl)
  · intro W hW hK
    exact (num4_calls x4 W).mono fun e w' ⟨he, hd⟩ => ⟨he, IB.out _ _ hW hd.below, hd.below⟩
  try simp only [Act.put, List.setIfInBounds_toArray, List.set_cons_zero, List.set_cons_succ]
  refine' Flow.val _ 14 (some 40) (Op.move (Operand.tmp 8)) 3 (some (11, true)) [] _ rfl (by kernel_rfl) (by kernel_rfl) (by kernel_rfl) (by rfl) ?_ ?_ HRF.out
  · (intro W hW hK; go_simp; first | done | with_reducible rfl)
  try simp only [Act.put, List.setIfInBounds_toArray, List.set_cons_zero, List.set_cons_succ]
  refine' Flow.val _ 15 (some 41) (Op.binOp BinOp.eql 3 (Operand.tmp 39) (Operand.tmp 40) 3) 4 (some (11, true)) [] _ rfl (by kernel_rfl) (by kernel_rfl) (by kernel_rfl) (by rfl) ?_ ?_ HRF.out
  · (intro W hW hK; go_simp; first | done | with_reducible rfl)
  try simp only [Act.put, List.setIfInBounds_toArray, List.set_cons_zero, List.set_cons_succ]
  refine' Flow.val _ 16 (some 42) (Op.pick (Operand.tmp 37) (Operand.tmp 41) (Operand.const (Value.bool false))) 4 (none) [] _ rfl (by kernel_rfl) (by kernel_rfl) (by kernel_rfl) (by rfl) ?_ ?_ HRF.out
  · (intro W hW hK; go_simp; first | done | with_reducible rfl)
  try simp only [Act.put, List.setIfInBounds_toArray, List.set_cons_zero, List.set_cons_succ]
  refine' Flow.val _ 17 (some 43) (Op.move (Operand.tmp 42)) 4 (none) [] _ rfl (by kernel_rfl) (by kernel_rfl) (by kernel_rfl) (by rfl) ?_ ?_ HRF.out
  · (intro W hW hK; go_simp; first | done | with_reducible rfl)
  try simp only [Act.put, List.setIfInBounds_toArray, List.set_cons_zero, List.set_cons_succ]
  refine' Flow.call _ 18 (some 44) (Op.call { callee := Callee.value (Operand.func 28), args := #[], argTypes := #[] }) 4 (some (17, true)) [] _ 28 #[] rfl (by kernel_rfl) (by kernel_rfl) (by kernel_rfl) (by rfl) ?_ ?_ ?_
  · (intro W; go_simp; first | done | with_reducible rfl)
  · intro W hW hK
    exact (live4_calls W).mono fun e w' ⟨he, hb⟩ => ⟨he, IB.out _ _ hW hb, hb⟩
  try simp only [Act.put, List.setIfInBounds_toArray, List.set_cons_zero, List.set_cons_succ]
  refine' Flow.val _ 19 (some 45) (Op.pick (Operand.tmp 43) (Operand.tmp 44) (Operand.const (Value.bool false))) 4 (none) [] _ rfl (by kernel_rfl) (by kernel_rfl) (by kernel_rfl) (by rfl) ?_ ?_ HRF.out
  · (intro W hW hK; go_simp; first | done | with_reducible rfl)
  try simp only [Act.put, List.setIfInBounds_toArray, List.set_cons_zero, List.set_cons_succ]
  refine' Flow.val _ 20 (some 4) (Op.assign (Operand.tmp 45)) 4 (none) [] _ rfl (by kernel_rfl) (by kernel_rfl) (by kernel_rfl) (by rfl) ?_ ?_ HRF.out
  · (intro W hW hK; go_simp; first | done | with_reducible rfl)
  try simp only [Act.put, List.setIfInBounds_toArray, List.set_cons_zero, List.set_cons_succ]
  refine Flow.done _ (by kernel_rfl) ?_
  intro W hW _
  have HI := Aside0.mk hW
  clear hW
  go_wp2_with fail
  go_ret
  exact ⟨rfl, IW.out _ HI.out⟩
end MBy
def klaxonlaw04_MetaBytes.f (a0_0 : Int) (a0_1 : Int) (a0_2 : Int) (a0_3 : Int) (l1 : List Int) : Option Bool := if (0 ≤ a0_0 ∧ a0_0 < 18446744073709551616) ∧ Go.Crc.bytesB l1 = true then some true else none
theorem klaxonlaw04_MetaBytes.calls (a0_0 : Int) (a0_1 : Int) (a0_2 : Int) (a0_3 : Int) (A1 : Option Addr) (c1 : Nat) (l1 : List Int) (r : Bool) (w : World) (hr1 : Kd.C (Kd.int .u8) w A1 l1.length l1) (hc1 : l1.length ≤ c1) (h : klaxonlaw04_MetaBytes.f a0_0 a0_1 a0_2 a0_3 l1 = some r) :
    Calls Try.prog 7 #[.agg #[.int .u64 a0_0, .int .i64 a0_1, .int .i64 a0_2, .int .i64 a0_3], .slice A1 l1.length c1] w fun e w' => e = .returned (.bool r) ∧ Below w.heap.size w w' := by
  unfold klaxonlaw04_MetaBytes.f at h
  by_cases hc : (0 ≤ a0_0 ∧ a0_0 < 18446744073709551616) ∧ Go.Crc.bytesB l1 = true
  · rw [if_pos hc] at h
    obtain rfl : true = r := Option.some.inj h
    exact MBy.metabytes_law a0_0 a0_1 a0_2 a0_3 A1 c1 l1 w hr1 hc1 hc.1 (Go.Crc.bytesB_ok hc.2)
  · rw [if_neg hc] at h; cases h


/-! ### klaxonlaw04_MetaTorn: function 8 -/
open Go.Proofs.YteimienhaodfcaaK Go.Crc
namespace MTo
theorem metatorn_law (seq s1 r1 k1 d1 s2 r2 k2 d2 cut : Int) (em : Bool) (w : World) :
    Calls Try.prog 8 #[.int .u64 seq, .agg #[.int .u64 s1, .int .i64 r1, .int .i64 k1, .int .i64 d1], .agg #[.int .u64 s2, .int .i64 r2, .int .i64 k2, .int .i64 d2], .int .i64 cut, .bool em] w fun e w' => e = .returned (.bool true) ∧ Below w.heap.size w w' := by
  by_cases hb : seq < 1 ∨ 4611686018427387904 < seq ∨ cut < 0 ∨ 64 < cut
  · exact torn_bad seq s1 r1 k1 d1 s2 r2 k2 d2 cut em w hb
  · obtain ⟨c, rfl⟩ : ∃ c : Nat, cut = c := ⟨cut.toNat, by omega⟩
    cases em
    · exact torn_full seq s1 r1 k1 d1 s2 r2 k2 d2 c w (by omega) (by omega)
    · exact torn_empty seq s1 r1 k1 d1 s2 r2 k2 d2 c w (by omega) (by omega)
end MTo
def klaxonlaw04_MetaTorn.f (a0 : Int) (a1_0 : Int) (a1_1 : Int) (a1_2 : Int) (a1_3 : Int) (a2_0 : Int) (a2_1 : Int) (a2_2 : Int) (a2_3 : Int) (a3 : Int) (a4 : Bool) : Option Bool := some true
theorem klaxonlaw04_MetaTorn.calls (a0 : Int) (a1_0 : Int) (a1_1 : Int) (a1_2 : Int) (a1_3 : Int) (a2_0 : Int) (a2_1 : Int) (a2_2 : Int) (a2_3 : Int) (a3 : Int) (a4 : Bool) (r : Bool) (w : World) (h : klaxonlaw04_MetaTorn.f a0 a1_0 a1_1 a1_2 a1_3 a2_0 a2_1 a2_2 a2_3 a3 a4 = some r) :
    Calls Try.prog 8 #[.int .u64 a0, .agg #[.int .u64 a1_0, .int .i64 a1_1, .int .i64 a1_2, .int .i64 a1_3], .agg #[.int .u64 a2_0, .int .i64 a2_1, .int .i64 a2_2, .int .i64 a2_3], .int .i64 a3, .bool a4] w fun e w' => e = .returned (.bool r) ∧ Below w.heap.size w w' := by
  obtain rfl : true = r := Option.some.inj h
  exact MTo.metatorn_law a0 a1_0 a1_1 a1_2 a1_3 a2_0 a2_1 a2_2 a2_3 a3 a4 w


/-! ### klaxonlaw04_MetaNil: function 9 -/
open Go.Proofs.YteimienhaodfcaaK Go.Crc
namespace MNl
set_option maxHeartbeats 4000000 in
set_option maxRecDepth 100000 in
theorem metanil_law (per s r k d : Int) (w : World) : Calls Try.prog 9 #[.int .i64 per, .agg #[.int .u64 s, .int .i64 r, .int .i64 k, .int .i64 d]] w fun e w' => e = .returned (.bool true) ∧ Below w.heap.size w w' := by
  obtain ⟨W0, hW0⟩ : ∃ W, W = w.alloc (.cells #[.int .u64 s, .int .i64 r, .int .i64 k, .int .i64 d] 52) := ⟨_, rfl⟩
  have hB0 : Below w.heap.size w W0 := by rw [hW0]; exact below_alloc (Below.refl _ _) _
  have hx0 : W0.heap[w.heap.size]? = some (.cells #[.int .u64 s, .int .i64 r, .int .i64 k, .int .i64 d] 52) := by rw [hW0]; exact blk_new w _
  have H0 := Aside0.mk (And.intro hB0 hx0)
  clear hB0 hx0
  go_enter Try.func9, Try.ntmps9
  go_wp2_with fail
  rw [← hW0]
  clear hW0
  refine (best_nil per W0).mono ?_
  rintro e w1 ⟨rfl, hb1⟩
  obtain ⟨W2, hW2⟩ : ∃ W, W = w1.alloc (.cells #[.int .u64 0, .int .i64 0, .int .i64 0, .int .i64 0] 52) := ⟨_, rfl⟩
  have hB2 : Below w.heap.size w W2 := by rw [hW2]; exact below_alloc (below_step H0.out.1 hb1) _
  have hx2 : W2.heap[w.heap.size]? = some (.cells #[.int .u64 s, .int .i64 r, .int .i64 k, .int .i64 d] 52) := by rw [hW2]; exact blk_alloc (blk_below H0.out.2 hb1) _
  have z0 := blk_cell hx2 0; have z1 := blk_cell hx2 1; have z2 := blk_cell hx2 2; have z3 := blk_cell hx2 3
  simp only [List.getElem?_toArray, List.getElem?_cons_zero, List.getElem?_cons_succ] at z0 z1 z2 z3
  have HB2 := Aside0.mk hB2
  rw [hW2] at z0 z1 z2 z3
  clear hx2 hB2 hb1
  go_wp2_with fail
  rw [← hW2]
  clear hW2
  refine (mwrite_nil per (.bool true) s r k d W2).mono ?_
  rintro e w3 ⟨rfl, hb3⟩
  have HB3 := Aside0.mk (below_step HB2.out hb3)
  clear hb3
  go_wp2_with fail
  refine (num4_calls 7 w3).mono ?_
  rintro e w4 ⟨rfl, hd4⟩
  have HB4 := Aside0.mk (below_step HB3.out hd4.below)
  clear hd4
  go_wp2_with fail
  refine (num4_calls 7 w4).mono ?_
  rintro e w5 ⟨rfl, hd5⟩
  have HB5 := Aside0.mk (below_step HB4.out hd5.below)
  clear hd5
  go_wp2_with fail
  refine (live4_calls w5).mono ?_
  rintro e w6 ⟨rfl, hb6⟩
  have HB6 := Aside0.mk (below_step HB5.out hb6)
  clear hb6
  go_wp2_with fail
  go_ret
  exact ⟨rfl, HB6.out⟩
end MNl
def klaxonlaw04_MetaNil.f (a0 : Int) (a1_0 : Int) (a1_1 : Int) (a1_2 : Int) (a1_3 : Int) : Option Bool := some true
theorem klaxonlaw04_MetaNil.calls (a0 : Int) (a1_0 : Int) (a1_1 : Int) (a1_2 : Int) (a1_3 : Int) (r : Bool) (w : World) (h : klaxonlaw04_MetaNil.f a0 a1_0 a1_1 a1_2 a1_3 = some r) :
    Calls Try.prog 9 #[.int .i64 a0, .agg #[.int .u64 a1_0, .int .i64 a1_1, .int .i64 a1_2, .int .i64 a1_3]] w fun e w' => e = .returned (.bool r) ∧ Below w.heap.size w w' := by
  obtain rfl : true = r := Option.some.inj h
  exact MNl.metanil_law a0 a1_0 a1_1 a1_2 a1_3 w

end Go.Proofs.Yteimienhaodfcaa.PMeta
