-- Written by a program of this session (wip/myprint.py), which drives the kit's print; read and checked by Lean alone.
import Derived.Test.YtndeagphchnokaaPBackx0
import Derived.Test.YtndeagphchnokaaPBackx1
import Derived.Test.YtndeagphchnokaaPBackx2
namespace Go.Proofs.Ytndeagphchnokaa.PBack
open Go.RowKit Go.Proofs.YtndeagphchnokaaW.PrintWords Go.Proofs.YtndeagphchnokaaW.PrintLast Go.Proofs.YtndeagphchnokaaW.PrintMore
attribute [local go_sem] max2_int min2_int max_two min_two max_three min_three max_four min_four   -- for this text's walks alone
set_option linter.unusedVariables false
set_option linter.unusedSimpArgs false


/-! ### klaxonlaw03_PageBack: function 4 -/
open Go.Proofs.YtndeagphchnokaaK Go.Crc
namespace Back
theorem live_ev : Ev (fun _ => (klaxonlaw03_live.f).bind fun t => some t) true := Ev.now _
theorem room_ev (s : Int) (h0 : -9223372036854775808 ≤ s) (h1 : s ≤ 9223372036854775807) : Ev (fun k => page_Room.f k s) (room s) := by
  unfold page_Room.f room
  have j0t : Ev (fun k => page_Room.j0 k s true) (0 : Int) := Ev.step (fun k => by rw [page_Room.j0]) (Ev.pos_ rfl (Ev.now _))
  by_cases h : s < 64
  · rw [if_pos (Or.inl h)]
    exact Ev.pos_ h j0t
  · refine Ev.neg_ h ?_
    by_cases h2 : 8192 < s
    · rw [if_pos (Or.inr h2), decide_eq_true h2]; exact j0t
    · rw [if_neg (by omega), decide_eq_false h2]
      have e : wrap64 (s - 11) = s - 11 := wrap64_id (by omega) (by omega)
      have := Ev.now (some (s - 11)) 
      exact Ev.step (fun k => by rw [page_Room.j0, e]) (Ev.neg_ (by decide) (Ev.now _))
theorem wf_i64 {y : Int} (h : (Lit.int .i64 y).wf = true) : -9223372036854775808 ≤ y ∧ y ≤ 9223372036854775807 := by
  simp [Lit.wf, IntKind.min, IntKind.max, IntKind.bits, IntKind.signed] at h; omega
theorem wf_u8 {y : Int} (h : (Lit.int .u8 y).wf = true) : 0 ≤ y ∧ y < 256 := by
  simp [Lit.wf, IntKind.min, IntKind.max, IntKind.bits, IntKind.signed] at h; omega
theorem wf_u32 {y : Int} (h : (Lit.int .u32 y).wf = true) : 0 ≤ y ∧ y < 4294967296 := by
  simp [Lit.wf, IntKind.min, IntKind.max, IntKind.bits, IntKind.signed] at h; omega
theorem put_eq {s kind id : Int} {L : List Int} (hk : 0 ≤ kind ∧ kind < 256) (hi : 0 ≤ id ∧ id < 4294967296) (hL : Bytes L) : page_Put.f s kind id L = some (putF s kind id L) := by
  unfold page_Put.f; rw [if_pos ⟨hk.1, hk.2, hi.1, hi.2, bytesB_of hL⟩]
/-- A page's first seven bytes. -/
def headL (kind id : Int) (n : Nat) : List Int := kind :: (be 4 id ++ be 2 n)
theorem headL_length (kind id : Int) (n : Nat) : (headL kind id n).length = 7 := rfl
/-- A page's bytes but the sum. -/
def bodyL (s : Nat) (kind id : Int) (L : List Int) : List Int := headL kind id L.length ++ (L ++ zeros (s - 11 - L.length))
theorem bodyL_length (s : Nat) (kind id : Int) (L : List Int) (h : 11 + L.length ≤ s) : (bodyL s kind id L).length = s - 4 := by
  unfold bodyL; rw [List.length_append, List.length_append, headL_length, zeros, List.length_replicate]; omega
theorem putHead_shape (m : Nat) (kind id : Int) (L : List Int) : putHead (m + 7) kind id L = headL kind id L.length ++ zeros m := by
  simp [putHead, layL, be, zeros, List.replicate_succ, headL]
theorem putBody_shape (s : Nat) (kind id : Int) (L : List Int) (h : 11 + L.length ≤ s) : putBody s kind id L = bodyL s kind id L ++ zeros 4 := by
  obtain ⟨m, rfl⟩ : ∃ m, s = m + 7 := ⟨s - 7, by omega⟩
  have hd : (headL kind id L.length ++ zeros m).drop (7 + L.length) = zeros (m - L.length) := by
    rw [← List.drop_drop, List.drop_left' (headL_length _ _ _), zeros, List.drop_replicate]; rfl
  have hz : zeros (m - L.length) = zeros (m + 7 - 11 - L.length) ++ zeros 4 := by
    unfold zeros; rw [List.replicate_append_replicate]; congr 1; omega
  unfold putBody
  rw [putHead_shape, List.take_left' (headL_length _ _ _), hd, hz]
  unfold bodyL
  simp only [List.append_assoc]
theorem putB_shape (s : Nat) (kind id : Int) (L : List Int) (h : 11 + L.length ≤ s) : putB s kind id L = bodyL s kind id L ++ be 4 (crc (bodyL s kind id L)) := by
  have hl := bodyL_length s kind id L h
  unfold putB layL
  rw [putBody_shape s kind id L h, List.take_left' hl]
  have : (bodyL s kind id L ++ zeros 4).drop (s - 4 + 4) = [] := by
    refine List.drop_eq_nil_of_le ?_
    rw [List.length_append, hl, zeros, List.length_replicate]
    exact Nat.le_refl _
  rw [this, List.append_nil]
/-- The number of bytes. -/
def toldL (l : List Int) : Int := l.foldl (fun n c => n * 256 + c) 0
theorem or_low (n c : Int) (h0 : 0 ≤ n) (h1 : n < 72057594037927936) (hc : 0 ≤ c) (hc2 : c < 256) : Go.bits .or .u64 (IntKind.u64.wrap (n * 256)) (IntKind.u64.wrap c) = n * 256 + c := by
  have e1 : IntKind.u64.wrap (n * 256) = n * 256 := by rw [IntKind.wrap_u64]; omega
  have e2 : IntKind.u64.wrap c = c := by rw [IntKind.wrap_u64]; omega
  rw [e1, e2]
  have := u64_or_nat (n.toNat * 256) c.toNat (by omega) (by omega)
  have e3 : ((n.toNat * 256 : Nat) : Int) = n * 256 := by omega
  have e4 : ((c.toNat : Nat) : Int) = c := by omega
  rw [e3, e4] at this
  rw [this]
  have h := Nat.two_pow_add_eq_or_of_lt (i := 8) (b := c.toNat) (by omega) n.toNat
  have e5 : n.toNat * 256 = 2 ^ 8 * n.toNat := by omega
  rw [e5, ← h]
  omega
theorem told_loop (l : List Int) (hl : Bytes l) (h4 : l.length ≤ 7) (d : Nat) : ∀ (i : Nat), l.length - i = d → i ≤ l.length → 0 ≤ toldL (l.take i) ∧ toldL (l.take i) < 256 ^ i → Ev (fun k => page_told.l0 k (toldL (l.take i)) l (l.length : Int) i) (toldL l) := by
  induction d with
  | zero =>
    intro i hd hi _
    have e : l.take i = l := List.take_of_length_le (by omega)
    rw [e]
    exact Ev.step (fun k => by rw [page_told.l0]) (Ev.neg_ (by omega) (Ev.now _))
  | succ d ih =>
    intro i hd hi ⟨h0, h1⟩
    have hlt : i < l.length := by omega
    obtain ⟨b0, b1⟩ := hl _ (rd_in l i hlt)
    have hpn : 256 ^ i ≤ 256 ^ 6 := Nat.pow_le_pow_right (n := 256) (by decide) (by omega)
    have hp : (256 : Int) ^ i ≤ 256 ^ 6 := by have : (((256 ^ i : Nat)) : Int) ≤ ((256 ^ 6 : Nat) : Int) := by omega
                                              simpa [Int.natCast_pow] using this
    have e : toldL (l.take (i + 1)) = toldL (l.take i) * 256 + rd l i := by rw [rd_take l i hlt, toldL, List.foldl_append]; rfl
    refine Ev.step (fun k => by rw [page_told.l0]) (Ev.pos_ (by omega) (Ev.pos_ (by omega) (Ev.pos_ (by omega) ?_)))
    rw [or_low _ _ h0 (by omega) b0 b1, ← e, wrap64_id (by omega) (by omega), show ((i : Int) + 1) = ((i + 1 : Nat) : Int) by omega]
    refine ih (i + 1) (by omega) (by omega) ?_
    rw [e, Int.pow_succ]; omega
theorem told_ev (l : List Int) (hl : Bytes l) (h4 : l.length ≤ 7) : Ev (fun k => page_told.f k l) (toldL l) :=
  told_loop l hl h4 l.length 0 rfl (by omega) (by simp [toldL])
theorem told_be2 (v : Int) (h0 : 0 ≤ v) (h1 : v < 65536) : toldL (be 2 v) = v := by simp [toldL, be]; omega
theorem told_be4 (v : Int) (h0 : 0 ≤ v) (h1 : v < 4294967296) : toldL (be 4 v) = v := by simp [toldL, be]; omega
theorem told_nonneg (l : List Int) (hl : Bytes l) : ∀ n : Int, 0 ≤ n → 0 ≤ l.foldl (fun n c => n * 256 + c) n := by
  induction l with
  | nil => intro n h; exact h
  | cons a t ih => intro n h; exact ih (fun x hx => hl x (by simp [hx])) (n * 256 + a) (by have := (hl a (by simp)).1; omega)
theorem told_lt (l : List Int) (hl : Bytes l) : ∀ n : Int, 0 ≤ n → l.foldl (fun n c => n * 256 + c) n < (n + 1) * 256 ^ l.length := by
  induction l with
  | nil => intro n h; simp; omega
  | cons a t ih =>
    intro n h
    have ha := hl a (by simp)
    have := ih (fun x hx => hl x (by simp [hx])) (n * 256 + a) (by omega)
    have hp : (0 : Int) < 256 ^ t.length := Int.pow_pos (by decide)
    have hm : (n * 256 + a + 1) * 256 ^ t.length ≤ (n * 256 + 256) * 256 ^ t.length := Int.mul_le_mul_of_nonneg_right (by omega) (by omega)
    have e : (n + 1) * (256 : Int) ^ (a :: t).length = (n * 256 + 256) * 256 ^ t.length := by
      rw [List.length_cons, Int.pow_succ, Int.mul_comm (256 ^ t.length) 256, ← Int.mul_assoc, Int.add_mul]; rfl
    rw [e]
    exact Int.lt_of_lt_of_le this hm
theorem told_lt4 (l : List Int) (hl : Bytes l) (h4 : l.length ≤ 4) : 0 ≤ toldL l ∧ toldL l < 4294967296 := by
  refine ⟨told_nonneg l hl 0 (by omega), ?_⟩
  have h := told_lt l hl 0 (by omega)
  have hpn : 256 ^ l.length ≤ 256 ^ 4 := Nat.pow_le_pow_right (n := 256) (by decide) h4
  have hp : (256 : Int) ^ l.length ≤ 256 ^ 4 := by
    have : (((256 ^ l.length : Nat)) : Int) ≤ ((256 ^ 4 : Nat) : Int) := by omega
    simpa [Int.natCast_pow] using this
  show toldL l < 256 ^ 4
  unfold toldL
  omega
theorem equal_loop (a b : List Int) (hab : a.length = b.length) (hs : a.length < 1000000000) (d : Nat) : ∀ (i : Nat), a.length - i = d → i ≤ a.length → a.take i = b.take i → Ev (fun k => slices_Equal_byte_byte.l0 k a b (a.length : Int) i) (decide (a = b)) := by
  induction d with
  | zero =>
    intro i hd hi h
    have e : a = b := by rwa [List.take_of_length_le (by omega), List.take_of_length_le (by omega)] at h
    rw [decide_eq_true e]
    exact Ev.step (fun k => by rw [slices_Equal_byte_byte.l0]) (Ev.neg_ (by omega) (Ev.now _))
  | succ d ih =>
    intro i hd hi h
    refine Ev.step (fun k => by rw [slices_Equal_byte_byte.l0]) (Ev.pos_ (by omega) (Ev.pos_ (by omega) (Ev.pos_ (by omega) (Ev.pos_ (by omega) ?_))))
    refine Ev.ite_ (fun e => ?_) (fun e => ?_)
    · rw [wrap64_id (by omega) (by omega), show ((i : Int) + 1) = ((i + 1 : Nat) : Int) by omega]
      exact ih (i + 1) (by omega) (by omega) (by rw [rd_take a i (by omega), rd_take b i (by omega), h, e])
    · have : ¬ a = b := fun h2 => e (by rw [h2])
      rw [decide_eq_false this]
      exact Ev.now _
theorem equal_ev (a b : List Int) (hs : a.length < 1000000000) : Ev (fun k => slices_Equal_byte_byte.f k a b) (decide (a = b)) := by
  unfold slices_Equal_byte_byte.f
  refine Ev.ite_ (fun h => ?_) (fun h => ?_)
  · exact equal_loop a b (by omega) hs a.length 0 rfl (by omega) (by simp)
  · have : ¬ a = b := fun h2 => h (by rw [h2])
    rw [decide_eq_false this]
    exact Ev.now _
/-- A page that is read. -/
def getP (l : List Int) : Int × Int × List Int × Int :=
  if room l.length = 0 then (0, 0, [], 30) else
  if room l.length < toldL ((l.take 7).drop 5) then (0, 0, [], 30) else
  if putE l.length (rd l 0) ((l.take (7 + toldL ((l.take 7).drop 5)).toNat).drop 7) = 0 ∧ putB l.length (rd l 0) (toldL ((l.take 5).drop 1)) ((l.take (7 + toldL ((l.take 7).drop 5)).toNat).drop 7) = l then (rd l 0, toldL ((l.take 5).drop 1), (l.take (7 + toldL ((l.take 7).drop 5)).toNat).drop 7, 0) else (0, 0, [], 30)
theorem bytes_part {l : List Int} (h : Bytes l) (m n : Nat) : Bytes ((l.take m).drop n) := fun x hx => h x (List.mem_of_mem_take (List.mem_of_mem_drop hx))
theorem get_ev (l : List Int) (hl : Bytes l) (hs : l.length < 1000000000) : Ev (fun k => page_Get.f k l) (getP l) := by
  unfold page_Get.f getP
  refine Ev.bind_ (room_ev _ (by omega) (by omega)) ?_
  by_cases h0 : room l.length = 0
  · rw [if_pos h0]; exact Ev.pos_ h0 (Ev.now _)
  rw [if_neg h0]
  have hr : room l.length = (l.length : Int) - 11 ∧ 64 ≤ l.length ∧ l.length ≤ 8192 := by unfold room at h0 ⊢; split at h0 <;> (first | omega | (rw [if_neg (by assumption)]; omega))
  have b1 := told_lt4 _ (bytes_part hl 7 5) (by rw [List.length_drop, List.length_take]; omega)
  have b2 := told_lt4 _ (bytes_part hl 5 1) (by rw [List.length_drop, List.length_take]; omega)
  refine Ev.neg_ h0 (Ev.pos_ (by omega) (Ev.pos_ (by omega) (Ev.bind_ (told_ev _ (bytes_part hl 7 5) (by rw [List.length_drop, List.length_take]; omega)) (Ev.bind_ (room_ev _ (by omega) (by omega)) ?_))))
  generalize toldL ((l.take 7).drop 5) = n at b1 ⊢
  rw [wrap64_id (a := n) (by omega) (by omega)]
  by_cases h1 : room l.length < n
  · rw [if_pos h1]; exact Ev.pos_ h1 (Ev.now _)
  rw [if_neg h1]
  refine Ev.neg_ h1 (Ev.pos_ (by omega) (Ev.pos_ (by omega) (Ev.pos_ (by omega) (Ev.bind_ (told_ev _ (bytes_part hl 5 1) (by rw [List.length_drop, List.length_take]; omega)) ?_))))
  generalize toldL ((l.take 5).drop 1) = id at b2 ⊢
  rw [wrap64_id (a := 7 + n) (by omega) (by omega)]
  refine Ev.pos_ (by omega) (Ev.pos_ (by omega) ?_)
  have hLB := bytes_part hl (7 + n).toNat 7
  have hLl : ((l.take (7 + n).toNat).drop 7).length = n.toNat := by rw [List.length_drop, List.length_take]; omega
  generalize (l.take (7 + n).toNat).drop 7 = L at hLB hLl ⊢
  have hk := hl _ (rd_in l 0 (by omega))
  refine Ev.some_bind (a := L) (by unfold slices_Clone_byte_byte.f; rw [if_pos (by omega)]) ?_
  have hid : id % 4294967296 = id := by omega
  rw [hid]
  refine Ev.some_bind (put_eq (by exact hk) (by omega) hLB) ?_
  have j0t : Ev (fun k => page_Get.j0 k true (rd l 0) id L) ((0 : Int), (0 : Int), ([] : List Int), (30 : Int)) := Ev.step (fun k => by rw [page_Get.j0]) (Ev.pos_ rfl (Ev.now _))
  by_cases h2 : putE l.length (rd l 0) L = 0
  · refine Ev.pos_ h2 ?_
    have e : (putF (l.length : Int) (rd l 0) id L).1 = putB l.length (rd l 0) id L := by unfold putF; rw [if_pos h2]; rfl
    obtain ⟨q1, q2, _, q3⟩ := putE_zero h2
    have hbl := putB_length l.length (rd l 0) id L (by omega)
    rw [e]
    refine Ev.bind_ (equal_ev _ l (by omega)) ?_
    by_cases h3 : putB l.length (rd l 0) id L = l
    · rw [if_pos ⟨h2, h3⟩, decide_eq_true h3]
      exact Ev.step (fun k => by rw [page_Get.j0]) (Ev.neg_ (by decide) (Ev.now _))
    · rw [if_neg (fun h => h3 h.2), decide_eq_false h3]
      exact j0t
  · rw [if_neg (fun h => h2 h.1)]
    exact Ev.neg_ h2 j0t
theorem putB_rd (s : Nat) (kind id : Int) (L : List Int) (h : 11 + L.length ≤ s) : rd (putB s kind id L) 0 = kind := by rw [putB_shape s kind id L h]; rfl
theorem get_put (s : Nat) (kind id : Int) (L : List Int) (hi : 0 ≤ id ∧ id < 4294967296) (he : putE s kind L = 0) : getP (putB s kind id L) = (kind, id, L, 0) := by
  obtain ⟨q1, q2, q4, q3⟩ := putE_zero he
  have hl := putB_length s kind id L (by omega)
  have hsh := putB_shape s kind id L (by omega)
  have e5 : (putB s kind id L).take 7 = headL kind id L.length := by rw [hsh]; unfold bodyL; rw [List.append_assoc]; exact List.take_left' (headL_length _ _ _)
  have e1 : ((putB s kind id L).take 7).drop 5 = be 2 L.length := by rw [e5]; rfl
  have e2 : ((putB s kind id L).take 5).drop 1 = be 4 id := by
    have : (putB s kind id L).take 5 = ((putB s kind id L).take 7).take 5 := by rw [List.take_take]; rfl
    rw [this, e5]; rfl
  have e3 : toldL (be 2 (L.length : Int)) = L.length := told_be2 _ (by omega) (by omega)
  have e4 : toldL (be 4 id) = id := told_be4 _ hi.1 hi.2
  have e6 : ((putB s kind id L).take (7 + (L.length : Int)).toNat).drop 7 = L := by
    rw [show (7 + (L.length : Int)).toNat = 7 + L.length by omega, hsh]
    unfold bodyL
    rw [List.append_assoc, List.append_assoc, List.drop_take, List.drop_left' (headL_length _ _ _)]
    exact List.take_left' (by omega)
  have hrm : ¬ room s = 0 ∧ room s = (s : Int) - 11 := by unfold room; rw [if_neg (by omega)]; omega
  unfold getP
  rw [hl, if_neg hrm.1, e1, e3, if_neg (by omega), e6, e2, e4, putB_rd s kind id L (by omega), if_pos ⟨he, rfl⟩]
theorem getP_page (l : List Int) : ((getP l).2.2.2 = 0 ∧ ∃ L, (getP l).2.2.1 = L) ∨ (getP l).2.2.2 = 30 := by
  unfold getP
  split
  · exact .inr rfl
  · split
    · exact .inr rfl
    · split
      · exact .inl ⟨rfl, _, rfl⟩
      · exact .inr rfl
theorem putB_bytes (s : Nat) (kind id : Int) (L : List Int) (h : 11 + L.length ≤ s) (hk : 0 ≤ kind ∧ kind < 256) (hL : Bytes L) : Bytes (putB s kind id L) := by
  rw [putB_shape s kind id L h]
  refine Bytes.append ?_ (be_bytes _ _)
  unfold bodyL headL
  refine Bytes.append (fun x hx => ?_) (Bytes.append hL (fun x hx => ?_))
  · rcases List.mem_cons.mp hx with rfl | hx
    · exact hk
    · exact (List.mem_append.mp hx).elim (be_bytes 4 _ x) (be_bytes 2 _ x)
  · rw [(List.mem_replicate.mp hx).2]; omega
theorem nums_bytes (a : List Int) (h : Bytes a) : (Lib.bytesOf a).map (fun u => (u.toNat : Int)) = a := by
  unfold Lib.bytesOf
  rw [List.map_map]
  conv => rhs; rw [← List.map_id a]
  refine List.map_congr_left fun x hx => ?_
  obtain ⟨h0, h1⟩ := h x hx
  simp only [Function.comp, id]
  rw [UInt8.toNat_ofNat']
  omega
theorem strOf_inj (a b : List Int) (ha : Bytes a) (hb : Bytes b) : ((strOfNums a).toList == (strOfNums b).toList) = decide (a = b) := by
  rw [Lib.strOfNums_toList, Lib.strOfNums_toList]
  by_cases h : a = b
  · rw [h]; simp
  · rw [decide_eq_false h]
    have : ¬ Lib.bytesOf a = Lib.bytesOf b := by
      intro hc
      apply h
      rw [← nums_bytes a ha, ← nums_bytes b hb, hc]
    simpa using this
theorem same_eq (k1 i1 k2 i2 : Int) (L1 L2 : List Int) (h1 : Bytes L1) (h2 : Bytes L2) : klaxonref03_Same.f k1 i1 L1 k2 i2 L2 = some (decide (k1 = k2 ∧ i1 = i2 ∧ L1 = L2)) := by
  unfold klaxonref03_Same.f
  rw [strOf_inj L1 L2 h1 h2]
  by_cases a : k1 = k2 <;> by_cases b : i1 = i2 <;> simp [a, b]
theorem get_less (l : List Int) (s : Nat) (hl : l.length = s - 1) (hs : 64 ≤ s) : (getP l).2.2.2 = 30 ∨ ((getP l).2.2.2 = 0 ∧ 64 ≤ (s : Int) - 1) := by
  by_cases h : s = 64
  · left
    unfold getP
    rw [if_pos (by unfold room; rw [if_pos (by omega)])]
  · rcases getP_page l with h1 | h1
    · exact .inr ⟨h1.1, by omega⟩
    · exact .inl h1
set_option maxHeartbeats 8000000 in
set_option maxRecDepth 100000 in
theorem back_law (size k1 i1 k2 i2 : Int) (A1 A2 : Option Addr) (c1 c2 : Nat) (L1 L2 : List Int) (w : World) (hr1 : Kd.C (Kd.int .u8) w A1 L1.length L1) (hc1 : L1.length ≤ c1) (hr2 : Kd.C (Kd.int .u8) w A2 L2.length L2) (hc2 : L2.length ≤ c2) (hk1 : 0 ≤ k1 ∧ k1 < 256) (hi1 : 0 ≤ i1 ∧ i1 < 4294967296) (hk2 : 0 ≤ k2 ∧ k2 < 256) (hi2 : 0 ≤ i2 ∧ i2 < 4294967296) (hL1 : Bytes L1) (hL2 : Bytes L2) (hs : -9223372036854775808 ≤ size ∧ size ≤ 9223372036854775807) :
    Calls Try.prog 4 #[.int .i64 size, .agg #[.int .u8 k1, .int .u32 i1, .slice A1 L1.length c1], .agg #[.int .u8 k2, .int .u32 i2, .slice A2 L2.length c2]] w fun e w' => e = .returned (.bool true) ∧ Below w.heap.size w w' := by
  have HR1 := Aside0.mk hr1; have HR2 := Aside0.mk hr2; have HL1 := Aside0.mk hL1; have HL2 := Aside0.mk hL2
  have hm1 := hr1.2.1
  have hm2 := hr2.2.1
  clear hr1 hr2 hL1 hL2
  go_enter Try.func4, Try.ntmps4
  by_cases h1 : 20000 < (L1.length : Int)
  · have d1 : decide (20000 < (L1.length : Int)) = true := decide_eq_true h1
    go_wp2_with fail
    refine (klaxonlaw03_live.calls true _ rfl).mono ?_
    rintro e w1 ⟨rfl, hb⟩
    have HB := Aside0.mk (below_step (below_alloc (below_alloc (Below.refl w.heap.size w) _) _) hb)
    clear hb
    go_wp2_with fail
    go_ret
    exact ⟨rfl, HB.out⟩
  have d1 : decide (20000 < (L1.length : Int)) = false := decide_eq_false h1
  by_cases h2 : 20000 < (L2.length : Int)
  · have d2 : decide (20000 < (L2.length : Int)) = true := decide_eq_true h2
    go_wp2_with fail
    refine (klaxonlaw03_live.calls true _ rfl).mono ?_
    rintro e w1 ⟨rfl, hb⟩
    have HB := Aside0.mk (below_step (below_alloc (below_alloc (Below.refl w.heap.size w) _) _) hb)
    clear hb
    go_wp2_with fail
    go_ret
    exact ⟨rfl, HB.out⟩
  have d2 : decide (20000 < (L2.length : Int)) = false := decide_eq_false h2
  go_wp2_with fail
  obtain ⟨W0, hW0⟩ : ∃ W0, W0 = ((w.alloc (Obj.cells #[Value.int IntKind.u8 k1, Value.int IntKind.u32 i1, Value.slice A1 L1.length c1] 25)).alloc (Obj.cells #[Value.int IntKind.u8 k2, Value.int IntKind.u32 i2, Value.slice A2 L2.length c2] 25)) := ⟨_, rfl⟩
  rw [← hW0]
  have hX0 : W0.heap[w.heap.size]? = some (.cells #[Value.int IntKind.u8 k1, Value.int IntKind.u32 i1, Value.slice A1 L1.length c1] 25 (0, 0)) := by rw [hW0]; exact blk_alloc (blk_new w _) _
  have hY0 : W0.heap[w.heap.size + 1]? = some (.cells #[Value.int IntKind.u8 k2, Value.int IntKind.u32 i2, Value.slice A2 L2.length c2] 25 (0, 0)) := by
    have := blk_new (w.alloc (Obj.cells #[Value.int IntKind.u8 k1, Value.int IntKind.u32 i1, Value.slice A1 L1.length c1] 25)) (Obj.cells #[Value.int IntKind.u8 k2, Value.int IntKind.u32 i2, Value.slice A2 L2.length c2] 25)
    rw [show (w.alloc (Obj.cells #[Value.int IntKind.u8 k1, Value.int IntKind.u32 i1, Value.slice A1 L1.length c1] 25)).heap.size = w.heap.size + 1 by simp] at this
    rw [hW0]; exact this
  have hB0 : Below w.heap.size w W0 := by rw [hW0]; exact below_alloc (below_alloc (Below.refl _ _) _) _
  have R10 := Kd.C_below HR1.out hB0
  have R20 := Kd.C_below HR2.out hB0
  clear hW0
  refine (put_calls' A1 c1 size k1 i1 L1 W0 R10 hc1 hk1 hi1 HL1.out).mono ?_
  rintro e w1 ⟨v1, rfl, hr1, hb1⟩
  obtain ⟨B1, d1', rfl⟩ := Kd.R_slice hr1
  obtain ⟨_, hq1, hC1⟩ := Kd.R_reads' hr1
  have hX1 := blk_below hX0 hb1
  have hY1 := blk_below hY0 hb1
  have HX := Aside0.mk hX1; have HY := Aside0.mk hY1
  have HB := Aside0.mk (below_step hB0 hb1); have R11 := Aside0.mk (Kd.C_below R10 hb1); have R21 := Aside0.mk (Kd.C_below R20 hb1); have C1 := Aside0.mk hC1; have Q1 := Aside0.mk hq1
  have hy0 : w1.cell? ⟨w.heap.size + 1, 0, none⟩ = some (.int .u8 k2) := by rw [blk_cell hY1]; rfl
  have hy1 : w1.cell? ⟨w.heap.size + 1, 1, none⟩ = some (.int .u32 i2) := by rw [blk_cell hY1]; rfl
  have hy2 : w1.cell? ⟨w.heap.size + 1, 2, none⟩ = some (.slice A2 L2.length c2) := by rw [blk_cell hY1]; rfl
  clear hX0 hY0 hB0 R10 R20 hr1 hb1 hC1 hq1 hX1 hY1
  go_wp2_with fail
  refine (put_calls' A2 c2 size k2 i2 L2 w1 R21.out hc2 hk2 hi2 HL2.out).mono ?_
  rintro e w2 ⟨v2, rfl, hr2, hb2⟩
  obtain ⟨B2, d2', rfl⟩ := Kd.R_slice hr2
  obtain ⟨_, hq2, hC2⟩ := Kd.R_reads' hr2
  have hX2 := blk_below HX.out hb2
  have hY2 := blk_below HY.out hb2
  have HX := Aside0.mk hX2; have HY := Aside0.mk hY2
  have HB := Aside0.mk (below_step HB.out hb2); have R12 := Aside0.mk (Kd.C_below R11.out hb2); have R22 := Aside0.mk (Kd.C_below R21.out hb2); have C1 := Aside0.mk (Kd.C_below C1.out hb2); have C2 := Aside0.mk hC2; have Q2 := Aside0.mk hq2
  clear hr2 hb2 hC2 hq2 hX2 hY2 hy0 hy1 hy2
  go_wp2_with fail
  refine (klaxonlaw03_num.calls (putF size k1 i1 L1).2 (putF size k1 i1 L1).2 _ rfl).mono ?_
  rintro e w3 ⟨rfl, ⟨n3, rfl⟩⟩
  by_cases he : putE size k1 L1 = 0
  case neg =>
    have e0 : ((putF size k1 i1 L1).2 != 0) = true := by simpa [putF] using he
    have e1 : (putF size k1 i1 L1).1.length = 0 := by unfold putF; rw [if_neg he]; rfl
    go_wp2_with fail
    refine (klaxonlaw03_live.calls true _ rfl).mono ?_
    rintro e w4 ⟨rfl, hb⟩
    have HBX := Aside0.mk (below_step (pw_below_drewN HB.out n3) hb)
    clear hb
    go_wp2_with fail
    go_ret
    exact ⟨rfl, HBX.out⟩
  case pos =>
    obtain ⟨q1, q2, q4, q3⟩ := putE_zero he
    obtain ⟨s, rfl⟩ : ∃ s : Nat, size = s := ⟨size.toNat, by omega⟩
    have ea : putF (s : Int) k1 i1 L1 = (putB s k1 i1 L1, 0) := by unfold putF; rw [he, if_pos rfl]; rfl
    rw [ea] at C1 Q1 ⊢
    have hl1 := putB_length s k1 i1 L1 (by omega)
    have hbb := putB_bytes s k1 i1 L1 (by omega) hk1 HL1.out
    dsimp only at C1 Q1 ⊢
    rw [hl1] at C1 Q1
    simp only [hl1]
    go_wp2_with fail
    obtain ⟨kg, hg⟩ := Ev.at_ (get_ev (putB s k1 i1 L1) hbb (by omega))
    rw [get_put s k1 i1 L1 hi1 he] at hg
    have G := page_Get.calls kg B1 d1' (putB s k1 i1 L1) k1 i1 L1 0 (w2.drewN n3) (by rw [hl1]; exact Kd.C_drewN C1.out _) (by rw [hl1]; exact Q1.out) hg
    rw [hl1] at G
    refine G.mono ?_
    rintro e w4 ⟨v4, rfl, hr4, hb4⟩
    obtain ⟨B4, d4', rfl⟩ := Kd.R_slice hr4
    obtain ⟨_, hq4, hC4⟩ := Kd.R_reads' hr4
    have hb24 : Below w2.heap.size w2 w4 := below_step (pw_below_drewN (Below.refl _ _) _) hb4
    have hX4 := blk_below HX.out hb24
    have hY4 := blk_below HY.out hb24
    have Z : ∀ o, w.heap.size + 1 < (w4.alloc o).heap.size := fun o => by have := blk_lt hY4; simp; omega
    have HX := Aside0.mk hX4; have HY := Aside0.mk hY4
    have HB := Aside0.mk (below_step HB.out hb24); have R12 := Aside0.mk (Kd.C_below R12.out hb24); have R22 := Aside0.mk (Kd.C_below R22.out hb24); have C1 := Aside0.mk (Kd.C_below C1.out hb24); have C2 := Aside0.mk (Kd.C_below C2.out hb24); have C4 := Aside0.mk hC4; have Q4 := Aside0.mk hq4
    clear hr4 hb4 hC4 hq4 hX4 hY4 hb24 G hg Z
    go_wp2_with fail
    obtain ⟨W5, hW5⟩ : ∃ W5, W5 = w4.alloc (Obj.cells #[Value.int IntKind.u8 k1, Value.int IntKind.u32 i1, Value.slice B4 L1.length d4'] 25) := ⟨_, rfl⟩
    rw [← hW5]
    have hZ5 : W5.heap[w4.heap.size]? = some (.cells #[Value.int IntKind.u8 k1, Value.int IntKind.u32 i1, Value.slice B4 L1.length d4'] 25 (0, 0)) := by rw [hW5]; exact blk_new w4 _
    have hb45 : Below w4.heap.size w4 W5 := by rw [hW5]; exact below_alloc (Below.refl _ _) _
    clear hW5
    have hX5 := blk_below HX.out hb45
    have hY5 := blk_below HY.out hb45
    have HX := Aside0.mk hX5; have HY := Aside0.mk hY5
    have HB := Aside0.mk (below_step HB.out hb45); have R15 := Aside0.mk (Kd.C_below R12.out hb45); have R25 := Aside0.mk (Kd.C_below R22.out hb45); have C1 := Aside0.mk (Kd.C_below C1.out hb45); have C2 := Aside0.mk (Kd.C_below C2.out hb45); have C4 := Aside0.mk (Kd.C_below C4.out hb45)
    have hx0 : W5.cell? ⟨w.heap.size, 0, none⟩ = some (.int .u8 k1) := by rw [blk_cell hX5]; rfl
    have hx1 : W5.cell? ⟨w.heap.size, 1, none⟩ = some (.int .u32 i1) := by rw [blk_cell hX5]; rfl
    have hx2 : W5.cell? ⟨w.heap.size, 2, none⟩ = some (.slice A1 L1.length c1) := by rw [blk_cell hX5]; rfl
    have hz0 : W5.cell? ⟨w4.heap.size, 0, none⟩ = some (.int .u8 k1) := by rw [blk_cell hZ5]; rfl
    have hz1 : W5.cell? ⟨w4.heap.size, 1, none⟩ = some (.int .u32 i1) := by rw [blk_cell hZ5]; rfl
    have hz2 : W5.cell? ⟨w4.heap.size, 2, none⟩ = some (.slice B4 L1.length d4') := by rw [blk_cell hZ5]; rfl
    have hs11 : klaxonref03_Same.f k1 i1 L1 k1 i1 L1 = some true := by rw [same_eq _ _ _ _ _ _ HL1.out HL1.out]; simp
    have HZ := Aside0.mk hZ5
    have HBB := Aside0.mk hbb
    have HI12 := Aside0.mk (And.intro hi1 hi2)
    have HK2 := Aside0.mk hk2
    clear hX5 hY5 hZ5 hb45 hl1 hbb ea

    have HQ := Aside0.mk (And.intro q1 (And.intro q2 (And.intro q3 (And.intro he hs))))
    obtain ⟨Inv, hInv⟩ : ∃ I : World → Prop, I = fun W => W.heap[w.heap.size]? = some (.cells #[Value.int IntKind.u8 k1, Value.int IntKind.u32 i1, Value.slice A1 L1.length c1] 25 (0, 0)) ∧ W.heap[w.heap.size + 1]? = some (.cells #[Value.int IntKind.u8 k2, Value.int IntKind.u32 i2, Value.slice A2 L2.length c2] 25 (0, 0)) ∧ W.heap[w4.heap.size]? = some (.cells #[Value.int IntKind.u8 k1, Value.int IntKind.u32 i1, Value.slice B4 L1.length d4'] 25 (0, 0)) ∧ Kd.C (Kd.int .u8) W A1 L1.length L1 ∧ Kd.C (Kd.int .u8) W A2 L2.length L2 ∧ Kd.C (Kd.int .u8) W B4 L1.length L1 ∧ Kd.C (Kd.int .u8) W B1 s (putB s k1 i1 L1) ∧ Kd.C (Kd.int .u8) W B2 (putF s k2 i2 L2).1.length (putF s k2 i2 L2).1 ∧ Below w.heap.size w W := ⟨_, rfl⟩
    have HI5 : Inv W5 := by rw [hInv]; exact ⟨HX.out, HY.out, HZ.out, R15.out, R25.out, C4.out, C1.out, C2.out, HB.out⟩
    have IB : ∀ W W', Inv W → Below W.heap.size W W' → Inv W' := by
      rw [hInv]; rintro W W' ⟨a1, a2, a3, a4, a5, a6, a7, a8, a9⟩ hb
      exact ⟨blk_below a1 hb, blk_below a2 hb, blk_below a3 hb, Kd.C_below a4 hb, Kd.C_below a5 hb, Kd.C_below a6 hb, Kd.C_below a7 hb, Kd.C_below a8 hb, below_step a9 hb⟩
    have IS : ∀ W, Inv W → (Inv W ∧ W.cell? ⟨w.heap.size, 0, none⟩ = some (.int .u8 k1) ∧ W.cell? ⟨w.heap.size, 1, none⟩ = some (.int .u32 i1) ∧ W.cell? ⟨w.heap.size, 2, none⟩ = some (.slice A1 L1.length c1) ∧ W.cell? ⟨w.heap.size + 1, 0, none⟩ = some (.int .u8 k2) ∧ W.cell? ⟨w.heap.size + 1, 1, none⟩ = some (.int .u32 i2) ∧ W.cell? ⟨w.heap.size + 1, 2, none⟩ = some (.slice A2 L2.length c2) ∧ W.cell? ⟨w4.heap.size, 0, none⟩ = some (.int .u8 k1) ∧ W.cell? ⟨w4.heap.size, 1, none⟩ = some (.int .u32 i1) ∧ W.cell? ⟨w4.heap.size, 2, none⟩ = some (.slice B4 L1.length d4') ∧ (convert 23 9 (.slice B1 s d1')).run Try.prog W = .ok (.string (strOfNums (putB s k1 i1 L1))) W ∧ (convert 23 9 (.slice B2 (putF s k2 i2 L2).1.length d2')).run Try.prog W = .ok (.string (strOfNums (putF s k2 i2 L2).1)) W) := by
      rw [hInv]; rintro W ⟨a1, a2, a3, a4, a5, a6, a7, a8, a9⟩
      refine ⟨⟨a1, a2, a3, a4, a5, a6, a7, a8, a9⟩, ?_, ?_, ?_, ?_, ?_, ?_, ?_, ?_, ?_, Kd.C_string (c := d1') Try.underlying23 Try.underlying5 Try.underlying9 a7, Kd.C_string (c := d2') Try.underlying23 Try.underlying5 Try.underlying9 a8⟩
      · rw [blk_cell a1]; rfl
      · rw [blk_cell a1]; rfl
      · rw [blk_cell a1]; rfl
      · rw [blk_cell a2]; rfl
      · rw [blk_cell a2]; rfl
      · rw [blk_cell a2]; rfl
      · rw [blk_cell a3]; rfl
      · rw [blk_cell a3]; rfl
      · rw [blk_cell a3]; rfl
    have T1 : ∀ W, Inv W → Calls Try.prog 21 #[.agg #[.int .u8 k1, .int .u32 i1, .slice A1 L1.length c1], .agg #[.int .u8 k1, .int .u32 i1, .slice B4 L1.length d4']] W fun e w' => e = .returned (.bool true) ∧ Below W.heap.size W w' := by
      rw [hInv]; rintro W ⟨a1, a2, a3, a4, a5, a6, a7, a8, a9⟩
      exact klaxonref03_Same.calls k1 i1 A1 c1 L1 k1 i1 B4 d4' L1 true W a4 hc1 a6 Q4.out hs11
    have T2 : ∀ b2 : Bool, decide (k1 = k2 ∧ i1 = i2 ∧ L1 = L2) = b2 → ∀ W, Inv W → Calls Try.prog 21 #[.agg #[.int .u8 k1, .int .u32 i1, .slice A1 L1.length c1], .agg #[.int .u8 k2, .int .u32 i2, .slice A2 L2.length c2]] W fun e w' => e = .returned (.bool b2) ∧ Below W.heap.size W w' := by
      rw [hInv]; rintro b2 hb2 W ⟨a1, a2, a3, a4, a5, a6, a7, a8, a9⟩
      exact klaxonref03_Same.calls k1 i1 A1 c1 L1 k2 i2 A2 c2 L2 b2 W a4 hc1 a5 hc2 (by rw [same_eq _ _ _ _ _ _ HL1.out HL2.out, hb2])
    have IBW : ∀ W, Inv W → Below w.heap.size w W := by rw [hInv]; rintro W ⟨a1, a2, a3, a4, a5, a6, a7, a8, a9⟩; exact a9
    have IC1 : ∀ W, Inv W → Kd.C (Kd.int .u8) W B1 s (putB s k1 i1 L1) := by rw [hInv]; rintro W ⟨a1, a2, a3, a4, a5, a6, a7, a8, a9⟩; exact a7
    have SF : ∀ W, Inv W → _ := fun W h => (IS W h).2
    have N0 : ∀ x : Int, ∀ W, Inv W → Calls Try.prog 20 #[.int .i64 x] W fun e w' => e = .returned (.int .i64 x) ∧ Inv w' := fun x W h => (klaxonlaw03_num.calls x x W rfl).mono fun e w' ⟨he, hd⟩ => ⟨he, IB _ _ h (Drawn0.below hd)⟩
    have S1 : ∀ W, Inv W → Calls Try.prog 21 #[.agg #[.int .u8 k1, .int .u32 i1, .slice A1 L1.length c1], .agg #[.int .u8 k1, .int .u32 i1, .slice B4 L1.length d4']] W fun e w' => e = .returned (.bool true) ∧ Inv w' := fun W h => (T1 W h).mono fun e w' ⟨he, hd⟩ => ⟨he, IB _ _ h hd⟩
    have S2 : ∀ b2 : Bool, decide (k1 = k2 ∧ i1 = i2 ∧ L1 = L2) = b2 → ∀ W, Inv W → Calls Try.prog 21 #[.agg #[.int .u8 k1, .int .u32 i1, .slice A1 L1.length c1], .agg #[.int .u8 k2, .int .u32 i2, .slice A2 L2.length c2]] W fun e w' => e = .returned (.bool b2) ∧ Inv w' := fun b2 hb W h => (T2 b2 hb W h).mono fun e w' ⟨he, hd⟩ => ⟨he, IB _ _ h hd⟩
    have HI5 := IB _ _ HI5 (below_drew1 (Below.refl _ _))
    have IB := Aside0.mk IB; have SF := Aside0.mk SF; have S1 := Aside0.mk S1; have S2 := Aside0.mk S2; have IBW := Aside0.mk IBW; have IC1 := Aside0.mk IC1; have N0 := Aside0.mk N0; have HI5 := Aside0.mk HI5
    clear hInv hx0 hx1 hx2 hz0 hz1 hz2 hs11 q1 q2 q3 q4 he hs hk1 hi1 hk2 hi2 hm1 hm2 d1 d2 h1 h2 hc2 hc1
    clear HX HY HZ R15 R25 C4 C1 C2 HB IS T1 T2
    obtain ⟨x2, hx2e⟩ : ∃ x, (putF s k2 i2 L2).2 = x := ⟨_, rfl⟩
    rw [hx2e]
    have HX2 := Aside0.mk (show x2 = putE s k2 L2 from hx2e.symm)
    have N00 := Aside0.mk (N0.out 0); have NX := Aside0.mk (N0.out x2)
    clear hx2e
    go_upto_region 8 with (fail)
    go_cut [82] from 52 (fun s82 wx => s82 = .bool false ∧ Inv wx)
    case first =>
      by_cases he2 : putE s k2 L2 = 0
      case neg =>
        have hx20 : (x2 == 0) = false := beq_f (by rw [HX2.out]; exact he2)
        clear he2
        refine wp_region_plan (by kernel_rfl) (by kernel_rfl) Inv HI5.out ?_
        refine Plan.take 0 (some 52) (Op.move (Operand.tmp 12)) 27 (none) ?_ rfl (by kernel_rfl) (by kernel_rfl) (Tells.val (by rfl) ?_) ?_
        rotate_left
        · (intro W hW; go_simp; first | done | with_reducible rfl)
        try simp only [Act.put, List.setIfInBounds_toArray, List.set_cons_zero, List.set_cons_succ]
        refine Plan.take 1 (some 53) (Op.call { callee := Callee.value (Operand.func 20), args := #[Operand.tmp 52], argTypes := #[27] }) 3 (none) ?_ rfl (by kernel_rfl) (by kernel_rfl) (Tells.call 20 ?_ (by rfl) ?_ ?_) ?_
        rotate_left 2
        · (intro W; go_simp; first | done | with_reducible rfl)
        · exact N00.out
        try simp only [Act.put, List.setIfInBounds_toArray, List.set_cons_zero, List.set_cons_succ]
        refine Plan.take 2 (some 54) (Op.binOp BinOp.neq 3 (Operand.tmp 53) (Operand.const (Value.int IntKind.i64 0)) 3) 4 (none) ?_ rfl (by kernel_rfl) (by kernel_rfl) (Tells.val (by rfl) ?_) ?_
        rotate_left
        · (intro W hW; go_simp; first | done | with_reducible rfl)
        try simp only [Act.put, List.setIfInBounds_toArray, List.set_cons_zero, List.set_cons_succ]
        refine Plan.take 3 (some 55) (Op.move (Operand.tmp 54)) 4 (none) ?_ rfl (by kernel_rfl) (by kernel_rfl) (Tells.val (by rfl) ?_) ?_
        rotate_left
        · (intro W hW; go_simp; first | done | with_reducible rfl)
        try simp only [Act.put, List.setIfInBounds_toArray, List.set_cons_zero, List.set_cons_succ]
        refine Plan.take 4 (some 56) (Op.load 25 (Operand.tmp 4)) 25 (some (3, false)) ?_ rfl (by kernel_rfl) (by kernel_rfl) (Tells.val (by rfl) ?_) ?_
        rotate_left
        · (intro W hW; have hF := SF.out W hW; go_simp; first | done | with_reducible rfl)
        try simp only [Act.put, List.setIfInBounds_toArray, List.set_cons_zero, List.set_cons_succ]
        refine Plan.take 5 (some 57) (Op.load 25 (Operand.tmp 11)) 25 (some (3, false)) ?_ rfl (by kernel_rfl) (by kernel_rfl) (Tells.val (by rfl) ?_) ?_
        rotate_left
        · (intro W hW; have hF := SF.out W hW; go_simp; first | done | with_reducible rfl)
        try simp only [Act.put, List.setIfInBounds_toArray, List.set_cons_zero, List.set_cons_succ]
        refine Plan.take 6 (some 58) (Op.call { callee := Callee.value (Operand.func 21), args := #[Operand.tmp 56, Operand.tmp 57], argTypes := #[25, 25] }) 4 (some (3, false)) ?_ rfl (by kernel_rfl) (by kernel_rfl) (Tells.call 21 ?_ (by rfl) ?_ ?_) ?_
        rotate_left 2
        · (intro W; go_simp; first | done | with_reducible rfl)
        · exact S1.out
        try simp only [Act.put, List.setIfInBounds_toArray, List.set_cons_zero, List.set_cons_succ]
        refine Plan.take 7 (some 59) (Op.unOp UnOp.not 4 (Operand.tmp 58)) 4 (some (3, false)) ?_ rfl (by kernel_rfl) (by kernel_rfl) (Tells.val (by rfl) ?_) ?_
        rotate_left
        · (intro W hW; go_simp; first | done | with_reducible rfl)
        try simp only [Act.put, List.setIfInBounds_toArray, List.set_cons_zero, List.set_cons_succ]
        refine Plan.take 8 (some 60) (Op.pick (Operand.tmp 55) (Operand.const (Value.bool true)) (Operand.tmp 59)) 4 (none) ?_ rfl (by kernel_rfl) (by kernel_rfl) (Tells.val (by rfl) ?_) ?_
        rotate_left
        · (intro W hW; go_simp; first | done | with_reducible rfl)
        try simp only [Act.put, List.setIfInBounds_toArray, List.set_cons_zero, List.set_cons_succ]
        refine Plan.take 9 (some 61) (Op.move (Operand.tmp 60)) 4 (none) ?_ rfl (by kernel_rfl) (by kernel_rfl) (Tells.val (by rfl) ?_) ?_
        rotate_left
        · (intro W hW; go_simp; first | done | with_reducible rfl)
        try simp only [Act.put, List.setIfInBounds_toArray, List.set_cons_zero, List.set_cons_succ]
        refine Plan.take 10 (some 62) (Op.move (Operand.tmp 7)) 23 (some (9, false)) ?_ rfl (by kernel_rfl) (by kernel_rfl) (Tells.val (by rfl) ?_) ?_
        rotate_left
        · (intro W hW; go_simp; first | done | with_reducible rfl)
        try simp only [Act.put, List.setIfInBounds_toArray, List.set_cons_zero, List.set_cons_succ]
        refine Plan.take 11 (some 63) (Op.call { callee := Callee.builtin Builtin.len, args := #[Operand.tmp 62], argTypes := #[23] }) 3 (some (9, false)) ?_ rfl (by kernel_rfl) (by kernel_rfl) (Tells.val (by rfl) ?_) ?_
        rotate_left
        · (intro W hW; go_simp; first | done | with_reducible rfl)
        try simp only [Act.put, List.setIfInBounds_toArray, List.set_cons_zero, List.set_cons_succ]
        refine Plan.take 12 (some 64) (Op.move (Operand.tmp 0)) 3 (some (9, false)) ?_ rfl (by kernel_rfl) (by kernel_rfl) (Tells.val (by rfl) ?_) ?_
        rotate_left
        · (intro W hW; go_simp; first | done | with_reducible rfl)
        try simp only [Act.put, List.setIfInBounds_toArray, List.set_cons_zero, List.set_cons_succ]
        refine Plan.take 13 (some 65) (Op.binOp BinOp.neq 3 (Operand.tmp 63) (Operand.tmp 64) 3) 4 (some (9, false)) ?_ rfl (by kernel_rfl) (by kernel_rfl) (Tells.val (by rfl) ?_) ?_
        rotate_left
        · (intro W hW; go_simp; first | done | with_reducible rfl)
        try simp only [Act.put, List.setIfInBounds_toArray, List.set_cons_zero, List.set_cons_succ]
        refine Plan.take 14 (some 66) (Op.pick (Operand.tmp 61) (Operand.const (Value.bool true)) (Operand.tmp 65)) 4 (none) ?_ rfl (by kernel_rfl) (by kernel_rfl) (Tells.val (by rfl) ?_) ?_
        rotate_left
        · (intro W hW; go_simp; first | done | with_reducible rfl)
        try simp only [Act.put, List.setIfInBounds_toArray, List.set_cons_zero, List.set_cons_succ]
        refine Plan.take 15 (some 67) (Op.move (Operand.tmp 66)) 4 (none) ?_ rfl (by kernel_rfl) (by kernel_rfl) (Tells.val (by rfl) ?_) ?_
        rotate_left
        · (intro W hW; go_simp; first | done | with_reducible rfl)
        try simp only [Act.put, List.setIfInBounds_toArray, List.set_cons_zero, List.set_cons_succ]
        refine Plan.take 16 (some 68) (Op.move (Operand.tmp 10)) 27 (some (15, false)) ?_ rfl (by kernel_rfl) (by kernel_rfl) (Tells.val (by rfl) ?_) ?_
        rotate_left
        · (intro W hW; go_simp; first | done | with_reducible rfl)
        try simp only [Act.put, List.setIfInBounds_toArray, List.set_cons_zero, List.set_cons_succ]
        refine Plan.take 17 (some 69) (Op.call { callee := Callee.value (Operand.func 20), args := #[Operand.tmp 68], argTypes := #[27] }) 3 (some (15, false)) ?_ rfl (by kernel_rfl) (by kernel_rfl) (Tells.call 20 ?_ (by rfl) ?_ ?_) ?_
        rotate_left 2
        · (intro W; go_simp; first | done | with_reducible rfl)
        · exact NX.out
        try simp only [Act.put, List.setIfInBounds_toArray, List.set_cons_zero, List.set_cons_succ]
        refine Plan.take 18 (some 70) (Op.binOp BinOp.eql 3 (Operand.tmp 69) (Operand.const (Value.int IntKind.i64 0)) 3) 4 (some (15, false)) ?_ rfl (by kernel_rfl) (by kernel_rfl) (Tells.val (by rfl) ?_) ?_
        rotate_left
        · (intro W hW; go_simp; first | done | with_reducible rfl)
        try simp only [Act.put, List.setIfInBounds_toArray, List.set_cons_zero, List.set_cons_succ]
        refine Plan.take 19 (some 71) (Op.move (Operand.tmp 70)) 4 (some (15, false)) ?_ rfl (by kernel_rfl) (by kernel_rfl) (Tells.val (by rfl) ?_) ?_
        rotate_left
        · (intro W hW; go_simp; first | done | with_reducible rfl)
        try simp only [Act.put, List.setIfInBounds_toArray, List.set_cons_zero, List.set_cons_succ]
        refine Plan.take 20 (some 72) (Op.move (Operand.tmp 7)) 23 (some (19, true)) undef rfl (by kernel_rfl) (by kernel_rfl) (Tells.not (by rfl)) ?_
        try simp only [Act.put, List.setIfInBounds_toArray, List.set_cons_zero, List.set_cons_succ]
        refine Plan.take 21 (some 73) (Op.convert 23 9 (Operand.tmp 72)) 9 (some (19, true)) undef rfl (by kernel_rfl) (by kernel_rfl) (Tells.not (by rfl)) ?_
        try simp only [Act.put, List.setIfInBounds_toArray, List.set_cons_zero, List.set_cons_succ]
        refine Plan.take 22 (some 74) (Op.move (Operand.tmp 9)) 23 (some (19, true)) undef rfl (by kernel_rfl) (by kernel_rfl) (Tells.not (by rfl)) ?_
        try simp only [Act.put, List.setIfInBounds_toArray, List.set_cons_zero, List.set_cons_succ]
        refine Plan.take 23 (some 75) (Op.convert 23 9 (Operand.tmp 74)) 9 (some (19, true)) undef rfl (by kernel_rfl) (by kernel_rfl) (Tells.not (by rfl)) ?_
        try simp only [Act.put, List.setIfInBounds_toArray, List.set_cons_zero, List.set_cons_succ]
        refine Plan.take 24 (some 76) (Op.binOp BinOp.eql 9 (Operand.tmp 73) (Operand.tmp 75) 9) 4 (some (19, true)) undef rfl (by kernel_rfl) (by kernel_rfl) (Tells.not (by rfl)) ?_
        try simp only [Act.put, List.setIfInBounds_toArray, List.set_cons_zero, List.set_cons_succ]
        refine Plan.take 25 (some 77) (Op.load 25 (Operand.tmp 4)) 25 (some (19, true)) undef rfl (by kernel_rfl) (by kernel_rfl) (Tells.not (by rfl)) ?_
        try simp only [Act.put, List.setIfInBounds_toArray, List.set_cons_zero, List.set_cons_succ]
        refine Plan.take 26 (some 78) (Op.load 25 (Operand.tmp 5)) 25 (some (19, true)) undef rfl (by kernel_rfl) (by kernel_rfl) (Tells.not (by rfl)) ?_
        try simp only [Act.put, List.setIfInBounds_toArray, List.set_cons_zero, List.set_cons_succ]
        refine Plan.take 27 (some 79) (Op.call { callee := Callee.value (Operand.func 21), args := #[Operand.tmp 77, Operand.tmp 78], argTypes := #[25, 25] }) 4 (some (19, true)) undef rfl (by kernel_rfl) (by kernel_rfl) (Tells.not (by rfl)) ?_
        try simp only [Act.put, List.setIfInBounds_toArray, List.set_cons_zero, List.set_cons_succ]
        refine Plan.take 28 (some 80) (Op.binOp BinOp.neq 4 (Operand.tmp 76) (Operand.tmp 79) 4) 4 (some (19, true)) undef rfl (by kernel_rfl) (by kernel_rfl) (Tells.not (by rfl)) ?_
        try simp only [Act.put, List.setIfInBounds_toArray, List.set_cons_zero, List.set_cons_succ]
        refine Plan.take 29 (some 81) (Op.pick (Operand.tmp 71) (Operand.tmp 80) (Operand.const (Value.bool false))) 4 (some (15, false)) ?_ rfl (by kernel_rfl) (by kernel_rfl) (Tells.val (by rfl) ?_) ?_
        rotate_left
        · (intro W hW; go_simp; first | done | with_reducible rfl)
        try simp only [Act.put, List.setIfInBounds_toArray, List.set_cons_zero, List.set_cons_succ]
        refine Plan.take 30 (some 82) (Op.pick (Operand.tmp 67) (Operand.const (Value.bool true)) (Operand.tmp 81)) 4 (none) ?_ rfl (by kernel_rfl) (by kernel_rfl) (Tells.val (by rfl) ?_) ?_
        rotate_left
        · (intro W hW; go_simp; first | done | with_reducible rfl)
        try simp only [Act.put, List.setIfInBounds_toArray, List.set_cons_zero, List.set_cons_succ]
        refine Plan.done _ (by kernel_rfl) ?_
        intro W hW
        go_wp2_with fail
        go_meet
        exact ⟨rfl, hW⟩
      case pos =>
        have hx20 : (x2 == 0) = true := by rw [HX2.out, he2]; rfl
        obtain ⟨b2, hb2⟩ : ∃ b, decide (k1 = k2 ∧ i1 = i2 ∧ L1 = L2) = b := ⟨_, rfl⟩
        have S22 := Aside0.mk (S2.out b2 hb2)
        have hcmp : ((strOfNums (putB s k1 i1 L1)).toList == (strOfNums (putF s k2 i2 L2).1).toList) = b2 := by
          obtain ⟨q1, q2, q3, he, hs⟩ := HQ.out
          obtain ⟨r1, r2, r4, r3⟩ := putE_zero he2
          have ep : (putF s k2 i2 L2).1 = putB s k2 i2 L2 := by unfold putF; rw [he2, if_pos rfl]; rfl
          rw [ep, strOf_inj _ _ HBB.out (putB_bytes s k2 i2 L2 (by omega) HK2.out HL2.out), ← hb2, decide_eq_decide]
          constructor
          · intro e
            have g1 := get_put s k1 i1 L1 HI12.out.1 he
            rw [e, get_put s k2 i2 L2 HI12.out.2 he2] at g1
            simp only [Prod.mk.injEq] at g1
            exact ⟨g1.1.symm, g1.2.1.symm, g1.2.2.1.symm⟩
          · rintro ⟨rfl, rfl, rfl⟩; rfl
        clear he2 hb2
        refine wp_region_plan (by kernel_rfl) (by kernel_rfl) Inv HI5.out ?_
        refine Plan.take 0 (some 52) (Op.move (Operand.tmp 12)) 27 (none) ?_ rfl (by kernel_rfl) (by kernel_rfl) (Tells.val (by rfl) ?_) ?_
        rotate_left
        · (intro W hW; go_simp; first | done | with_reducible rfl)
        try simp only [Act.put, List.setIfInBounds_toArray, List.set_cons_zero, List.set_cons_succ]
        refine Plan.take 1 (some 53) (Op.call { callee := Callee.value (Operand.func 20), args := #[Operand.tmp 52], argTypes := #[27] }) 3 (none) ?_ rfl (by kernel_rfl) (by kernel_rfl) (Tells.call 20 ?_ (by rfl) ?_ ?_) ?_
        rotate_left 2
        · (intro W; go_simp; first | done | with_reducible rfl)
        · exact N00.out
        try simp only [Act.put, List.setIfInBounds_toArray, List.set_cons_zero, List.set_cons_succ]
        refine Plan.take 2 (some 54) (Op.binOp BinOp.neq 3 (Operand.tmp 53) (Operand.const (Value.int IntKind.i64 0)) 3) 4 (none) ?_ rfl (by kernel_rfl) (by kernel_rfl) (Tells.val (by rfl) ?_) ?_
        rotate_left
        · (intro W hW; go_simp; first | done | with_reducible rfl)
        try simp only [Act.put, List.setIfInBounds_toArray, List.set_cons_zero, List.set_cons_succ]
        refine Plan.take 3 (some 55) (Op.move (Operand.tmp 54)) 4 (none) ?_ rfl (by kernel_rfl) (by kernel_rfl) (Tells.val (by rfl) ?_) ?_
        rotate_left
        · (intro W hW; go_simp; first | done | with_reducible rfl)
        try simp only [Act.put, List.setIfInBounds_toArray, List.set_cons_zero, List.set_cons_succ]
        refine Plan.take 4 (some 56) (Op.load 25 (Operand.tmp 4)) 25 (some (3, false)) ?_ rfl (by kernel_rfl) (by kernel_rfl) (Tells.val (by rfl) ?_) ?_
        rotate_left
        · (intro W hW; have hF := SF.out W hW; go_simp; first | done | with_reducible rfl)
        try simp only [Act.put, List.setIfInBounds_toArray, List.set_cons_zero, List.set_cons_succ]
        refine Plan.take 5 (some 57) (Op.load 25 (Operand.tmp 11)) 25 (some (3, false)) ?_ rfl (by kernel_rfl) (by kernel_rfl) (Tells.val (by rfl) ?_) ?_
        rotate_left
        · (intro W hW; have hF := SF.out W hW; go_simp; first | done | with_reducible rfl)
        try simp only [Act.put, List.setIfInBounds_toArray, List.set_cons_zero, List.set_cons_succ]
        refine Plan.take 6 (some 58) (Op.call { callee := Callee.value (Operand.func 21), args := #[Operand.tmp 56, Operand.tmp 57], argTypes := #[25, 25] }) 4 (some (3, false)) ?_ rfl (by kernel_rfl) (by kernel_rfl) (Tells.call 21 ?_ (by rfl) ?_ ?_) ?_
        rotate_left 2
        · (intro W; go_simp; first | done | with_reducible rfl)
        · exact S1.out
        try simp only [Act.put, List.setIfInBounds_toArray, List.set_cons_zero, List.set_cons_succ]
        refine Plan.take 7 (some 59) (Op.unOp UnOp.not 4 (Operand.tmp 58)) 4 (some (3, false)) ?_ rfl (by kernel_rfl) (by kernel_rfl) (Tells.val (by rfl) ?_) ?_
        rotate_left
        · (intro W hW; go_simp; first | done | with_reducible rfl)
        try simp only [Act.put, List.setIfInBounds_toArray, List.set_cons_zero, List.set_cons_succ]
        refine Plan.take 8 (some 60) (Op.pick (Operand.tmp 55) (Operand.const (Value.bool true)) (Operand.tmp 59)) 4 (none) ?_ rfl (by kernel_rfl) (by kernel_rfl) (Tells.val (by rfl) ?_) ?_
        rotate_left
        · (intro W hW; go_simp; first | done | with_reducible rfl)
        try simp only [Act.put, List.setIfInBounds_toArray, List.set_cons_zero, List.set_cons_succ]
        refine Plan.take 9 (some 61) (Op.move (Operand.tmp 60)) 4 (none) ?_ rfl (by kernel_rfl) (by kernel_rfl) (Tells.val (by rfl) ?_) ?_
        rotate_left
        · (intro W hW; go_simp; first | done | with_reducible rfl)
        try simp only [Act.put, List.setIfInBounds_toArray, List.set_cons_zero, List.set_cons_succ]
        refine Plan.take 10 (some 62) (Op.move (Operand.tmp 7)) 23 (some (9, false)) ?_ rfl (by kernel_rfl) (by kernel_rfl) (Tells.val (by rfl) ?_) ?_
        rotate_left
        · (intro W hW; go_simp; first | done | with_reducible rfl)
        try simp only [Act.put, List.setIfInBounds_toArray, List.set_cons_zero, List.set_cons_succ]
        refine Plan.take 11 (some 63) (Op.call { callee := Callee.builtin Builtin.len, args := #[Operand.tmp 62], argTypes := #[23] }) 3 (some (9, false)) ?_ rfl (by kernel_rfl) (by kernel_rfl) (Tells.val (by rfl) ?_) ?_
        rotate_left
        · (intro W hW; go_simp; first | done | with_reducible rfl)
        try simp only [Act.put, List.setIfInBounds_toArray, List.set_cons_zero, List.set_cons_succ]
        refine Plan.take 12 (some 64) (Op.move (Operand.tmp 0)) 3 (some (9, false)) ?_ rfl (by kernel_rfl) (by kernel_rfl) (Tells.val (by rfl) ?_) ?_
        rotate_left
        · (intro W hW; go_simp; first | done | with_reducible rfl)
        try simp only [Act.put, List.setIfInBounds_toArray, List.set_cons_zero, List.set_cons_succ]
        refine Plan.take 13 (some 65) (Op.binOp BinOp.neq 3 (Operand.tmp 63) (Operand.tmp 64) 3) 4 (some (9, false)) ?_ rfl (by kernel_rfl) (by kernel_rfl) (Tells.val (by rfl) ?_) ?_
        rotate_left
        · (intro W hW; go_simp; first | done | with_reducible rfl)
        try simp only [Act.put, List.setIfInBounds_toArray, List.set_cons_zero, List.set_cons_succ]
        refine Plan.take 14 (some 66) (Op.pick (Operand.tmp 61) (Operand.const (Value.bool true)) (Operand.tmp 65)) 4 (none) ?_ rfl (by kernel_rfl) (by kernel_rfl) (Tells.val (by rfl) ?_) ?_
        rotate_left
        · (intro W hW; go_simp; first | done | with_reducible rfl)
        try simp only [Act.put, List.setIfInBounds_toArray, List.set_cons_zero, List.set_cons_succ]
        refine Plan.take 15 (some 67) (Op.move (Operand.tmp 66)) 4 (none) ?_ rfl (by kernel_rfl) (by kernel_rfl) (Tells.val (by rfl) ?_) ?_
        rotate_left
        · (intro W hW; go_simp; first | done | with_reducible rfl)
        try simp only [Act.put, List.setIfInBounds_toArray, List.set_cons_zero, List.set_cons_succ]
        refine Plan.take 16 (some 68) (Op.move (Operand.tmp 10)) 27 (some (15, false)) ?_ rfl (by kernel_rfl) (by kernel_rfl) (Tells.val (by rfl) ?_) ?_
        rotate_left
        · (intro W hW; go_simp; first | done | with_reducible rfl)
        try simp only [Act.put, List.setIfInBounds_toArray, List.set_cons_zero, List.set_cons_succ]
        refine Plan.take 17 (some 69) (Op.call { callee := Callee.value (Operand.func 20), args := #[Operand.tmp 68], argTypes := #[27] }) 3 (some (15, false)) ?_ rfl (by kernel_rfl) (by kernel_rfl) (Tells.call 20 ?_ (by rfl) ?_ ?_) ?_
        rotate_left 2
        · (intro W; go_simp; first | done | with_reducible rfl)
        · exact NX.out
        try simp only [Act.put, List.setIfInBounds_toArray, List.set_cons_zero, List.set_cons_succ]
        refine Plan.take 18 (some 70) (Op.binOp BinOp.eql 3 (Operand.tmp 69) (Operand.const (Value.int IntKind.i64 0)) 3) 4 (some (15, false)) ?_ rfl (by kernel_rfl) (by kernel_rfl) (Tells.val (by rfl) ?_) ?_
        rotate_left
        · (intro W hW; go_simp; first | done | with_reducible rfl)
        try simp only [Act.put, List.setIfInBounds_toArray, List.set_cons_zero, List.set_cons_succ]
        refine Plan.take 19 (some 71) (Op.move (Operand.tmp 70)) 4 (some (15, false)) ?_ rfl (by kernel_rfl) (by kernel_rfl) (Tells.val (by rfl) ?_) ?_
        rotate_left
        · (intro W hW; go_simp; first | done | with_reducible rfl)
        try simp only [Act.put, List.setIfInBounds_toArray, List.set_cons_zero, List.set_cons_succ]
        refine Plan.take 20 (some 72) (Op.move (Operand.tmp 7)) 23 (some (19, true)) ?_ rfl (by kernel_rfl) (by kernel_rfl) (Tells.val (by rfl) ?_) ?_
        rotate_left
        · (intro W hW; go_simp; first | done | with_reducible rfl)
        try simp only [Act.put, List.setIfInBounds_toArray, List.set_cons_zero, List.set_cons_succ]
        refine Plan.take 21 (some 73) (Op.convert 23 9 (Operand.tmp 72)) 9 (some (19, true)) ?_ rfl (by kernel_rfl) (by kernel_rfl) (Tells.val (by rfl) ?_) ?_
        rotate_left
        · (intro W hW; have hF := SF.out W hW; go_simp; first | done | with_reducible rfl)
        try simp only [Act.put, List.setIfInBounds_toArray, List.set_cons_zero, List.set_cons_succ]
        refine Plan.take 22 (some 74) (Op.move (Operand.tmp 9)) 23 (some (19, true)) ?_ rfl (by kernel_rfl) (by kernel_rfl) (Tells.val (by rfl) ?_) ?_
        rotate_left
        · (intro W hW; go_simp; first | done | with_reducible rfl)
        try simp only [Act.put, List.setIfInBounds_toArray, List.set_cons_zero, List.set_cons_succ]
        refine Plan.take 23 (some 75) (Op.convert 23 9 (Operand.tmp 74)) 9 (some (19, true)) ?_ rfl (by kernel_rfl) (by kernel_rfl) (Tells.val (by rfl) ?_) ?_
        rotate_left
        · (intro W hW; have hF := SF.out W hW; go_simp; first | done | with_reducible rfl)
        try simp only [Act.put, List.setIfInBounds_toArray, List.set_cons_zero, List.set_cons_succ]
        refine Plan.take 24 (some 76) (Op.binOp BinOp.eql 9 (Operand.tmp 73) (Operand.tmp 75) 9) 4 (some (19, true)) ?_ rfl (by kernel_rfl) (by kernel_rfl) (Tells.val (by rfl) ?_) ?_
        rotate_left
        · (intro W hW; go_simp; first | done | with_reducible rfl)
        try simp only [Act.put, List.setIfInBounds_toArray, List.set_cons_zero, List.set_cons_succ]
        refine Plan.take 25 (some 77) (Op.load 25 (Operand.tmp 4)) 25 (some (19, true)) ?_ rfl (by kernel_rfl) (by kernel_rfl) (Tells.val (by rfl) ?_) ?_
        rotate_left
        · (intro W hW; have hF := SF.out W hW; go_simp; first | done | with_reducible rfl)
        try simp only [Act.put, List.setIfInBounds_toArray, List.set_cons_zero, List.set_cons_succ]
        refine Plan.take 26 (some 78) (Op.load 25 (Operand.tmp 5)) 25 (some (19, true)) ?_ rfl (by kernel_rfl) (by kernel_rfl) (Tells.val (by rfl) ?_) ?_
        rotate_left
        · (intro W hW; have hF := SF.out W hW; go_simp; first | done | with_reducible rfl)
        try simp only [Act.put, List.setIfInBounds_toArray, List.set_cons_zero, List.set_cons_succ]
        refine Plan.take 27 (some 79) (Op.call { callee := Callee.value (Operand.func 21), args := #[Operand.tmp 77, Operand.tmp 78], argTypes := #[25, 25] }) 4 (some (19, true)) ?_ rfl (by kernel_rfl) (by kernel_rfl) (Tells.call 21 ?_ (by rfl) ?_ ?_) ?_
        rotate_left 2
        · (intro W; go_simp; first | done | with_reducible rfl)
        · exact S22.out
        try simp only [Act.put, List.setIfInBounds_toArray, List.set_cons_zero, List.set_cons_succ]
        refine Plan.take 28 (some 80) (Op.binOp BinOp.neq 4 (Operand.tmp 76) (Operand.tmp 79) 4) 4 (some (19, true)) ?_ rfl (by kernel_rfl) (by kernel_rfl) (Tells.val (by rfl) ?_) ?_
        rotate_left
        · (intro W hW; go_simp; first | done | with_reducible rfl)
        try simp only [Act.put, List.setIfInBounds_toArray, List.set_cons_zero, List.set_cons_succ]
        refine Plan.take 29 (some 81) (Op.pick (Operand.tmp 71) (Operand.tmp 80) (Operand.const (Value.bool false))) 4 (some (15, false)) ?_ rfl (by kernel_rfl) (by kernel_rfl) (Tells.val (by rfl) ?_) ?_
        rotate_left
        · (intro W hW; go_simp; first | done | with_reducible rfl)
        try simp only [Act.put, List.setIfInBounds_toArray, List.set_cons_zero, List.set_cons_succ]
        refine Plan.take 30 (some 82) (Op.pick (Operand.tmp 67) (Operand.const (Value.bool true)) (Operand.tmp 81)) 4 (none) ?_ rfl (by kernel_rfl) (by kernel_rfl) (Tells.val (by rfl) ?_) ?_
        rotate_left
        · (intro W hW; go_simp; first | done | with_reducible rfl)
        try simp only [Act.put, List.setIfInBounds_toArray, List.set_cons_zero, List.set_cons_succ]
        refine Plan.done _ (by kernel_rfl) ?_
        intro W hW
        go_wp2_with fail
        go_meet
        exact ⟨rfl, hW⟩
    case rest =>
      obtain ⟨rfl, hW⟩ := hcut
      obtain ⟨q1, q2, q3, he, hs⟩ := HQ.out
      have hcap : (s : Int) - 1 ≤ (d1' : Int) := by have := Q1.out; omega
      have q0 : (0 : Int) ≤ (s : Int) - 1 := by omega
      go_wp2_with fail
      have hlp : ((putB s k1 i1 L1).take (s - 1)).length = s - 1 := by rw [List.length_take, putB_length s k1 i1 L1 (by omega)]; omega
      have hbp : Bytes ((putB s k1 i1 L1).take (s - 1)) := fun x hx => HBB.out x (List.mem_of_mem_take hx)
      obtain ⟨kg2, hg2⟩ := Ev.at_ (get_ev ((putB s k1 i1 L1).take (s - 1)) hbp (by omega))
      have hless := get_less ((putB s k1 i1 L1).take (s - 1)) s hlp (by omega)
      obtain ⟨y1, y2, y3, y4, hy⟩ : ∃ y1 y2 y3 y4, getP ((putB s k1 i1 L1).take (s - 1)) = (y1, y2, y3, y4) := ⟨_, _, _, _, rfl⟩
      rw [hy] at hg2 hless
      have hCs : Kd.C (Kd.int .u8) wc B1 (s - 1) ((putB s k1 i1 L1).take (s - 1)) := by
        have hpl := putB_length s k1 i1 L1 (by omega)
        have h0 : Kd.C (Kd.int .u8) wc B1 (putB s k1 i1 L1).length (putB s k1 i1 L1) := by rw [hpl]; exact IC1.out _ hW
        have := Kd.C_take (m := s - 1) h0 (by omega)
        rw [hlp] at this
        exact this
      have G := page_Get.calls kg2 B1 d1' ((putB s k1 i1 L1).take (s - 1)) y1 y2 y3 y4 wc (by rw [hlp]; exact hCs) (by rw [hlp]; have := Q1.out; omega) hg2
      rw [hlp] at G
      refine G.mono ?_
      rintro e w6 ⟨v6, rfl, hr6, hb6⟩
      obtain ⟨B6, d6, rfl⟩ := Kd.R_slice hr6
      have HW6 := Aside0.mk (IB.out _ _ hW hb6)
      have HL := Aside0.mk hless
      have HS1 := Aside0.mk (show (1 : Int) ≤ s ∧ (s : Int) ≤ 8192 by omega)
      clear G hg2 hy hCs hlp hbp hr6 hb6 hless hW q0 hcap q1 q2 q3 he hs
      go_wp2_with fail
      have LV : ∀ W, Inv W → Calls Try.prog 15 #[] W fun e w' => e = .returned (.bool true) ∧ Inv w' := fun W h => (klaxonlaw03_live.calls true W rfl).mono fun e w' ⟨he, hd⟩ => ⟨he, IB.out _ _ h hd⟩
      have LV := Aside0.mk LV
      have HI7 := Aside0.mk (IB.out _ _ HW6.out (below_drew1 (below_alloc (Below.refl _ _) (.cells #[Value.int IntKind.u8 y1, Value.int IntKind.u32 y2, Value.slice B6 y3.length d6] 25))))
      rcases HL.out with hy30 | ⟨hy0, hs64⟩
      · obtain rfl : y4 = 30 := hy30
        refine (N0.out 30 _ (IB.out _ _ HW6.out (below_alloc (Below.refl _ _) _))).mono ?_
        rintro e w8 ⟨rfl, hW8⟩
        have HW8 := Aside0.mk hW8
        clear hW8
        go_wp2_with fail
        refine (LV.out _ HW8.out).mono ?_
        rintro e w9 ⟨rfl, hW9⟩
        have HW9 := Aside0.mk hW9
        clear hW9
        go_wp2_with fail
        go_ret
        exact ⟨rfl, IBW.out _ HW9.out⟩
      · obtain rfl : y4 = 0 := hy0
        have g0 : (64 : Int) ≤ (s : Int) - 1 := hs64
        have g1 : decide ((64 : Int) ≤ (s : Int) - 1) = true := decide_eq_true g0
        have g2 : (1 : Int) ≤ s := HS1.out.1
        have g3 : (s : Int) ≤ 8192 := HS1.out.2
        have g4 : (65 : Int) ≤ s := by omega
        clear hs64
        refine (N0.out 0 _ (IB.out _ _ HW6.out (below_alloc (Below.refl _ _) _))).mono ?_
        rintro e w8 ⟨rfl, hW8⟩
        have HW8 := Aside0.mk hW8
        clear hW8
        go_wp2_with fail
        refine (LV.out _ HW8.out).mono ?_
        rintro e w9 ⟨rfl, hW9⟩
        have HW9 := Aside0.mk hW9
        clear hW9
        go_wp2_with fail
        go_ret
        exact ⟨rfl, IBW.out _ HW9.out⟩
end Back
def klaxonlaw03_PageBack.f (a0 : Int) (a1_0 : Int) (a1_1 : Int) (l1_2 : List Int) (a2_0 : Int) (a2_1 : Int) (l2_2 : List Int) : Option Bool := if (0 ≤ a1_0 ∧ a1_0 < 256) ∧ (0 ≤ a1_1 ∧ a1_1 < 4294967296) ∧ (0 ≤ a2_0 ∧ a2_0 < 256) ∧ (0 ≤ a2_1 ∧ a2_1 < 4294967296) ∧ Go.Crc.bytesB l1_2 = true ∧ Go.Crc.bytesB l2_2 = true ∧ (-9223372036854775808 ≤ a0 ∧ a0 ≤ 9223372036854775807) then some true else none
theorem klaxonlaw03_PageBack.calls (a0 : Int) (a1_0 : Int) (a1_1 : Int) (A1_2 : Option Addr) (c1_2 : Nat) (l1_2 : List Int) (a2_0 : Int) (a2_1 : Int) (A2_2 : Option Addr) (c2_2 : Nat) (l2_2 : List Int) (r : Bool) (w : World) (hr1_2 : Kd.C (Kd.int .u8) w A1_2 l1_2.length l1_2) (hc1_2 : l1_2.length ≤ c1_2) (hr2_2 : Kd.C (Kd.int .u8) w A2_2 l2_2.length l2_2) (hc2_2 : l2_2.length ≤ c2_2) (h : klaxonlaw03_PageBack.f a0 a1_0 a1_1 l1_2 a2_0 a2_1 l2_2 = some r) :
    Calls Try.prog 4 #[.int .i64 a0, .agg #[.int .u8 a1_0, .int .u32 a1_1, .slice A1_2 l1_2.length c1_2], .agg #[.int .u8 a2_0, .int .u32 a2_1, .slice A2_2 l2_2.length c2_2]] w fun e w' => e = .returned (.bool r) ∧ Below w.heap.size w w' := by
  unfold klaxonlaw03_PageBack.f at h
  by_cases hc : (0 ≤ a1_0 ∧ a1_0 < 256) ∧ (0 ≤ a1_1 ∧ a1_1 < 4294967296) ∧ (0 ≤ a2_0 ∧ a2_0 < 256) ∧ (0 ≤ a2_1 ∧ a2_1 < 4294967296) ∧ Go.Crc.bytesB l1_2 = true ∧ Go.Crc.bytesB l2_2 = true ∧ (-9223372036854775808 ≤ a0 ∧ a0 ≤ 9223372036854775807)
  · rw [if_pos hc] at h
    obtain rfl : true = r := Option.some.inj h
    obtain ⟨k1, i1, k2, i2, b1, b2, hs⟩ := hc
    exact Back.back_law a0 a1_0 a1_1 a2_0 a2_1 A1_2 A2_2 c1_2 c2_2 l1_2 l2_2 w hr1_2 hc1_2 hr2_2 hc2_2 k1 i1 k2 i2 (Go.Crc.bytesB_ok b1) (Go.Crc.bytesB_ok b2) hs
  · rw [if_neg hc] at h; cases h

end Go.Proofs.Ytndeagphchnokaa.PBack
