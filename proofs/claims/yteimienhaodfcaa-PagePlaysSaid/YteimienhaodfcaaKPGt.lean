import Derived.Test.YteimienhaodfcaaPQm
import Derived.Test.YteimienhaodfcaaKPage
import Derived.Test.YteimienhaodfcaaKPlan
import Derived.Test.YteimienhaodfcaaKEv
/- Pages there and back at r6: Put, Get, Same of both sides, live (turned from PageBytes). -/
namespace Go.Proofs.YteimienhaodfcaaK.PgB
open Go.RowKit Go.Proofs.YteimienhaodfcaaW.PrintWords Go.Proofs.YteimienhaodfcaaW.PrintLast Go.Proofs.YteimienhaodfcaaW.PrintMore
open Go.Proofs.Yteimienhaodfcaa.PPQ Go.Proofs.Yteimienhaodfcaa Go.Proofs.YteimienhaodfcaaK Go.Crc
attribute [local go_sem] max2_int min2_int max_two min_two max_three min_three max_four min_four
set_option linter.unusedVariables false
set_option linter.unusedSimpArgs false
namespace Back
theorem live_ev : Ev (fun _ => (klaxonlaw03_live.f).bind fun t => some t) true := Ev.now _
theorem room_ev (s : Int) (h0 : -9223372036854775808 ≤ s) (h1 : s ≤ 9223372036854775807) : Ev (fun k => page_Room.f k s) (room s) := by
  unfold page_Room.f room
  have j0t : Ev (fun k => page_Room.j0 k s true) (0 : Int) := Ev.step (fun k => by rw [page_Room.j0]) (Ev.pos_ rfl (Ev.now _))
  by_cases h : s < 64
  · rw [if_pos (Or.inl h)]
    exact Ev.pos_ h j0t
  · refine Ev.neg_ h ?_
    by_cases h2 : 8192 < s
    · rw [if_pos (Or.inr h2), decide_eq_true h2]; exact j0t
    · rw [if_neg (by omega), decide_eq_false h2]
      have e : wrap64 (s - 11) = s - 11 := wrap64_id (by omega) (by omega)
      have := Ev.now (some (s - 11)) 
      exact Ev.step (fun k => by rw [page_Room.j0, e]) (Ev.neg_ (by decide) (Ev.now _))
theorem wf_i64 {y : Int} (h : (Lit.int .i64 y).wf = true) : -9223372036854775808 ≤ y ∧ y ≤ 9223372036854775807 := by
  simp [Lit.wf, IntKind.min, IntKind.max, IntKind.bits, IntKind.signed] at h; omega
theorem wf_u8 {y : Int} (h : (Lit.int .u8 y).wf = true) : 0 ≤ y ∧ y < 256 := by
  simp [Lit.wf, IntKind.min, IntKind.max, IntKind.bits, IntKind.signed] at h; omega
theorem wf_u32 {y : Int} (h : (Lit.int .u32 y).wf = true) : 0 ≤ y ∧ y < 4294967296 := by
  simp [Lit.wf, IntKind.min, IntKind.max, IntKind.bits, IntKind.signed] at h; omega
theorem put_eq {s kind id : Int} {L : List Int} (hk : 0 ≤ kind ∧ kind < 256) (hi : 0 ≤ id ∧ id < 4294967296) (hL : Bytes L) : page_Put.f s kind id L = some (putF s kind id L) := by
  unfold page_Put.f; rw [if_pos ⟨hk.1, hk.2, hi.1, hi.2, bytesB_of hL⟩]
/-- A page's first seven bytes. -/
def headL (kind id : Int) (n : Nat) : List Int := kind :: (be 4 id ++ be 2 n)
theorem headL_length (kind id : Int) (n : Nat) : (headL kind id n).length = 7 := rfl
/-- A page's bytes but the sum. -/
def bodyL (s : Nat) (kind id : Int) (L : List Int) : List Int := headL kind id L.length ++ (L ++ zeros (s - 11 - L.length))
theorem bodyL_length (s : Nat) (kind id : Int) (L : List Int) (h : 11 + L.length ≤ s) : (bodyL s kind id L).length = s - 4 := by
  unfold bodyL; rw [List.length_append, List.length_append, headL_length, zeros, List.length_replicate]; omega
theorem putHead_shape (m : Nat) (kind id : Int) (L : List Int) : putHead (m + 7) kind id L = headL kind id L.length ++ zeros m := by
  simp [putHead, layL, be, zeros, List.replicate_succ, headL]
theorem putBody_shape (s : Nat) (kind id : Int) (L : List Int) (h : 11 + L.length ≤ s) : putBody s kind id L = bodyL s kind id L ++ zeros 4 := by
  obtain ⟨m, rfl⟩ : ∃ m, s = m + 7 := ⟨s - 7, by omega⟩
  have hd : (headL kind id L.length ++ zeros m).drop (7 + L.length) = zeros (m - L.length) := by
    rw [← List.drop_drop, List.drop_left' (headL_length _ _ _), zeros, List.drop_replicate]; rfl
  have hz : zeros (m - L.length) = zeros (m + 7 - 11 - L.length) ++ zeros 4 := by
    unfold zeros; rw [List.replicate_append_replicate]; congr 1; omega
  unfold putBody
  rw [putHead_shape, List.take_left' (headL_length _ _ _), hd, hz]
  unfold bodyL
  simp only [List.append_assoc]
theorem putB_shape (s : Nat) (kind id : Int) (L : List Int) (h : 11 + L.length ≤ s) : putB s kind id L = bodyL s kind id L ++ be 4 (crc (bodyL s kind id L)) := by
  have hl := bodyL_length s kind id L h
  unfold putB layL
  rw [putBody_shape s kind id L h, List.take_left' hl]
  have : (bodyL s kind id L ++ zeros 4).drop (s - 4 + 4) = [] := by
    refine List.drop_eq_nil_of_le ?_
    rw [List.length_append, hl, zeros, List.length_replicate]
    exact Nat.le_refl _
  rw [this, List.append_nil]
/-- The number of bytes. -/
def toldL (l : List Int) : Int := l.foldl (fun n c => n * 256 + c) 0
theorem or_low (n c : Int) (h0 : 0 ≤ n) (h1 : n < 72057594037927936) (hc : 0 ≤ c) (hc2 : c < 256) : Go.bits .or .u64 (IntKind.u64.wrap (n * 256)) (IntKind.u64.wrap c) = n * 256 + c := by
  have e1 : IntKind.u64.wrap (n * 256) = n * 256 := by rw [IntKind.wrap_u64]; omega
  have e2 : IntKind.u64.wrap c = c := by rw [IntKind.wrap_u64]; omega
  rw [e1, e2]
  have := u64_or_nat (n.toNat * 256) c.toNat (by omega) (by omega)
  have e3 : ((n.toNat * 256 : Nat) : Int) = n * 256 := by omega
  have e4 : ((c.toNat : Nat) : Int) = c := by omega
  rw [e3, e4] at this
  rw [this]
  have h := Nat.two_pow_add_eq_or_of_lt (i := 8) (b := c.toNat) (by omega) n.toNat
  have e5 : n.toNat * 256 = 2 ^ 8 * n.toNat := by omega
  rw [e5, ← h]
  omega
theorem told_loop (l : List Int) (hl : Bytes l) (h4 : l.length ≤ 7) (d : Nat) : ∀ (i : Nat), l.length - i = d → i ≤ l.length → 0 ≤ toldL (l.take i) ∧ toldL (l.take i) < 256 ^ i → Ev (fun k => page_told.l0 k (toldL (l.take i)) l (l.length : Int) i) (toldL l) := by
  induction d with
  | zero =>
    intro i hd hi _
    have e : l.take i = l := List.take_of_length_le (by omega)
    rw [e]
    exact Ev.step (fun k => by rw [page_told.l0]) (Ev.neg_ (by omega) (Ev.now _))
  | succ d ih =>
    intro i hd hi ⟨h0, h1⟩
    have hlt : i < l.length := by omega
    obtain ⟨b0, b1⟩ := hl _ (rd_in l i hlt)
    have hpn : 256 ^ i ≤ 256 ^ 6 := Nat.pow_le_pow_right (n := 256) (by decide) (by omega)
    have hp : (256 : Int) ^ i ≤ 256 ^ 6 := by have : (((256 ^ i : Nat)) : Int) ≤ ((256 ^ 6 : Nat) : Int) := by omega
                                              simpa [Int.natCast_pow] using this
    have e : toldL (l.take (i + 1)) = toldL (l.take i) * 256 + rd l i := by rw [rd_take l i hlt, toldL, List.foldl_append]; rfl
    refine Ev.step (fun k => by rw [page_told.l0]) (Ev.pos_ (by omega) (Ev.pos_ (by omega) (Ev.pos_ (by omega) ?_)))
    rw [or_low _ _ h0 (by omega) b0 b1, ← e, wrap64_id (by omega) (by omega), show ((i : Int) + 1) = ((i + 1 : Nat) : Int) by omega]
    refine ih (i + 1) (by omega) (by omega) ?_
    rw [e, Int.pow_succ]; omega
theorem told_ev (l : List Int) (hl : Bytes l) (h4 : l.length ≤ 7) : Ev (fun k => page_told.f k l) (toldL l) :=
  told_loop l hl h4 l.length 0 rfl (by omega) (by simp [toldL])
theorem told_be2 (v : Int) (h0 : 0 ≤ v) (h1 : v < 65536) : toldL (be 2 v) = v := by simp [toldL, be]; omega
theorem told_be4 (v : Int) (h0 : 0 ≤ v) (h1 : v < 4294967296) : toldL (be 4 v) = v := by simp [toldL, be]; omega
theorem told_nonneg (l : List Int) (hl : Bytes l) : ∀ n : Int, 0 ≤ n → 0 ≤ l.foldl (fun n c => n * 256 + c) n := by
  induction l with
  | nil => intro n h; exact h
  | cons a t ih => intro n h; exact ih (fun x hx => hl x (by simp [hx])) (n * 256 + a) (by have := (hl a (by simp)).1; omega)
theorem told_lt (l : List Int) (hl : Bytes l) : ∀ n : Int, 0 ≤ n → l.foldl (fun n c => n * 256 + c) n < (n + 1) * 256 ^ l.length := by
  induction l with
  | nil => intro n h; simp; omega
  | cons a t ih =>
    intro n h
    have ha := hl a (by simp)
    have := ih (fun x hx => hl x (by simp [hx])) (n * 256 + a) (by omega)
    have hp : (0 : Int) < 256 ^ t.length := Int.pow_pos (by decide)
    have hm : (n * 256 + a + 1) * 256 ^ t.length ≤ (n * 256 + 256) * 256 ^ t.length := Int.mul_le_mul_of_nonneg_right (by omega) (by omega)
    have e : (n + 1) * (256 : Int) ^ (a :: t).length = (n * 256 + 256) * 256 ^ t.length := by
      rw [List.length_cons, Int.pow_succ, Int.mul_comm (256 ^ t.length) 256, ← Int.mul_assoc, Int.add_mul]; rfl
    rw [e]
    exact Int.lt_of_lt_of_le this hm
theorem told_lt4 (l : List Int) (hl : Bytes l) (h4 : l.length ≤ 4) : 0 ≤ toldL l ∧ toldL l < 4294967296 := by
  refine ⟨told_nonneg l hl 0 (by omega), ?_⟩
  have h := told_lt l hl 0 (by omega)
  have hpn : 256 ^ l.length ≤ 256 ^ 4 := Nat.pow_le_pow_right (n := 256) (by decide) h4
  have hp : (256 : Int) ^ l.length ≤ 256 ^ 4 := by
    have : (((256 ^ l.length : Nat)) : Int) ≤ ((256 ^ 4 : Nat) : Int) := by omega
    simpa [Int.natCast_pow] using this
  show toldL l < 256 ^ 4
  unfold toldL
  omega
theorem equal_loop (a b : List Int) (hab : a.length = b.length) (hs : a.length < 1000000000) (d : Nat) : ∀ (i : Nat), a.length - i = d → i ≤ a.length → a.take i = b.take i → Ev (fun k => slices_Equal_byte_byte.l0 k a b (a.length : Int) i) (decide (a = b)) := by
  induction d with
  | zero =>
    intro i hd hi h
    have e : a = b := by rwa [List.take_of_length_le (by omega), List.take_of_length_le (by omega)] at h
    rw [decide_eq_true e]
    exact Ev.step (fun k => by rw [slices_Equal_byte_byte.l0]) (Ev.neg_ (by omega) (Ev.now _))
  | succ d ih =>
    intro i hd hi h
    refine Ev.step (fun k => by rw [slices_Equal_byte_byte.l0]) (Ev.pos_ (by omega) (Ev.pos_ (by omega) (Ev.pos_ (by omega) (Ev.pos_ (by omega) ?_))))
    refine Ev.ite_ (fun e => ?_) (fun e => ?_)
    · rw [wrap64_id (by omega) (by omega), show ((i : Int) + 1) = ((i + 1 : Nat) : Int) by omega]
      exact ih (i + 1) (by omega) (by omega) (by rw [rd_take a i (by omega), rd_take b i (by omega), h, e])
    · have : ¬ a = b := fun h2 => e (by rw [h2])
      rw [decide_eq_false this]
      exact Ev.now _
theorem equal_ev (a b : List Int) (hs : a.length < 1000000000) : Ev (fun k => slices_Equal_byte_byte.f k a b) (decide (a = b)) := by
  unfold slices_Equal_byte_byte.f
  refine Ev.ite_ (fun h => ?_) (fun h => ?_)
  · exact equal_loop a b (by omega) hs a.length 0 rfl (by omega) (by simp)
  · have : ¬ a = b := fun h2 => h (by rw [h2])
    rw [decide_eq_false this]
    exact Ev.now _
/-- A page that is read. -/
def getP (l : List Int) : Int × Int × List Int × Int :=
  if room l.length = 0 then (0, 0, [], 30) else
  if room l.length < toldL ((l.take 7).drop 5) then (0, 0, [], 30) else
  if putE l.length (rd l 0) ((l.take (7 + toldL ((l.take 7).drop 5)).toNat).drop 7) = 0 ∧ putB l.length (rd l 0) (toldL ((l.take 5).drop 1)) ((l.take (7 + toldL ((l.take 7).drop 5)).toNat).drop 7) = l then (rd l 0, toldL ((l.take 5).drop 1), (l.take (7 + toldL ((l.take 7).drop 5)).toNat).drop 7, 0) else (0, 0, [], 30)
theorem bytes_part {l : List Int} (h : Bytes l) (m n : Nat) : Bytes ((l.take m).drop n) := fun x hx => h x (List.mem_of_mem_take (List.mem_of_mem_drop hx))
theorem get_ev (l : List Int) (hl : Bytes l) (hs : l.length < 1000000000) : Ev (fun k => page_Get.f k l) (getP l) := by
  unfold page_Get.f getP
  refine Ev.bind_ (room_ev _ (by omega) (by omega)) ?_
  by_cases h0 : room l.length = 0
  · rw [if_pos h0]; exact Ev.pos_ h0 (Ev.now _)
  rw [if_neg h0]
  have hr : room l.length = (l.length : Int) - 11 ∧ 64 ≤ l.length ∧ l.length ≤ 8192 := by unfold room at h0 ⊢; split at h0 <;> (first | omega | (rw [if_neg (by assumption)]; omega))
  have b1 := told_lt4 _ (bytes_part hl 7 5) (by rw [List.length_drop, List.length_take]; omega)
  have b2 := told_lt4 _ (bytes_part hl 5 1) (by rw [List.length_drop, List.length_take]; omega)
  refine Ev.neg_ h0 (Ev.pos_ (by omega) (Ev.pos_ (by omega) (Ev.bind_ (told_ev _ (bytes_part hl 7 5) (by rw [List.length_drop, List.length_take]; omega)) (Ev.bind_ (room_ev _ (by omega) (by omega)) ?_))))
  generalize toldL ((l.take 7).drop 5) = n at b1 ⊢
  rw [wrap64_id (a := n) (by omega) (by omega)]
  by_cases h1 : room l.length < n
  · rw [if_pos h1]; exact Ev.pos_ h1 (Ev.now _)
  rw [if_neg h1]
  refine Ev.neg_ h1 (Ev.pos_ (by omega) (Ev.pos_ (by omega) (Ev.pos_ (by omega) (Ev.bind_ (told_ev _ (bytes_part hl 5 1) (by rw [List.length_drop, List.length_take]; omega)) ?_))))
  generalize toldL ((l.take 5).drop 1) = id at b2 ⊢
  rw [wrap64_id (a := 7 + n) (by omega) (by omega)]
  refine Ev.pos_ (by omega) (Ev.pos_ (by omega) ?_)
  have hLB := bytes_part hl (7 + n).toNat 7
  have hLl : ((l.take (7 + n).toNat).drop 7).length = n.toNat := by rw [List.length_drop, List.length_take]; omega
  generalize (l.take (7 + n).toNat).drop 7 = L at hLB hLl ⊢
  have hk := hl _ (rd_in l 0 (by omega))
  refine Ev.some_bind (a := L) (by unfold slices_Clone_byte_byte.f; rw [if_pos (by omega)]) ?_
  have hid : id % 4294967296 = id := by omega
  rw [hid]
  refine Ev.some_bind (put_eq (by exact hk) (by omega) hLB) ?_
  have j0t : Ev (fun k => page_Get.j0 k true (rd l 0) id L) ((0 : Int), (0 : Int), ([] : List Int), (30 : Int)) := Ev.step (fun k => by rw [page_Get.j0]) (Ev.pos_ rfl (Ev.now _))
  by_cases h2 : putE l.length (rd l 0) L = 0
  · refine Ev.pos_ h2 ?_
    have e : (putF (l.length : Int) (rd l 0) id L).1 = putB l.length (rd l 0) id L := by unfold putF; rw [if_pos h2]; rfl
    obtain ⟨q1, q2, _, q3⟩ := putE_zero h2
    have hbl := putB_length l.length (rd l 0) id L (by omega)
    rw [e]
    refine Ev.bind_ (equal_ev _ l (by omega)) ?_
    by_cases h3 : putB l.length (rd l 0) id L = l
    · rw [if_pos ⟨h2, h3⟩, decide_eq_true h3]
      exact Ev.step (fun k => by rw [page_Get.j0]) (Ev.neg_ (by decide) (Ev.now _))
    · rw [if_neg (fun h => h3 h.2), decide_eq_false h3]
      exact j0t
  · rw [if_neg (fun h => h2 h.1)]
    exact Ev.neg_ h2 j0t
theorem putB_rd (s : Nat) (kind id : Int) (L : List Int) (h : 11 + L.length ≤ s) : rd (putB s kind id L) 0 = kind := by rw [putB_shape s kind id L h]; rfl
theorem get_put (s : Nat) (kind id : Int) (L : List Int) (hi : 0 ≤ id ∧ id < 4294967296) (he : putE s kind L = 0) : getP (putB s kind id L) = (kind, id, L, 0) := by
  obtain ⟨q1, q2, q4, q3⟩ := putE_zero he
  have hl := putB_length s kind id L (by omega)
  have hsh := putB_shape s kind id L (by omega)
  have e5 : (putB s kind id L).take 7 = headL kind id L.length := by rw [hsh]; unfold bodyL; rw [List.append_assoc]; exact List.take_left' (headL_length _ _ _)
  have e1 : ((putB s kind id L).take 7).drop 5 = be 2 L.length := by rw [e5]; rfl
  have e2 : ((putB s kind id L).take 5).drop 1 = be 4 id := by
    have : (putB s kind id L).take 5 = ((putB s kind id L).take 7).take 5 := by rw [List.take_take]; rfl
    rw [this, e5]; rfl
  have e3 : toldL (be 2 (L.length : Int)) = L.length := told_be2 _ (by omega) (by omega)
  have e4 : toldL (be 4 id) = id := told_be4 _ hi.1 hi.2
  have e6 : ((putB s kind id L).take (7 + (L.length : Int)).toNat).drop 7 = L := by
    rw [show (7 + (L.length : Int)).toNat = 7 + L.length by omega, hsh]
    unfold bodyL
    rw [List.append_assoc, List.append_assoc, List.drop_take, List.drop_left' (headL_length _ _ _)]
    exact List.take_left' (by omega)
  have hrm : ¬ room s = 0 ∧ room s = (s : Int) - 11 := by unfold room; rw [if_neg (by omega)]; omega
  unfold getP
  rw [hl, if_neg hrm.1, e1, e3, if_neg (by omega), e6, e2, e4, putB_rd s kind id L (by omega), if_pos ⟨he, rfl⟩]
theorem getP_page (l : List Int) : ((getP l).2.2.2 = 0 ∧ ∃ L, (getP l).2.2.1 = L) ∨ (getP l).2.2.2 = 30 := by
  unfold getP
  split
  · exact .inr rfl
  · split
    · exact .inr rfl
    · split
      · exact .inl ⟨rfl, _, rfl⟩
      · exact .inr rfl
theorem putB_bytes (s : Nat) (kind id : Int) (L : List Int) (h : 11 + L.length ≤ s) (hk : 0 ≤ kind ∧ kind < 256) (hL : Bytes L) : Bytes (putB s kind id L) := by
  rw [putB_shape s kind id L h]
  refine Bytes.append ?_ (be_bytes _ _)
  unfold bodyL headL
  refine Bytes.append (fun x hx => ?_) (Bytes.append hL (fun x hx => ?_))
  · rcases List.mem_cons.mp hx with rfl | hx
    · exact hk
    · exact (List.mem_append.mp hx).elim (be_bytes 4 _ x) (be_bytes 2 _ x)
  · rw [(List.mem_replicate.mp hx).2]; omega
theorem nums_bytes (a : List Int) (h : Bytes a) : (Lib.bytesOf a).map (fun u => (u.toNat : Int)) = a := by
  unfold Lib.bytesOf
  rw [List.map_map]
  conv => rhs; rw [← List.map_id a]
  refine List.map_congr_left fun x hx => ?_
  obtain ⟨h0, h1⟩ := h x hx
  simp only [Function.comp, id]
  rw [UInt8.toNat_ofNat']
  omega
theorem strOf_inj (a b : List Int) (ha : Bytes a) (hb : Bytes b) : ((strOfNums a).toList == (strOfNums b).toList) = decide (a = b) := by
  rw [Lib.strOfNums_toList, Lib.strOfNums_toList]
  by_cases h : a = b
  · rw [h]; simp
  · rw [decide_eq_false h]
    have : ¬ Lib.bytesOf a = Lib.bytesOf b := by
      intro hc
      apply h
      rw [← nums_bytes a ha, ← nums_bytes b hb, hc]
    simpa using this
theorem same_eq (k1 i1 k2 i2 : Int) (L1 L2 : List Int) (h1 : Bytes L1) (h2 : Bytes L2) : klaxonref03_Same.f k1 i1 L1 k2 i2 L2 = some (decide (k1 = k2 ∧ i1 = i2 ∧ L1 = L2)) := by
  unfold klaxonref03_Same.f
  rw [strOf_inj L1 L2 h1 h2]
  by_cases a : k1 = k2 <;> by_cases b : i1 = i2 <;> simp [a, b]
theorem get_less (l : List Int) (s : Nat) (hl : l.length = s - 1) (hs : 64 ≤ s) : (getP l).2.2.2 = 30 ∨ ((getP l).2.2.2 = 0 ∧ 64 ≤ (s : Int) - 1) := by
  by_cases h : s = 64
  · left
    unfold getP
    rw [if_pos (by unfold room; rw [if_pos (by omega)])]
  · rcases getP_page l with h1 | h1
    · exact .inr ⟨h1.1, by omega⟩
    · exact .inl h1
theorem rroom_ev (s : Int) (h0 : -9223372036854775808 ≤ s) (h1 : s ≤ 9223372036854775807) : Ev (fun k => klaxonref03_Room.f k s) (room s) := by
  unfold klaxonref03_Room.f room
  have j0t : Ev (fun k => klaxonref03_Room.j0 k s true) (0 : Int) := Ev.step (fun k => by rw [klaxonref03_Room.j0]) (Ev.pos_ rfl (Ev.now _))
  by_cases h : s < 64
  · rw [if_pos (Or.inl h)]
    exact Ev.pos_ h j0t
  · refine Ev.neg_ h ?_
    by_cases h2 : 8192 < s
    · rw [if_pos (Or.inr h2), decide_eq_true h2]; exact j0t
    · rw [if_neg (by omega), decide_eq_false h2]
      have e : wrap64 (s - 11) = s - 11 := wrap64_id (by omega) (by omega)
      exact Ev.step (fun k => by rw [klaxonref03_Room.j0, e]) (Ev.neg_ (by decide) (Ev.now _))
theorem crc_l0_eq (k : Nat) (x0 : List Int) (x3 x4 : Int) : klaxonref01_Crc.l0 (k + 1) x0 x3 x4 = if x4 < (x0.length : Int) then (klaxonref01_Crc.l1 k x0 x3 x4 0) else (some x3) := by rw [klaxonref01_Crc.l0]
theorem crc_l1_eq (k : Nat) (x0 : List Int) (x3 x4 x5 : Int) : klaxonref01_Crc.l1 (k + 1) x0 x3 x4 x5 = if x5 < 8 then (if 0 ≤ x4 then (if x4 < (x0.length : Int) then (if 0 ≤ (IntKind.u64.wrap (x5)) then (if (Go.bits .and .u32 (Go.bits .xor .u32 x3 (shr .u32 ((rd x0 x4) % 4294967296) (IntKind.u64.wrap (x5)))) 1) = 1 then (klaxonref01_Crc.l1 k x0 (Go.bits .xor .u32 (x3 / 2) 3945912366) x4 (wrap64 (x5 + 1))) else (klaxonref01_Crc.l1 k x0 (x3 / 2) x4 (wrap64 (x5 + 1)))) else (none)) else (none)) else (none)) else (klaxonref01_Crc.l0 k x0 x3 (wrap64 (x4 + 1))) := by rw [klaxonref01_Crc.l1]
theorem crc_bits (l : List Int) (i p : Nat) (hi : i < l.length) (hp : rd l i = p) (hp2 : p < 256) (r : Int) (d : Nat) : ∀ (m j : Nat), j + d = 8 → m < 4294967296 →
    Ev (fun k => klaxonref01_Crc.l0 k l ((run m (bitsOf d (p / 2 ^ j)) : Nat) : Int) (wrap64 ((i : Int) + 1))) r → Ev (fun k => klaxonref01_Crc.l1 k l (m : Int) (i : Int) (j : Int)) r := by
  induction d with
  | zero =>
    intro m j hj hm h
    have h : Ev (fun k => klaxonref01_Crc.l0 k l (m : Int) (wrap64 ((i : Int) + 1))) r := h
    exact Ev.step (fun k => crc_l1_eq k _ _ _ _) (Ev.neg_ (by omega) h)
  | succ d ih =>
    intro m j hj hm h
    have a1 : (j : Int) < 8 := by omega
    have a2 : (0 : Int) ≤ (i : Int) := by omega
    have a3 : (i : Int) < (l.length : Int) := by omega
    have a4 : m / 2 < 4294967296 := by omega
    have ej : wrap64 ((j : Int) + 1) = ((j + 1 : Nat) : Int) := by rw [wrap64_id (by omega) (by omega)]; omega
    have hm2 : ((m : Int) / 2) = ((m / 2 : Nat) : Int) := by omega
    have a6 : j + 1 + d = 8 := by omega
    have hw : IntKind.u64.wrap (j : Int) = j := by rw [IntKind.wrap_u64]; omega
    have hpj : p / 2 ^ j < 4294967296 := Nat.lt_of_le_of_lt (Nat.div_le_self _ _) (by omega)
    have hs : shr .u32 (rd l i % 4294967296) (IntKind.u64.wrap (j : Int)) = ((p / 2 ^ j : Nat) : Int) := by
      rw [hw, hp, show ((p : Int) % 4294967296) = (p : Int) by omega]
      unfold shr
      rw [show min (j : Int).toNat IntKind.u32.bits = j by rw [show IntKind.u32.bits = 32 from rfl]; omega]
      norm_cast
    have hx : Go.bits .and .u32 (Go.bits .xor .u32 (m : Int) (shr .u32 (rd l i % 4294967296) (IntKind.u64.wrap (j : Int)))) 1 = (((m ^^^ (p / 2 ^ j)) % 2 : Nat) : Int) := by
      rw [hs, u32_xor_nat m _ hm hpj, and1 _ (xor_lt hm hpj)]
    have hb : (m ^^^ (p / 2 ^ j)) % 2 = (m ^^^ (p / 2 ^ j % 2)) % 2 := by rw [xor_mod2, xor_mod2]; omega
    have e3 : (m ^^^ (p / 2 ^ j % 2)) / 2 = m / 2 := by rw [Nat.xor_div_two, show p / 2 ^ j % 2 / 2 = 0 by omega, Nat.xor_zero]
    have ed : p / 2 ^ j / 2 = p / 2 ^ (j + 1) := by rw [Nat.div_div_eq_div_mul, Nat.pow_succ]
    rw [bitsOf, run, ed] at h
    have a5 : 0 ≤ IntKind.u64.wrap (j : Int) := by rw [hw]; exact Int.natCast_nonneg _
    have a7 : p / 2 ^ j % 2 < 4294967296 := Nat.lt_of_lt_of_le (Nat.mod_lt _ (by decide)) (by decide)
    have e : ∀ k, klaxonref01_Crc.l1 (k + 1) l (m : Int) (i : Int) (j : Int) = klaxonref01_Crc.l1 k l ((stp (m ^^^ (p / 2 ^ j % 2)) : Nat) : Int) (i : Int) ((j + 1 : Nat) : Int) := by
      intro k
      rw [crc_l1_eq, if_pos a1, if_pos a2, if_pos a3, if_pos a5, hx, hb, hm2, xorP _ a4, ej]
      unfold stp
      rw [e3]
      clear ej hm2 hw hs hx hb e3 ed h hpj a5 a7
      by_cases h1 : (m ^^^ (p / 2 ^ j % 2)) % 2 = 1
      · rw [if_pos (show (((m ^^^ (p / 2 ^ j % 2)) % 2 : Nat) : Int) = 1 by rw [h1]; rfl), if_pos h1]
      · rw [if_neg (show ¬ (((m ^^^ (p / 2 ^ j % 2)) % 2 : Nat) : Int) = 1 from fun hc => h1 (Int.ofNat.inj hc)), if_neg h1]
    exact Ev.step e (ih _ _ a6 (stp_lt (xor_lt hm a7)) h)
theorem crc_loop (l : List Int) (hl : Bytes l) (hs : l.length < 1000000000) (d : Nat) : ∀ (m i : Nat), i + d = l.length → m < 4294967296 → Ev (fun k => klaxonref01_Crc.l0 k l (m : Int) (i : Int)) ((from_ m (l.drop i) : Nat) : Int) := by
  induction d with
  | zero =>
    intro m i hi hm
    rw [List.drop_eq_nil_of_le (by omega)]
    show Ev _ (m : Int)
    exact Ev.step (fun k => crc_l0_eq k _ _ _) (Ev.neg_ (by omega) (Ev.now _))
  | succ d ih =>
    intro m i hi hm
    have hlt : i < l.length := by omega
    have hx := hl _ (rd_in l i hlt)
    obtain ⟨p, hp⟩ : ∃ p : Nat, rd l i = p := ⟨(rd l i).toNat, by omega⟩
    have hd : l.drop i = rd l i :: l.drop (i + 1) := by
      rw [List.drop_eq_getElem_cons hlt]; congr 1; simp [rd, List.getD, hlt]
    refine Ev.step (fun k => crc_l0_eq k _ _ _) (Ev.pos_ (by omega) ?_)
    refine crc_bits l i p hlt hp (by omega) _ 8 m 0 rfl hm ?_
    have e1 : from_ m (l.drop i) = from_ (run m (bitsOf 8 p)) (l.drop (i + 1)) := by
      rw [hd, show rd l i :: l.drop (i + 1) = [rd l i] ++ l.drop (i + 1) from rfl, from_append, hp, from_one _ _ (by omega) (by omega), run_byte _ _ (by omega), show ((p : Int)).toNat = p by omega]
    rw [e1, show p / 2 ^ 0 = p by simp, wrap64_id (by omega) (by omega), show ((i : Int) + 1) = ((i + 1 : Nat) : Int) by omega]
    exact ih _ _ (by omega) (run_lt _ _ hm (bits_lt 8 p))
theorem rcrc_ev (l : List Int) (hl : Bytes l) (hs : l.length < 1000000000) : Ev (fun k => klaxonref01_Crc.f k l) (crc l) := crc_loop l hl hs l.length 4294967295 0 (by omega) (by decide)
theorem headL_ref (kind id : Int) (n : Nat) (hn : (n : Int) < 65536) : ([kind, (id / 16777216) % 256, (id / 65536) % 256, (id / 256) % 256, id % 256, (wrap64 ((n : Int) / 256)) % 256, (n : Int) % 256] : List Int) = headL kind id n := by
  rw [wrap64_id (by omega) (by omega)]
  simp [headL, be]
theorem be4_ref (c : Int) : ([(c / 16777216) % 256, (c / 65536) % 256, (c / 256) % 256, c % 256] : List Int) = be 4 c := by simp [be]
theorem rput_ev (s kind id : Int) (L : List Int) (hk : 0 ≤ kind ∧ kind < 256) (hi : 0 ≤ id ∧ id < 4294967296) (hL : Bytes L) (hs : -9223372036854775808 ≤ s ∧ s ≤ 9223372036854775807) :
    Ev (fun k => klaxonref03_Put.f k s kind id L) (strOfNums (putF s kind id L).1, (putF s kind id L).2) := by
  have hnil : strOfNums ([] : List Int) = (⟨#[]⟩ : ByteArray) := rfl
  unfold klaxonref03_Put.f
  refine Ev.bind_ (rroom_ev s hs.1 hs.2) ?_
  have j0t : Ev (fun k => klaxonref03_Put.j0 k s true kind id L) ((⟨#[]⟩ : ByteArray), (2 : Int)) := Ev.step (fun k => by rw [klaxonref03_Put.j0]) (Ev.pos_ rfl (Ev.now _))
  by_cases h0 : room s = 0
  · have e : putF s kind id L = ([], 2) := by unfold putF putE; rw [if_pos (Or.inl h0)]; rfl
    rw [e]
    exact Ev.pos_ h0 j0t
  refine Ev.neg_ h0 ?_
  by_cases h1 : kind = 0
  · have e : putF s kind id L = ([], 2) := by unfold putF putE; rw [if_pos (Or.inr h1)]; rfl
    rw [e, show (kind == 0) = true by rw [h1]; rfl]
    exact j0t
  rw [show (kind == 0) = false by simpa using h1]
  refine Ev.step (fun k => by rw [klaxonref03_Put.j0]) (Ev.neg_ (by decide) (Ev.bind_ (rroom_ev s hs.1 hs.2) ?_))
  by_cases h2 : (L.length : Int) > room s
  · have e : putF s kind id L = ([], 1) := by
      have he1 : putE s kind L = 1 := by unfold putE; rw [if_neg (by rintro (h | h); exact h0 h; exact h1 h), if_pos h2]
      unfold putF; rw [he1]; rfl
    rw [e]
    exact Ev.pos_ h2 (Ev.now _)
  refine Ev.neg_ h2 ?_
  have hrm : room s = s - 11 ∧ 64 ≤ s ∧ s ≤ 8192 := by
    unfold room at h0 ⊢
    split at h0
    · exact absurd rfl h0
    · rw [if_neg (by assumption)]; omega
  have he : putE s kind L = 0 := by unfold putE; rw [if_neg (by rintro (h | h); exact h0 h; exact h1 h), if_neg h2]
  have hn : (L.length : Int) < 65536 := by omega
  have ep : putF s kind id L = (putB s.toNat kind id L, 0) := by unfold putF; rw [he, if_pos rfl]
  rw [ep, putB_shape s.toNat kind id L (by omega)]
  have hh := headL_length kind id L.length
  refine Ev.some_bind rfl ?_
  rw [headL_ref kind id L.length hn]
  refine Ev.pos_ (by omega) (Ev.some_bind rfl ?_)
  have hw : wrap64 (wrap64 (s - 4) - ((headL kind id L.length ++ L).length : Int)) = ((s.toNat - 11 - L.length : Nat) : Int) := by
    rw [List.length_append, hh, wrap64_id (a := s - 4) (by omega) (by omega), wrap64_id (by omega) (by omega)]; omega
  rw [hw]
  refine Ev.pos_ (by omega) (Ev.pos_ (by rw [List.length_append, hh]; omega) (Ev.some_bind rfl ?_))
  rw [show ((s.toNat - 11 - L.length : Nat) : Int).toNat = s.toNat - 11 - L.length by omega]
  have eb : headL kind id L.length ++ L ++ List.replicate (s.toNat - 11 - L.length) 0 = bodyL s.toNat kind id L := by unfold bodyL zeros; rw [List.append_assoc]
  rw [eb]
  have hbl := bodyL_length s.toNat kind id L (by omega)
  have hbb : Bytes (bodyL s.toNat kind id L) := by
    have := putB_bytes s.toNat kind id L (by omega) hk hL
    rw [putB_shape s.toNat kind id L (by omega)] at this
    exact fun x hx => this x (List.mem_append_left _ hx)
  refine Ev.bind_ (rcrc_ev _ hbb (by omega)) (Ev.some_bind rfl ?_)
  rw [be4_ref]
  exact Ev.pos_ (by rw [hbl, be_length]; omega) (Ev.now _)
theorem bytesOf_str (l : List Int) (h : Bytes l) : bytesOf (strOfNums l) = l := by
  have := nums_bytes l h
  unfold bytesOf strOfNums
  unfold Lib.bytesOf at this
  simpa using this
theorem bt_str (l : List Int) (hl : Bytes l) (i : Int) : bt (strOfNums l) i = rd l i := by rw [← rd_bytesOf, bytesOf_str l hl]
theorem or_low32 (n c : Int) (h0 : 0 ≤ n) (h1 : n < 16777216) (hc : 0 ≤ c) (hc2 : c < 256) : Go.bits .or .u32 (n * 256 % 4294967296) (c % 4294967296) = n * 256 + c := by
  have e1 : n * 256 % 4294967296 = n * 256 := by omega
  have e2 : c % 4294967296 = c := by omega
  rw [e1, e2]
  have := u32_or_nat (n.toNat * 256) c.toNat (by omega) (by omega)
  have e3 : ((n.toNat * 256 : Nat) : Int) = n * 256 := by omega
  have e4 : ((c.toNat : Nat) : Int) = c := by omega
  rw [e3, e4] at this
  rw [this]
  have h := Nat.two_pow_add_eq_or_of_lt (i := 8) (b := c.toNat) (by omega) n.toNat
  have e5 : n.toNat * 256 = 2 ^ 8 * n.toNat := by omega
  rw [e5, ← h]
  omega
theorem told_lt3 (l : List Int) (hl : Bytes l) (h4 : l.length ≤ 3) : toldL l < 16777216 := by
  have h := told_lt l hl 0 (by omega)
  have hpn : 256 ^ l.length ≤ 256 ^ 3 := Nat.pow_le_pow_right (n := 256) (by decide) h4
  have hp : (256 : Int) ^ l.length ≤ 256 ^ 3 := by
    have : (((256 ^ l.length : Nat)) : Int) ≤ ((256 ^ 3 : Nat) : Int) := by omega
    simpa [Int.natCast_pow] using this
  show toldL l < 256 ^ 3
  unfold toldL
  omega
theorem three_put {w : World} {g : Nat} {t : TypeId} {z0 z1 z2 : Value} (h : w.heap[g]? = some (.cells #[z0, z1, z2] t (0, 0))) (v0 v1 v2 : Value) :
    (((w.setCell ⟨g, 0, none⟩ v0).setCell ⟨g, 1, none⟩ v1).setCell ⟨g, 2, none⟩ v2).heap[g]? = some (.cells #[v0, v1, v2] t (0, 0)) := blk_set (blk_set (blk_set h 0 v0) 1 v1) 2 v2
theorem three_below {g : Nat} {w W : World} (h : Below w.heap.size w W) (hg : w.heap.size ≤ g) (v0 v1 v2 : Value) : Below w.heap.size w (((W.setCell ⟨g, 0, none⟩ v0).setCell ⟨g, 1, none⟩ v1).setCell ⟨g, 2, none⟩ v2) :=
  below_set (below_set (below_set h hg) hg) hg
theorem idx_str (l : List Int) (hl : Bytes l) (i : Nat) (hi : i < l.length) (W : World) : (Instr.index 9 (.string (strOfNums l)) (.int .i64 (i : Int))).run Try.prog W = .ok (.int .u8 (rd l i)) W := by
  have hsz := strOfNums_size l
  rw [run_index_string _ _ _ _ _ Try.underlying9, dif_pos ⟨by omega, by omega⟩, ← bt_str l hl, ← bt_at _ _ (by simp only [Int.toNat_natCast]; omega)]
theorem slice_str (l : List Int) (i j : Nat) (hij : i ≤ j) (hj : j ≤ l.length) (W : World) : (Instr.slice 9 (.string (strOfNums l)) (some (.int .i64 (i : Int))) (some (.int .i64 (j : Int))) none).run Try.prog W = .ok (.string (strOfNums ((l.take j).drop i))) W := by
  have hsz := strOfNums_size l
  rw [run_slice_string_if _ _ _ _ _ _ _ Try.underlying9, if_pos ⟨by omega, by omega⟩, if_pos ⟨by omega, by omega⟩]
  congr 2
  apply ByteArray.ext
  apply Array.toList_inj.mp
  rw [Int.toNat_natCast, Int.toNat_natCast, Lib.extract_data, strOfNums_data, strOfNums_data, List.map_drop, List.map_take, List.drop_take]
set_option maxHeartbeats 1000000 in
set_option maxRecDepth 100000 in
theorem rget_calls (l : List Int) (hl : Bytes l) (hs : l.length < 1000000) (w : World) : Calls Try.prog 83 #[.string (strOfNums l)] w fun e w' => ∃ (y1 y2 y4 : Int) (y3 : List Int) (B : Option Addr) (d : Nat), e = .returned (.tuple #[.agg #[.int .u8 y1, .int .u32 y2, .slice B y3.length d], .int .i64 y4]) ∧ getP l = (y1, y2, y3, y4) ∧ Kd.C (Kd.int .u8) w' B y3.length y3 ∧ y3.length ≤ d ∧ (∀ ad, B = some ad → w.heap.size ≤ ad.block) ∧ Below w.heap.size w w' := by
  have hsz := strOfNums_size l
  obtain ⟨kr, hr⟩ := Ev.at_ (rroom_ev l.length (by omega) (by omega))
  obtain ⟨S, hS⟩ : ∃ S, S = strOfNums l := ⟨_, rfl⟩
  rw [← hS] at hsz ⊢
  have HS := Aside0.mk hS; have HL := Aside0.mk hl; have HR := Aside0.mk hr
  clear hS hl hr
  go_enter Try.func83, Try.ntmps83
  go_wp2_with fail
  refine (klaxonref03_Room.calls kr _ _ _ HR.out).mono ?_
  rintro e w1 ⟨rfl, ⟨n1, rfl⟩⟩
  have hG : ((w.alloc (Obj.cells #[Value.int IntKind.u8 0, Value.int IntKind.u32 0, Value.slice none 0 0] 83)).drewN n1).heap[w.heap.size]? = some (.cells #[Value.int IntKind.u8 0, Value.int IntKind.u32 0, Value.slice none 0 0] 83 (0, 0)) := blk_drewN (blk_new w _) _
  have hB : Below w.heap.size w ((w.alloc (Obj.cells #[Value.int IntKind.u8 0, Value.int IntKind.u32 0, Value.slice none 0 0] 83)).drewN n1) := pw_below_drewN (below_alloc (Below.refl _ _) _) _
  obtain ⟨W1, hW1⟩ : ∃ W, W = (w.alloc (Obj.cells #[Value.int IntKind.u8 0, Value.int IntKind.u32 0, Value.slice none 0 0] 83)).drewN n1 := ⟨_, rfl⟩
  rw [← hW1] at hG hB ⊢
  have HG := Aside0.mk hG; have HB := Aside0.mk hB
  clear hG hB hW1
  by_cases h0 : room l.length = 0
  · have hb0 : (room (l.length : Int) == 0) = true := by rw [h0]; rfl
    have hgp : getP l = (0, 0, [], 30) := by unfold getP; rw [if_pos h0]
    have HGP := Aside0.mk hgp
    have g0 := blk_cell HG.out 0; have g1 := blk_cell HG.out 1; have g2 := blk_cell HG.out 2; have f0 := blk_frozen HG.out 0; have f1 := blk_frozen HG.out 1; have f2 := blk_frozen HG.out 2
    simp only [List.getElem?_toArray, List.getElem?_cons_zero, List.getElem?_cons_succ] at g0 g1 g2
    clear hgp h0
    go_wp2_with fail
    refine bodyPost_ret (by exact results_ct rfl _ _ w.heap.size 83 #[.int .u8 0, .int .u32 0, .slice none 0 0] (0, 0) _ rfl (three_put HG.out _ _ _) Try.underlying83 rfl (by kernel_rfl)) rfl ?_
    exact ⟨0, 0, 30, [], none, 0, rfl, HGP.out, ⟨rfl, by decide, fun h => absurd h (by decide)⟩, Nat.le_refl _, (fun ad e => by cases e), three_below HB.out (Nat.le_refl _) _ _ _⟩
  · have hb0 : (room (l.length : Int) == 0) = false := by simpa using h0
    have hrm : room (l.length : Int) = (l.length : Int) - 11 ∧ 64 ≤ l.length ∧ l.length ≤ 8192 := by unfold room at h0 ⊢; split at h0 <;> (first | omega | (rw [if_neg (by assumption)]; omega))
    have hb : ∀ (i : Nat) (h : i < S.size), ((S[i]'h).toNat : Int) = rd l i := by
      rw [HS.out]; intro i h
      rw [← bt_str l HL.out, ← bt_at _ _ (by simpa using h)]; rfl
    have q0 : (0 : Int) < l.length := by omega
    have q5 : (5 : Int) < l.length := by omega
    have q6 : (6 : Int) < l.length := by omega
    have p0 : 0 < l.length := by omega
    have p5 : 5 < l.length := by omega
    have p6 : 6 < l.length := by omega
    have HRM := Aside0.mk hrm
    clear hrm h0
    go_wp2_with fail
    obtain ⟨X, hX⟩ : ∃ X, X = W1.heap.size := ⟨_, rfl⟩
    have hX2 := blk_new W1 (Obj.cells #[Value.int IntKind.u8 (rd l 0), Value.int IntKind.u32 0, Value.slice none 0 0] 83)
    have hG2 := blk_alloc HG.out (Obj.cells #[Value.int IntKind.u8 (rd l 0), Value.int IntKind.u32 0, Value.slice none 0 0] 83)
    have hB2 := below_alloc HB.out (Obj.cells #[Value.int IntKind.u8 (rd l 0), Value.int IntKind.u32 0, Value.slice none 0 0] 83)
    have hlt : w.heap.size < X := by rw [hX]; exact blk_lt HG.out
    obtain ⟨W2, hW2⟩ : ∃ W, W = (W1.alloc (Obj.cells #[Value.int IntKind.u8 (rd l 0), Value.int IntKind.u32 0, Value.slice none 0 0] 83)) := ⟨_, rfl⟩
    rw [← hW2] at hX2 hG2 hB2 ⊢
    rw [← hX] at hX2 ⊢
    have HLT := Aside0.mk hlt
    clear hX hW2 hlt HG HB
    go_loopg [5] 4 (fun kq v5 w' => ∃ (i : Nat) (id : Int), v5 = .int .i64 i ∧ w'.heap[X]? = some (.cells #[.int .u8 (rd l 0), .int .u32 id, .slice none 0 0] 83 (0, 0)) ∧ Aside0 (1 ≤ i ∧ i ≤ 5 ∧ kq = 5 - i ∧ id = toldL ((l.take i).drop 1) ∧ w'.heap[w.heap.size]? = some (.cells #[.int .u8 0, .int .u32 0, .slice none 0 0] 83 (0, 0)) ∧ Below w.heap.size w w'))
    case atStart => exact ⟨1, 0, rfl, hX2, ⟨by omega, by omega, by omega, by rw [List.drop_eq_nil_of_le (by rw [List.length_take]; omega)]; rfl, hG2, hB2⟩⟩
    case round =>
      obtain ⟨i, id, rfl, hx, HI⟩ := hrel
      have hi1 : i ≤ 5 := HI.out.2.1
      have hil : i < l.length := by omega
      have hil2 : (i : Int) < (l.length : Int) := by omega
      have x1 := blk_cell hx 1; have fx := blk_frozen hx 1
      simp only [List.getElem?_toArray, List.getElem?_cons_zero, List.getElem?_cons_succ] at x1
      by_cases hi : i < 5
      · have hd : decide ((i : Int) < 5) = true := decide_eq_true (by omega)
        go_wp2
        go_region
        obtain ⟨i1, i2, i3, i4, i5, i6⟩ := HI.out
        have hpb : Bytes ((l.take i).drop 1) := bytes_part HL.out i 1
        have hplen : ((l.take i).drop 1).length = i - 1 := by rw [List.length_drop, List.length_take]; omega
        have hid0 : 0 ≤ id := by rw [i4]; exact told_nonneg _ hpb 0 (by omega)
        have hid1 : id < 16777216 := by rw [i4]; exact told_lt3 _ hpb (by omega)
        obtain ⟨c0, c1⟩ := HL.out _ (rd_in l i hil)
        have enew : Go.bits .or .u32 (id * 256 % 4294967296) (rd l i % 4294967296) = id * 256 + rd l i := or_low32 id (rd l i) hid0 hid1 c0 c1
        rw [enew]
        have hstep : id * 256 + rd l i = toldL ((l.take (i + 1)).drop 1) := by
          rw [rd_take l i hil, List.drop_append_of_le_length (by rw [List.length_take]; omega), i4]
          unfold toldL; rw [List.foldl_append]; rfl
        have HI2 := Aside0.mk (And.intro i5 i6); have HST := Aside0.mk hstep
        clear i5 i6 i4 hstep HI hpb hplen enew x1 fx
        go_wp2
        go_roundg (5 - (i + 1))
        case measure => omega
        case rel =>
          obtain ⟨i5, i6⟩ := HI2.out
          refine ⟨i + 1, _, by first | rfl | simp, blk_set hx 1 _, ⟨by omega, by omega, by omega, HST.out, blk_far i5 (by have := HLT.out; simp; omega) _, (below_set i6 (Nat.le_of_lt HLT.out)).drew⟩⟩
      · obtain ⟨i1, i2, i3, i4, i5, i6⟩ := HI.out
        obtain rfl : i = 5 := by omega
        have hd : decide (((5 : Nat) : Int) < 5) = false := rfl
        have HI2 := Aside0.mk (And.intro i4 (And.intro i5 i6))
        clear i4 i5 i6 HI hi hi1
        have d5 : 0 ≤ rd l 5 ∧ rd l 5 < 256 := HL.out _ (rd_in l 5 p5)
        have d6 : 0 ≤ rd l 6 ∧ rd l 6 < 256 := HL.out _ (rd_in l 6 p6)
        obtain ⟨N, hN⟩ : ∃ N : Nat, 256 * rd l 5 + rd l 6 = (N : Int) := ⟨(256 * rd l 5 + rd l 6).toNat, by have := d5; have := d6; omega⟩
        have hNt : (N : Int) = toldL ((l.take 7).drop 5) := by
          have e : (l.take 7).drop 5 = [rd l 5, rd l 6] := by
            rw [show l.take 7 = l.take 6 ++ [rd l 6] from rd_take l 6 p6, show l.take 6 = l.take 5 ++ [rd l 5] from rd_take l 5 p5, List.append_assoc, List.drop_append_of_le_length (by rw [List.length_take]; omega), List.drop_eq_nil_of_le (by rw [List.length_take]; omega)]; rfl
          rw [e, ← hN]; simp [toldL]; omega
        have hN2 : N < 65536 := by obtain ⟨_, _⟩ := d5; obtain ⟨_, _⟩ := d6; clear hNt; omega
        obtain ⟨dl5, du5⟩ := d5
        obtain ⟨dl6, du6⟩ := d6
        have HNT := Aside0.mk hNt; have HN := Aside0.mk hN
        clear hNt hN
        go_wp2
        go_quiet (fail)
        have hN := HN.out
        try simp only [hN]
        have HXw := blk_drewN hx nq
        obtain ⟨ei, hGw, hBw⟩ := HI2.out
        have hGw := blk_drewN hGw nq
        have hBw := pw_below_drewN hBw nq
        obtain ⟨W3, hW3⟩ : ∃ W, W = wr.drewN nq := ⟨_, rfl⟩
        rw [← hW3] at HXw hGw hBw ⊢
        have HX := Aside0.mk HXw; have HG := Aside0.mk hGw; have HB := Aside0.mk hBw; have HEI := Aside0.mk ei
        clear hW3 HXw hGw hBw HI2 hx x1 fx hN HN dl5 du5 dl6 du6 hd hil hil2 i1 i2 i3 ei
        go_wp2_with fail
        refine (klaxonref03_Room.calls kr _ _ _ HR.out).mono ?_
        rintro e w4 ⟨rfl, ⟨n4, rfl⟩⟩
        obtain ⟨W4, hW4⟩ : ∃ W, W = W3.drewN n4 := ⟨_, rfl⟩
        have HX := Aside0.mk (hW4 ▸ blk_drewN HX.out n4); have HG := Aside0.mk (hW4 ▸ blk_drewN HG.out n4); have HB := Aside0.mk (hW4 ▸ pw_below_drewN HB.out n4)
        rw [← hW4]
        clear hW4
        by_cases hnr : room (l.length : Int) < (N : Int)
        · have hd : decide (room (l.length : Int) < (N : Int)) = true := decide_eq_true hnr
          have hgp : getP l = (0, 0, [], 30) := by
            have h0 : ¬ room (l.length : Int) = 0 := by have := HRM.out; omega
            unfold getP; rw [if_neg h0, if_pos (by rw [← HNT.out]; exact hnr)]
          have g0 := blk_cell HG.out 0; have g1 := blk_cell HG.out 1; have g2 := blk_cell HG.out 2; have f0 := blk_frozen HG.out 0; have f1 := blk_frozen HG.out 1; have f2 := blk_frozen HG.out 2
          simp only [List.getElem?_toArray, List.getElem?_cons_zero, List.getElem?_cons_succ] at g0 g1 g2
          have HGP := Aside0.mk hgp
          clear hgp hnr
          go_wp2_with fail
          refine bodyPost_ret (by exact results_ct rfl _ _ w.heap.size 83 #[.int .u8 0, .int .u32 0, .slice none 0 0] (0, 0) _ rfl (three_put HG.out _ _ _) Try.underlying83 rfl (by kernel_rfl)) rfl ?_
          exact ⟨0, 0, 30, [], none, 0, rfl, HGP.out, ⟨rfl, by decide, fun h => absurd h (by decide)⟩, Nat.le_refl _, (fun ad e => by cases e), three_below HB.out (Nat.le_refl _) _ _ _⟩
        · have hd : decide (room (l.length : Int) < (N : Int)) = false := decide_eq_false hnr
          have hnl : (7 : Int) + (N : Int) ≤ (l.length : Int) := by have := HRM.out; omega
          obtain ⟨L, hL⟩ : ∃ L, L = (l.take (7 + N)).drop 7 := ⟨_, rfl⟩
          have hLl : L.length = N := by rw [hL, List.length_drop, List.length_take]; omega
          have hsl : ∀ W : World, (Instr.slice 9 (.string S) (some (.int .i64 7)) (some (.int .i64 (7 + (N : Int)))) none).run Try.prog W = .ok (.string (strOfNums L)) W := by
            intro W
            have := slice_str l 7 (7 + N) (by omega) (by omega) W
            rw [← HS.out, ← hL] at this
            rw [show ((7 + N : Nat) : Int) = 7 + (N : Int) by omega] at this
            exact this
          have hext : S.extract 7 (7 + N) = strOfNums L := by
            have := hsl w
            rw [run_slice_string_if _ _ _ _ _ _ _ Try.underlying9, if_pos ⟨by omega, by omega⟩, if_pos ⟨by omega, by omega⟩] at this
            injection this with this
            injection this
          obtain ⟨WB, cap, hWB, hcap, hrd, hbw⟩ : ∃ (WB : World) (cap : Nat), (convert 9 33 (.string (strOfNums L))).run Try.prog W4 = .ok (.slice (some ⟨W4.heap.size, 0, none⟩) L.length cap) WB ∧ L.length ≤ cap ∧ Kd.C (Kd.int .u8) WB (some ⟨W4.heap.size, 0, none⟩) L.length L ∧ Below W4.heap.size W4 WB := by
            have h1 := print_bytes (P := Try.prog) 9 33 5 Try.underlying9 Try.underlying33 Try.underlying5 (strOfNums L) W4
            have h2 := bytes_reads W4 5 (strOfNums L) (by rw [strOfNums_size]; omega)
            have hbL : Bytes L := by rw [hL]; exact bytes_part HL.out _ _
            rw [strOfNums_size] at h1 h2
            rw [bytesOf_str L hbL] at h2
            exact ⟨_, _, h1, grownCap_ge _ _ _ _, Kd.C_of_reads (h1 := fun _ => rfl) h2, bytes_below (Below.refl _ _) (Nat.le_refl _) 5 _⟩
          have hx := blk_below HX.out hbw
          have x0 := blk_cell hx 0; have x1 := blk_cell hx 1; have x2 := blk_cell hx 2; have fx := blk_frozen hx 2
          simp only [List.getElem?_toArray, List.getElem?_cons_zero, List.getElem?_cons_succ] at x0 x1 x2
          have hx2 := blk_put hx 2 (.slice (some ⟨W4.heap.size, 0, none⟩) L.length cap) rfl
          have HB2 := Aside0.mk (below_set (below_step HB.out hbw) (Nat.le_of_lt HLT.out) (j := 2) (v := .slice (some ⟨W4.heap.size, 0, none⟩) L.length cap))
          have hXlt : X < W4.heap.size := blk_lt HX.out
          have HX2 := Aside0.mk hx2; have HG2 := Aside0.mk (blk_far (blk_below HG.out hbw) (p := ⟨X, 2, none⟩) (by have := HLT.out; simp; omega) (.slice (some ⟨W4.heap.size, 0, none⟩) L.length cap))
          have HRD := Aside0.mk hrd
          have HBW := Aside0.mk hbw; have HL0 := Aside0.mk hL; have HCAP := Aside0.mk hcap; have HLl := Aside0.mk hLl; have HNL := Aside0.mk hnl; have HNR := Aside0.mk hnr
          have hnl2 : (7 : Int) ≤ 7 + (N : Int) := by omega
          clear hx hx2 hbw hrd hL hcap hLl hnr
          go_wp2_with fail
          have hbl : Bytes L := by rw [HL0.out]; exact bytes_part HL.out _ _
          have hk0 : 0 ≤ rd l 0 ∧ rd l 0 < 256 := HL.out _ (rd_in l 0 p0)
          have hid : 0 ≤ id ∧ id < 4294967296 := by rw [HEI.out]; exact told_lt4 _ (bytes_part HL.out _ _) (by rw [List.length_drop, List.length_take]; omega)
          obtain ⟨kp, hp⟩ := Ev.at_ (rput_ev l.length (rd l 0) id L hk0 hid hbl (by omega))
          have hcp : Kd.C (Kd.int .u8) (WB.setCell ⟨X, 2, none⟩ (.slice (some ⟨W4.heap.size, 0, none⟩) L.length cap)) (some ⟨W4.heap.size, 0, none⟩) L.length L :=
            Kd.C_foot_neS (S := fun k => k = X) (fun h => h) HRD.out (fun ad e _ h => by injection e with e; subst e; dsimp only at h; omega) _ (Kept.setCell (S := fun k => k = X) (Kept.refl WB _) (p := ⟨X, 2, none⟩) (.inl rfl) _)
          refine (klaxonref03_Put.calls kp l.length (rd l 0) id _ cap L _ _ _ hcp HCAP.out hp).mono ?_
          rintro e w5 ⟨rfl, hb5⟩
          have hx := blk_below HX2.out hb5
          have x0 := blk_cell hx 0; have x1 := blk_cell hx 1; have x2 := blk_cell hx 2
          have hg := blk_below HG2.out hb5
          have g0 := blk_cell hg 0; have g1 := blk_cell hg 1; have g2 := blk_cell hg 2; have f0 := blk_frozen hg 0; have f1 := blk_frozen hg 1; have f2 := blk_frozen hg 2
          simp only [List.getElem?_toArray, List.getElem?_cons_zero, List.getElem?_cons_succ] at x0 x1 x2 g0 g1 g2
          have HB5 := Aside0.mk (below_step HB2.out hb5); have HG5 := Aside0.mk hg; have HC5 := Aside0.mk (Kd.C_below hcp hb5)
          have HBL := Aside0.mk hbl; have HK0 := Aside0.mk hk0; have HID := Aside0.mk hid
          have hgp : getP l = if putE l.length (rd l 0) L = 0 ∧ putB l.length (rd l 0) id L = l then (rd l 0, id, L, 0) else (0, 0, [], 30) := by
            have h0 : ¬ room (l.length : Int) = 0 := by have := HRM.out; omega
            have e7 : (7 + (N : Int)).toNat = 7 + N := by omega
            unfold getP
            rw [if_neg h0, if_neg (by rw [← HNT.out]; have := HNR.out; omega), ← HNT.out, e7, ← HL0.out, ← HEI.out]
          have HGP := Aside0.mk hgp
          have hput : putF l.length (rd l 0) id L = (if putE l.length (rd l 0) L = 0 then putB l.length (rd l 0) id L else [], putE l.length (rd l 0) L) := by unfold putF; rw [Int.toNat_natCast]
          rw [hput]
          clear hx hg hgp hbl hk0 hid hcp hp hb5 hput
          by_cases he : putE l.length (rd l 0) L = 0
          · rw [he, if_pos rfl]
            have e0 : ((0 : Int) != 0) = false := rfl
            have hpb : Bytes (putB l.length (rd l 0) id L) := putB_bytes _ _ _ _ (by obtain ⟨r1, r2, r4, r3⟩ := putE_zero he; omega) HK0.out HBL.out
            have hcmp : ((strOfNums (putB l.length (rd l 0) id L)).toList == S.toList) = decide (putB l.length (rd l 0) id L = l) := by rw [HS.out]; exact strOf_inj _ _ hpb HL.out
            by_cases hq : putB l.length (rd l 0) id L = l
            · rw [decide_eq_true hq] at hcmp
              have hgp := HGP.out
              rw [if_pos ⟨he, hq⟩] at hgp
              have HGP := Aside0.mk hgp
              clear hgp hpb he hq
              have HW4 := Aside0.mk hXlt
              go_wp2_with fail
              refine bodyPost_ret (by exact results_ct rfl _ _ w.heap.size 83 #[.int .u8 (rd l 0), .int .u32 id, .slice (some ⟨W4.heap.size, 0, none⟩) L.length cap] (0, 0) _ rfl (three_put HG5.out _ _ _) Try.underlying83 rfl (by kernel_rfl)) rfl ?_
              refine ⟨rd l 0, id, 0, L, some ⟨W4.heap.size, 0, none⟩, cap, rfl, HGP.out, ?_, HCAP.out, (fun ad e => by injection e with e; subst e; dsimp only; have := HLT.out; have := HW4.out; omega), three_below HB5.out (Nat.le_refl _) _ _ _⟩
              exact Kd.C_foot_neS (S := fun k => k = w.heap.size) (fun h => h) HC5.out (fun ad e _ h => by injection e with e; subst e; dsimp only at h; have := HLT.out; have := HW4.out; omega) _ (Kept.setCell (S := fun k => k = w.heap.size) (Kept.setCell (S := fun k => k = w.heap.size) (Kept.setCell (S := fun k => k = w.heap.size) (Kept.refl _ _) (p := ⟨w.heap.size, 0, none⟩) (.inl rfl) _) (p := ⟨w.heap.size, 1, none⟩) (.inl rfl) _) (p := ⟨w.heap.size, 2, none⟩) (.inl rfl) _)
            · rw [decide_eq_false hq] at hcmp
              have hgp := HGP.out
              rw [if_neg (by rintro ⟨_, h⟩; exact hq h)] at hgp
              have HGP := Aside0.mk hgp
              clear hgp hpb he hq
              go_wp2_with fail
              refine bodyPost_ret (by exact results_ct rfl _ _ w.heap.size 83 #[.int .u8 0, .int .u32 0, .slice none 0 0] (0, 0) _ rfl (three_put HG5.out _ _ _) Try.underlying83 rfl (by kernel_rfl)) rfl ?_
              exact ⟨0, 0, 30, [], none, 0, rfl, HGP.out, ⟨rfl, by decide, fun h => absurd h (by decide)⟩, Nat.le_refl _, (fun ad e => by cases e), three_below HB5.out (Nat.le_refl _) _ _ _⟩
          · rw [if_neg he]
            have e0 : (putE l.length (rd l 0) L != 0) = true := bne_iff_ne.mpr he
            have hgp := HGP.out
            rw [if_neg (by rintro ⟨h, _⟩; exact he h)] at hgp
            have HGP := Aside0.mk hgp
            clear hgp he
            go_wp2_with fail
            refine bodyPost_ret (by exact results_ct rfl _ _ w.heap.size 83 #[.int .u8 0, .int .u32 0, .slice none 0 0] (0, 0) _ rfl (three_put HG5.out _ _ _) Try.underlying83 rfl (by kernel_rfl)) rfl ?_
            exact ⟨0, 0, 30, [], none, 0, rfl, HGP.out, ⟨rfl, by decide, fun h => absurd h (by decide)⟩, Nat.le_refl _, (fun ad e => by cases e), three_below HB5.out (Nat.le_refl _) _ _ _⟩
theorem getP_bytes (l : List Int) (hl : Bytes l) {y1 y2 y4 : Int} {y3 : List Int} (h : getP l = (y1, y2, y3, y4)) : Bytes y3 := by
  unfold getP at h
  split at h
  · simp only [Prod.mk.injEq] at h; rw [← h.2.2.1]; exact fun x hx => by simp at hx
  · split at h
    · simp only [Prod.mk.injEq] at h; rw [← h.2.2.1]; exact fun x hx => by simp at hx
    · split at h
      · simp only [Prod.mk.injEq] at h; rw [← h.2.2.1]; exact bytes_part hl _ _
      · simp only [Prod.mk.injEq] at h; rw [← h.2.2.1]; exact fun x hx => by simp at hx
end Back
open Back
theorem rput3_calls (A : Option Addr) (c : Nat) (s kind id : Int) (L : List Int) (w : World) (hr : Kd.C (Kd.int .u8) w A L.length L) (hc : L.length ≤ c) (hk : 0 ≤ kind ∧ kind < 256) (hi : 0 ≤ id ∧ id < 4294967296) (hL : Bytes L) (hs : -9223372036854775808 ≤ s ∧ s ≤ 9223372036854775807) :
    Calls Try.prog 82 #[.int .i64 s, .agg #[.int .u8 kind, .int .u32 id, .slice A L.length c]] w fun e w' => e = .returned (.tuple #[.string (strOfNums (putF s kind id L).1), .int .i64 (putF s kind id L).2]) ∧ Below w.heap.size w w' := by
  obtain ⟨n, hn⟩ := Ev.at_ (rput_ev s kind id L hk hi hL hs)
  exact klaxonref03_Put.calls n s kind id A c L _ _ w hr hc hn
theorem pget3_calls (A : Option Addr) (c : Nat) (l : List Int) (w : World) (hr : Kd.C (Kd.int .u8) w A l.length l) (hc : l.length ≤ c) (hl : Bytes l) (hs : l.length < 1000000) :
    Calls Try.prog 78 #[.slice A l.length c] w fun e w' => ∃ (y1 y2 y4 : Int) (y3 : List Int) (v : Value), e = .returned (.tuple #[.agg #[.int .u8 y1, .int .u32 y2, v], .int .i64 y4]) ∧ getP l = (y1, y2, y3, y4) ∧ Kd.R (Kd.int .u8) 5 w' w.heap.size (fun _ => True) v y3 ∧ Below w.heap.size w w' := by
  obtain ⟨n, hn⟩ := Ev.at_ (get_ev l hl (by omega))
  obtain ⟨y1, y2, y3, y4, hy⟩ : ∃ y1 y2 y3 y4, getP l = (y1, y2, y3, y4) := ⟨_, _, _, _, rfl⟩
  rw [hy] at hn
  refine (page_Get.calls n A c l y1 y2 y3 y4 w hr hc hn).mono ?_
  rintro e w' ⟨v, he, hR, hb⟩
  exact ⟨y1, y2, y4, y3, v, he, hy, hR, hb⟩
theorem same3_calls (k1 i1 : Int) (A1 : Option Addr) (c1 : Nat) (L1 : List Int) (k2 i2 : Int) (A2 : Option Addr) (c2 : Nat) (L2 : List Int) (w : World) (hr1 : Kd.C (Kd.int .u8) w A1 L1.length L1) (hc1 : L1.length ≤ c1) (hr2 : Kd.C (Kd.int .u8) w A2 L2.length L2) (hc2 : L2.length ≤ c2) (h1 : Bytes L1) (h2 : Bytes L2) :
    Calls Try.prog 53 #[.agg #[.int .u8 k1, .int .u32 i1, .slice A1 L1.length c1], .agg #[.int .u8 k2, .int .u32 i2, .slice A2 L2.length c2]] w fun e w' => e = .returned (.bool (decide (k1 = k2 ∧ i1 = i2 ∧ L1 = L2))) ∧ Below w.heap.size w w' :=
  klaxonref03_Same.calls k1 i1 A1 c1 L1 k2 i2 A2 c2 L2 _ w hr1 hc1 hr2 hc2 (same_eq k1 i1 k2 i2 L1 L2 h1 h2)
theorem num3_calls (a : Int) (w : World) : Calls Try.prog 46 #[.int .i64 a] w fun e w' => e = .returned (.int .i64 a) ∧ Drawn0 w w' :=
  (klaxonlaw03_num.calls a a w rfl).mono fun e w' h => h
theorem live3_calls (w : World) : Calls Try.prog 45 #[] w fun e w' => e = .returned (.bool true) ∧ Below w.heap.size w w' := klaxonlaw03_live.calls true w rfl
end Go.Proofs.YteimienhaodfcaaK.PgB
