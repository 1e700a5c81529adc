/- The pure statement of the law klaxonlaw03.PageTurned: plain Lean over the printed functions. -/
import Derived.Test.YtndeagphchnokaaSPageTurned
import Derived.Test.YtndeagphchnokaaKEv
namespace Go.Proofs.Ytndeagphchnokaa.Pure
open Go.RowKit Go.Crc Go.Proofs.YtndeagphchnokaaW.PrintWords Go.Proofs.YtndeagphchnokaaW.PrintLast Go.Proofs.Ytndeagphchnokaa.PPage Go.Proofs.YtndeagphchnokaaK
set_option linter.unusedVariables false
set_option linter.unusedSimpArgs false
theorem live_ev : Ev (fun _ => (klaxonlaw03_live.f).bind fun t => some t) true := Ev.now _
theorem room_ev (s : Int) (h0 : -9223372036854775808 ≤ s) (h1 : s ≤ 9223372036854775807) : Ev (fun k => page_Room.f k s) (room s) := by
  unfold page_Room.f room
  have j0t : Ev (fun k => page_Room.j0 k s true) (0 : Int) := Ev.step (fun k => by rw [page_Room.j0]) (Ev.pos_ rfl (Ev.now _))
  by_cases h : s < 64
  · rw [if_pos (Or.inl h)]
    exact Ev.pos_ h j0t
  · refine Ev.neg_ h ?_
    by_cases h2 : 8192 < s
    · rw [if_pos (Or.inr h2), decide_eq_true h2]; exact j0t
    · rw [if_neg (by omega), decide_eq_false h2]
      have e : wrap64 (s - 11) = s - 11 := wrap64_id (by omega) (by omega)
      have := Ev.now (some (s - 11)) 
      exact Ev.step (fun k => by rw [page_Room.j0, e]) (Ev.neg_ (by decide) (Ev.now _))
theorem wf_i64 {y : Int} (h : (Lit.int .i64 y).wf = true) : -9223372036854775808 ≤ y ∧ y ≤ 9223372036854775807 := by
  simp [Lit.wf, IntKind.min, IntKind.max, IntKind.bits, IntKind.signed] at h; omega
theorem wf_u8 {y : Int} (h : (Lit.int .u8 y).wf = true) : 0 ≤ y ∧ y < 256 := by
  simp [Lit.wf, IntKind.min, IntKind.max, IntKind.bits, IntKind.signed] at h; omega
theorem wf_u32 {y : Int} (h : (Lit.int .u32 y).wf = true) : 0 ≤ y ∧ y < 4294967296 := by
  simp [Lit.wf, IntKind.min, IntKind.max, IntKind.bits, IntKind.signed] at h; omega
theorem put_eq {s kind id : Int} {L : List Int} (hk : 0 ≤ kind ∧ kind < 256) (hi : 0 ≤ id ∧ id < 4294967296) (hL : Bytes L) : page_Put.f s kind id L = some (putF s kind id L) := by
  unfold page_Put.f; rw [if_pos ⟨hk.1, hk.2, hi.1, hi.2, bytesB_of hL⟩]
/-- A page's first seven bytes. -/
def headL (kind id : Int) (n : Nat) : List Int := kind :: (be 4 id ++ be 2 n)
theorem headL_length (kind id : Int) (n : Nat) : (headL kind id n).length = 7 := rfl
/-- A page's bytes but the sum. -/
def bodyL (s : Nat) (kind id : Int) (L : List Int) : List Int := headL kind id L.length ++ (L ++ zeros (s - 11 - L.length))
theorem bodyL_length (s : Nat) (kind id : Int) (L : List Int) (h : 11 + L.length ≤ s) : (bodyL s kind id L).length = s - 4 := by
  unfold bodyL; rw [List.length_append, List.length_append, headL_length, zeros, List.length_replicate]; omega
theorem putHead_shape (m : Nat) (kind id : Int) (L : List Int) : putHead (m + 7) kind id L = headL kind id L.length ++ zeros m := by
  simp [putHead, layL, be, zeros, List.replicate_succ, headL]
theorem putBody_shape (s : Nat) (kind id : Int) (L : List Int) (h : 11 + L.length ≤ s) : putBody s kind id L = bodyL s kind id L ++ zeros 4 := by
  obtain ⟨m, rfl⟩ : ∃ m, s = m + 7 := ⟨s - 7, by omega⟩
  have hd : (headL kind id L.length ++ zeros m).drop (7 + L.length) = zeros (m - L.length) := by
    rw [← List.drop_drop, List.drop_left' (headL_length _ _ _), zeros, List.drop_replicate]; rfl
  have hz : zeros (m - L.length) = zeros (m + 7 - 11 - L.length) ++ zeros 4 := by
    unfold zeros; rw [List.replicate_append_replicate]; congr 1; omega
  unfold putBody
  rw [putHead_shape, List.take_left' (headL_length _ _ _), hd, hz]
  unfold bodyL
  simp only [List.append_assoc]
theorem putB_shape (s : Nat) (kind id : Int) (L : List Int) (h : 11 + L.length ≤ s) : putB s kind id L = bodyL s kind id L ++ be 4 (crc (bodyL s kind id L)) := by
  have hl := bodyL_length s kind id L h
  unfold putB layL
  rw [putBody_shape s kind id L h, List.take_left' hl]
  have : (bodyL s kind id L ++ zeros 4).drop (s - 4 + 4) = [] := by
    refine List.drop_eq_nil_of_le ?_
    rw [List.length_append, hl, zeros, List.length_replicate]
    exact Nat.le_refl _
  rw [this, List.append_nil]
/-- The number of bytes. -/
def toldL (l : List Int) : Int := l.foldl (fun n c => n * 256 + c) 0
theorem or_low (n c : Int) (h0 : 0 ≤ n) (h1 : n < 72057594037927936) (hc : 0 ≤ c) (hc2 : c < 256) : Go.bits .or .u64 (IntKind.u64.wrap (n * 256)) (IntKind.u64.wrap c) = n * 256 + c := by
  have e1 : IntKind.u64.wrap (n * 256) = n * 256 := by rw [IntKind.wrap_u64]; omega
  have e2 : IntKind.u64.wrap c = c := by rw [IntKind.wrap_u64]; omega
  rw [e1, e2]
  have := u64_or_nat (n.toNat * 256) c.toNat (by omega) (by omega)
  have e3 : ((n.toNat * 256 : Nat) : Int) = n * 256 := by omega
  have e4 : ((c.toNat : Nat) : Int) = c := by omega
  rw [e3, e4] at this
  rw [this]
  have h := Nat.two_pow_add_eq_or_of_lt (i := 8) (b := c.toNat) (by omega) n.toNat
  have e5 : n.toNat * 256 = 2 ^ 8 * n.toNat := by omega
  rw [e5, ← h]
  omega
theorem told_loop (l : List Int) (hl : Bytes l) (h4 : l.length ≤ 7) (d : Nat) : ∀ (i : Nat), l.length - i = d → i ≤ l.length → 0 ≤ toldL (l.take i) ∧ toldL (l.take i) < 256 ^ i → Ev (fun k => page_told.l0 k (toldL (l.take i)) l (l.length : Int) i) (toldL l) := by
  induction d with
  | zero =>
    intro i hd hi _
    have e : l.take i = l := List.take_of_length_le (by omega)
    rw [e]
    exact Ev.step (fun k => by rw [page_told.l0]) (Ev.neg_ (by omega) (Ev.now _))
  | succ d ih =>
    intro i hd hi ⟨h0, h1⟩
    have hlt : i < l.length := by omega
    obtain ⟨b0, b1⟩ := hl _ (rd_in l i hlt)
    have hpn : 256 ^ i ≤ 256 ^ 6 := Nat.pow_le_pow_right (n := 256) (by decide) (by omega)
    have hp : (256 : Int) ^ i ≤ 256 ^ 6 := by have : (((256 ^ i : Nat)) : Int) ≤ ((256 ^ 6 : Nat) : Int) := by omega
                                              simpa [Int.natCast_pow] using this
    have e : toldL (l.take (i + 1)) = toldL (l.take i) * 256 + rd l i := by rw [rd_take l i hlt, toldL, List.foldl_append]; rfl
    refine Ev.step (fun k => by rw [page_told.l0]) (Ev.pos_ (by omega) (Ev.pos_ (by omega) (Ev.pos_ (by omega) ?_)))
    rw [or_low _ _ h0 (by omega) b0 b1, ← e, wrap64_id (by omega) (by omega), show ((i : Int) + 1) = ((i + 1 : Nat) : Int) by omega]
    refine ih (i + 1) (by omega) (by omega) ?_
    rw [e, Int.pow_succ]; omega
theorem told_ev (l : List Int) (hl : Bytes l) (h4 : l.length ≤ 7) : Ev (fun k => page_told.f k l) (toldL l) :=
  told_loop l hl h4 l.length 0 rfl (by omega) (by simp [toldL])
theorem told_be2 (v : Int) (h0 : 0 ≤ v) (h1 : v < 65536) : toldL (be 2 v) = v := by simp [toldL, be]; omega
theorem told_be4 (v : Int) (h0 : 0 ≤ v) (h1 : v < 4294967296) : toldL (be 4 v) = v := by simp [toldL, be]; omega
theorem told_nonneg (l : List Int) (hl : Bytes l) : ∀ n : Int, 0 ≤ n → 0 ≤ l.foldl (fun n c => n * 256 + c) n := by
  induction l with
  | nil => intro n h; exact h
  | cons a t ih => intro n h; exact ih (fun x hx => hl x (by simp [hx])) (n * 256 + a) (by have := (hl a (by simp)).1; omega)
theorem told_lt (l : List Int) (hl : Bytes l) : ∀ n : Int, 0 ≤ n → l.foldl (fun n c => n * 256 + c) n < (n + 1) * 256 ^ l.length := by
  induction l with
  | nil => intro n h; simp; omega
  | cons a t ih =>
    intro n h
    have ha := hl a (by simp)
    have := ih (fun x hx => hl x (by simp [hx])) (n * 256 + a) (by omega)
    have hp : (0 : Int) < 256 ^ t.length := Int.pow_pos (by decide)
    have hm : (n * 256 + a + 1) * 256 ^ t.length ≤ (n * 256 + 256) * 256 ^ t.length := Int.mul_le_mul_of_nonneg_right (by omega) (by omega)
    have e : (n + 1) * (256 : Int) ^ (a :: t).length = (n * 256 + 256) * 256 ^ t.length := by
      rw [List.length_cons, Int.pow_succ, Int.mul_comm (256 ^ t.length) 256, ← Int.mul_assoc, Int.add_mul]; rfl
    rw [e]
    exact Int.lt_of_lt_of_le this hm
theorem told_lt4 (l : List Int) (hl : Bytes l) (h4 : l.length ≤ 4) : 0 ≤ toldL l ∧ toldL l < 4294967296 := by
  refine ⟨told_nonneg l hl 0 (by omega), ?_⟩
  have h := told_lt l hl 0 (by omega)
  have hpn : 256 ^ l.length ≤ 256 ^ 4 := Nat.pow_le_pow_right (n := 256) (by decide) h4
  have hp : (256 : Int) ^ l.length ≤ 256 ^ 4 := by
    have : (((256 ^ l.length : Nat)) : Int) ≤ ((256 ^ 4 : Nat) : Int) := by omega
    simpa [Int.natCast_pow] using this
  show toldL l < 256 ^ 4
  unfold toldL
  omega
theorem equal_loop (a b : List Int) (hab : a.length = b.length) (hs : a.length < 1000000000) (d : Nat) : ∀ (i : Nat), a.length - i = d → i ≤ a.length → a.take i = b.take i → Ev (fun k => slices_Equal_byte_byte.l0 k a b (a.length : Int) i) (decide (a = b)) := by
  induction d with
  | zero =>
    intro i hd hi h
    have e : a = b := by rwa [List.take_of_length_le (by omega), List.take_of_length_le (by omega)] at h
    rw [decide_eq_true e]
    exact Ev.step (fun k => by rw [slices_Equal_byte_byte.l0]) (Ev.neg_ (by omega) (Ev.now _))
  | succ d ih =>
    intro i hd hi h
    refine Ev.step (fun k => by rw [slices_Equal_byte_byte.l0]) (Ev.pos_ (by omega) (Ev.pos_ (by omega) (Ev.pos_ (by omega) (Ev.pos_ (by omega) ?_))))
    refine Ev.ite_ (fun e => ?_) (fun e => ?_)
    · rw [wrap64_id (by omega) (by omega), show ((i : Int) + 1) = ((i + 1 : Nat) : Int) by omega]
      exact ih (i + 1) (by omega) (by omega) (by rw [rd_take a i (by omega), rd_take b i (by omega), h, e])
    · have : ¬ a = b := fun h2 => e (by rw [h2])
      rw [decide_eq_false this]
      exact Ev.now _
theorem equal_ev (a b : List Int) (hs : a.length < 1000000000) : Ev (fun k => slices_Equal_byte_byte.f k a b) (decide (a = b)) := by
  unfold slices_Equal_byte_byte.f
  refine Ev.ite_ (fun h => ?_) (fun h => ?_)
  · exact equal_loop a b (by omega) hs a.length 0 rfl (by omega) (by simp)
  · have : ¬ a = b := fun h2 => h (by rw [h2])
    rw [decide_eq_false this]
    exact Ev.now _
/-- A page that is read. -/
def getP (l : List Int) : Int × Int × List Int × Int :=
  if room l.length = 0 then (0, 0, [], 30) else
  if room l.length < toldL ((l.take 7).drop 5) then (0, 0, [], 30) else
  if putE l.length (rd l 0) ((l.take (7 + toldL ((l.take 7).drop 5)).toNat).drop 7) = 0 ∧ putB l.length (rd l 0) (toldL ((l.take 5).drop 1)) ((l.take (7 + toldL ((l.take 7).drop 5)).toNat).drop 7) = l then (rd l 0, toldL ((l.take 5).drop 1), (l.take (7 + toldL ((l.take 7).drop 5)).toNat).drop 7, 0) else (0, 0, [], 30)
theorem bytes_part {l : List Int} (h : Bytes l) (m n : Nat) : Bytes ((l.take m).drop n) := fun x hx => h x (List.mem_of_mem_take (List.mem_of_mem_drop hx))
theorem get_ev (l : List Int) (hl : Bytes l) (hs : l.length < 1000000000) : Ev (fun k => page_Get.f k l) (getP l) := by
  unfold page_Get.f getP
  refine Ev.bind_ (room_ev _ (by omega) (by omega)) ?_
  by_cases h0 : room l.length = 0
  · rw [if_pos h0]; exact Ev.pos_ h0 (Ev.now _)
  rw [if_neg h0]
  have hr : room l.length = (l.length : Int) - 11 ∧ 64 ≤ l.length ∧ l.length ≤ 8192 := by unfold room at h0 ⊢; split at h0 <;> (first | omega | (rw [if_neg (by assumption)]; omega))
  have b1 := told_lt4 _ (bytes_part hl 7 5) (by rw [List.length_drop, List.length_take]; omega)
  have b2 := told_lt4 _ (bytes_part hl 5 1) (by rw [List.length_drop, List.length_take]; omega)
  refine Ev.neg_ h0 (Ev.pos_ (by omega) (Ev.pos_ (by omega) (Ev.bind_ (told_ev _ (bytes_part hl 7 5) (by rw [List.length_drop, List.length_take]; omega)) (Ev.bind_ (room_ev _ (by omega) (by omega)) ?_))))
  generalize toldL ((l.take 7).drop 5) = n at b1 ⊢
  rw [wrap64_id (a := n) (by omega) (by omega)]
  by_cases h1 : room l.length < n
  · rw [if_pos h1]; exact Ev.pos_ h1 (Ev.now _)
  rw [if_neg h1]
  refine Ev.neg_ h1 (Ev.pos_ (by omega) (Ev.pos_ (by omega) (Ev.pos_ (by omega) (Ev.bind_ (told_ev _ (bytes_part hl 5 1) (by rw [List.length_drop, List.length_take]; omega)) ?_))))
  generalize toldL ((l.take 5).drop 1) = id at b2 ⊢
  rw [wrap64_id (a := 7 + n) (by omega) (by omega)]
  refine Ev.pos_ (by omega) (Ev.pos_ (by omega) ?_)
  have hLB := bytes_part hl (7 + n).toNat 7
  have hLl : ((l.take (7 + n).toNat).drop 7).length = n.toNat := by rw [List.length_drop, List.length_take]; omega
  generalize (l.take (7 + n).toNat).drop 7 = L at hLB hLl ⊢
  have hk := hl _ (rd_in l 0 (by omega))
  refine Ev.some_bind (a := L) (by unfold slices_Clone_byte_byte.f; rw [if_pos (by omega)]) ?_
  have hid : id % 4294967296 = id := by omega
  rw [hid]
  refine Ev.some_bind (put_eq (by exact hk) (by omega) hLB) ?_
  have j0t : Ev (fun k => page_Get.j0 k true (rd l 0) id L) ((0 : Int), (0 : Int), ([] : List Int), (30 : Int)) := Ev.step (fun k => by rw [page_Get.j0]) (Ev.pos_ rfl (Ev.now _))
  by_cases h2 : putE l.length (rd l 0) L = 0
  · refine Ev.pos_ h2 ?_
    have e : (putF (l.length : Int) (rd l 0) id L).1 = putB l.length (rd l 0) id L := by unfold putF; rw [if_pos h2]; rfl
    obtain ⟨q1, q2, _, q3⟩ := putE_zero h2
    have hbl := putB_length l.length (rd l 0) id L (by omega)
    rw [e]
    refine Ev.bind_ (equal_ev _ l (by omega)) ?_
    by_cases h3 : putB l.length (rd l 0) id L = l
    · rw [if_pos ⟨h2, h3⟩, decide_eq_true h3]
      exact Ev.step (fun k => by rw [page_Get.j0]) (Ev.neg_ (by decide) (Ev.now _))
    · rw [if_neg (fun h => h3 h.2), decide_eq_false h3]
      exact j0t
  · rw [if_neg (fun h => h2 h.1)]
    exact Ev.neg_ h2 j0t
theorem putB_rd (s : Nat) (kind id : Int) (L : List Int) (h : 11 + L.length ≤ s) : rd (putB s kind id L) 0 = kind := by rw [putB_shape s kind id L h]; rfl
theorem get_put (s : Nat) (kind id : Int) (L : List Int) (hi : 0 ≤ id ∧ id < 4294967296) (he : putE s kind L = 0) : getP (putB s kind id L) = (kind, id, L, 0) := by
  obtain ⟨q1, q2, q4, q3⟩ := putE_zero he
  have hl := putB_length s kind id L (by omega)
  have hsh := putB_shape s kind id L (by omega)
  have e5 : (putB s kind id L).take 7 = headL kind id L.length := by rw [hsh]; unfold bodyL; rw [List.append_assoc]; exact List.take_left' (headL_length _ _ _)
  have e1 : ((putB s kind id L).take 7).drop 5 = be 2 L.length := by rw [e5]; rfl
  have e2 : ((putB s kind id L).take 5).drop 1 = be 4 id := by
    have : (putB s kind id L).take 5 = ((putB s kind id L).take 7).take 5 := by rw [List.take_take]; rfl
    rw [this, e5]; rfl
  have e3 : toldL (be 2 (L.length : Int)) = L.length := told_be2 _ (by omega) (by omega)
  have e4 : toldL (be 4 id) = id := told_be4 _ hi.1 hi.2
  have e6 : ((putB s kind id L).take (7 + (L.length : Int)).toNat).drop 7 = L := by
    rw [show (7 + (L.length : Int)).toNat = 7 + L.length by omega, hsh]
    unfold bodyL
    rw [List.append_assoc, List.append_assoc, List.drop_take, List.drop_left' (headL_length _ _ _)]
    exact List.take_left' (by omega)
  have hrm : ¬ room s = 0 ∧ room s = (s : Int) - 11 := by unfold room; rw [if_neg (by omega)]; omega
  unfold getP
  rw [hl, if_neg hrm.1, e1, e3, if_neg (by omega), e6, e2, e4, putB_rd s kind id L (by omega), if_pos ⟨he, rfl⟩]
/-- All bits. -/
def fb (l : List Int) : List Nat := (nat l).flatMap (bitsOf 8)
theorem fb_append (a b : List Int) : fb (a ++ b) = fb a ++ fb b := by unfold fb nat; rw [List.map_append, List.flatMap_append]
theorem fb_cons (a : Int) (t : List Int) : fb (a :: t) = bitsOf 8 a.toNat ++ fb t := by unfold fb nat; rw [List.map_cons, List.flatMap_cons]
theorem fb_length (l : List Int) : (fb l).length = 8 * l.length := by
  induction l with
  | nil => rfl
  | cons a t ih => rw [fb_cons, List.length_append, bits_length, ih, List.length_cons]; omega
theorem fb_lt (l : List Int) : ∀ b ∈ fb l, b < 2 := flat_lt _
theorem fb_inj (a b : List Int) (ha : Bytes a) (hb : Bytes b) (h : fb a = fb b) : a = b := by
  induction a generalizing b with
  | nil =>
    cases b with
    | nil => rfl
    | cons y t => have := congrArg List.length h; rw [fb_length, fb_length] at this; simp at this
  | cons x s ih =>
    cases b with
    | nil => have := congrArg List.length h; rw [fb_length, fb_length] at this; simp at this
    | cons y t =>
      rw [fb_cons, fb_cons] at h
      obtain ⟨h1, h2⟩ := List.append_inj h (by rw [bits_length, bits_length])
      obtain ⟨x0, x1⟩ := ha x (by simp)
      obtain ⟨y0, y1⟩ := hb y (by simp)
      have e := bits_inj 8 _ _ (by omega) (by omega) h1
      rw [show x = y by omega, ih t (fun z hz => ha z (by simp [hz])) (fun z hz => hb z (by simp [hz])) h2]
theorem flip_byte (c r : Nat) (hc : c < 256) (hr : r < 8) : bitsOf 8 (c ^^^ 2 ^ r) = (bitsOf 8 c).set r (1 - (bitsOf 8 c).getD r 0) ∧ c ^^^ 2 ^ r < 256 := by
  have : ∀ c, c < 256 → ∀ r, r < 8 → bitsOf 8 (c ^^^ 2 ^ r) = (bitsOf 8 c).set r (1 - (bitsOf 8 c).getD r 0) ∧ c ^^^ 2 ^ r < 256 := by decide +kernel
  exact this c hc r hr
/-- A bit is turned. -/
def fl (l : List Int) (p : Nat) : List Int := l.set (p / 8) (((rd l ((p / 8 : Nat) : Int)).toNat ^^^ 2 ^ (p % 8) : Nat) : Int)
theorem fl_length (l : List Int) (p : Nat) : (fl l p).length = l.length := by simp [fl]
theorem fl_bytes (l : List Int) (p : Nat) (hl : Bytes l) (hp : p < 8 * l.length) : Bytes (fl l p) := by
  intro x hx
  rcases List.mem_or_eq_of_mem_set hx with hx | rfl
  · exact hl x hx
  · obtain ⟨h0, h1⟩ := hl _ (rd_in l (p / 8) (by omega))
    have := (flip_byte (rd l ((p / 8 : Nat) : Int)).toNat (p % 8) (by omega) (by omega)).2
    omega
theorem fl_fb (l : List Int) : ∀ (p : Nat), Bytes l → p < 8 * l.length → fb (fl l p) = (fb l).set p (1 - (fb l).getD p 0) := by
  induction l with
  | nil => intro p _ hp; simp at hp
  | cons a t ih =>
    intro p hl hp
    obtain ⟨a0, a1⟩ := hl a (by simp)
    by_cases h8 : p < 8
    · have e1 : p / 8 = 0 := by omega
      have e2 : p % 8 = p := by omega
      have e3 : fl (a :: t) p = ((a.toNat ^^^ 2 ^ p : Nat) : Int) :: t := by unfold fl; rw [e1, e2]; rfl
      obtain ⟨f1, _⟩ := flip_byte a.toNat p (by omega) h8
      rw [e3, fb_cons, fb_cons, Int.toNat_natCast, f1, List.set_append_left _ _ (by rw [bits_length]; exact h8)]
      have : (bitsOf 8 a.toNat ++ fb t).getD p 0 = (bitsOf 8 a.toNat).getD p 0 := by
        simp only [List.getD]; rw [List.getElem?_append_left (by rw [bits_length]; exact h8)]
      rw [this]
    · obtain ⟨q, rfl⟩ : ∃ q, p = q + 8 := ⟨p - 8, by omega⟩
      have e1 : (q + 8) / 8 = q / 8 + 1 := by omega
      have e2 : (q + 8) % 8 = q % 8 := by omega
      have e3 : fl (a :: t) (q + 8) = a :: fl t q := by
        unfold fl
        rw [e1, e2]
        have : rd (a :: t) ((q / 8 + 1 : Nat) : Int) = rd t ((q / 8 : Nat) : Int) := by
          simp only [rd]; rw [show (((q / 8 + 1 : Nat) : Int)).toNat = q / 8 + 1 by omega, show (((q / 8 : Nat) : Int)).toNat = q / 8 by omega]; rfl
        rw [this]; rfl
      rw [e3, fb_cons, fb_cons, ih q (fun z hz => hl z (by simp [hz])) (by rw [List.length_cons] at hp; omega), List.set_append_right _ _ (by rw [bits_length]; omega), bits_length, show q + 8 - 8 = q by omega]
      have : (bitsOf 8 a.toNat ++ fb t).getD (q + 8) 0 = (fb t).getD q 0 := by
        simp only [List.getD]; rw [List.getElem?_append_right (by rw [bits_length]; omega), bits_length, show q + 8 - 8 = q by omega]
      rw [this]
/-- How the turning stands: nothing ahead of 'at', nothing from 'at + k' on. -/
def Turned (B l : List Int) (a k : Nat) (f : Bool) : Prop :=
  l.length = B.length ∧ Bytes l ∧ (fb l).take a = (fb B).take a ∧ (fb l).drop (a + k) = (fb B).drop (a + k) ∧ (f = false → l = B) ∧ (f = true → (fb l).take (a + k) ≠ (fb B).take (a + k))
theorem drop_next {α : Type} {X Y : List α} {n : Nat} (h : X.drop n = Y.drop n) : X.drop (n + 1) = Y.drop (n + 1) := by
  rw [← List.drop_drop, ← List.drop_drop, h]
theorem turned_skip {B l : List Int} {a k : Nat} {f : Bool} (h : Turned B l a k f) : Turned B l a (k + 1) f := by
  obtain ⟨h1, h2, h3, h4, h5, h6⟩ := h
  refine ⟨h1, h2, h3, drop_next h4, h5, fun hf he => h6 hf ?_⟩
  have := congrArg (List.take (a + k)) he
  rwa [List.take_take, List.take_take, Nat.min_eq_left (by omega)] at this
theorem turned_flip {B l : List Int} {a k : Nat} {f : Bool} (h : Turned B l a k f) (hp : a + k < 8 * l.length) : Turned B (fl l (a + k)) a (k + 1) true := by
  obtain ⟨h1, h2, h3, h4, h5, h6⟩ := h
  have hb := fl_fb l (a + k) h2 hp
  have hlen := fb_length l
  have hlenB := fb_length B
  refine ⟨by rw [fl_length, h1], fl_bytes l _ h2 hp, ?_, ?_, (fun hf => by cases hf), fun _ he => ?_⟩
  · rw [hb, List.take_set_of_le (by omega), h3]
  · rw [hb, List.drop_set_of_lt (by omega)]
    exact drop_next h4
  · have e1 : (fb (fl l (a + k)))[a + k]? = (fb B)[a + k]? := by
      have := congrArg (fun L : List Nat => L[a + k]?) he
      rwa [List.getElem?_take_of_lt (by omega), List.getElem?_take_of_lt (by omega)] at this
    have e2 : (fb l)[a + k]? = (fb B)[a + k]? := by
      have := congrArg (fun L : List Nat => L[0]?) h4
      simpa using this
    rw [hb, List.getElem?_set_self (by omega)] at e1
    rw [← e2] at e1
    have hlt : (fb l)[a + k]? = some ((fb l).getD (a + k) 0) := by
      rw [List.getD, List.getElem?_eq_getElem (by omega)]; rfl
    rw [hlt] at e1
    have := Option.some.inj e1
    omega
theorem be4_inj {x y : Int} (hx : 0 ≤ x ∧ x < 4294967296) (hy : 0 ≤ y ∧ y < 4294967296) (h : be 4 x = be 4 y) : x = y := by
  have := congrArg toldL h
  rwa [told_be4 x hx.1 hx.2, told_be4 y hy.1 hy.2] at this
theorem crc_range (l : List Int) : 0 ≤ crc l ∧ crc l < 4294967296 := by
  have := from_lt 4294967295 l (by decide)
  unfold crc; omega
theorem crc_fb (l : List Int) : crc l = (run 4294967295 (fb l) : Nat) := rfl
theorem split3 {α : Type} (X : List α) (a k : Nat) : X = X.take a ++ ((X.drop a).take k ++ X.drop (a + k)) := by
  rw [← List.drop_drop, List.take_append_drop, List.take_append_drop]
theorem crc_turned {X Y : List Int} {a k : Nat} (hl : X.length = Y.length) (h32 : k ≤ 32) (ht : (fb X).take a = (fb Y).take a) (hd : (fb X).drop (a + k) = (fb Y).drop (a + k)) (hc : crc X = crc Y) : fb X = fb Y := by
  have h : run 4294967295 (fb X) = run 4294967295 (fb Y) := by rw [crc_fb, crc_fb] at hc; omega
  have lX := fb_length X
  have lY := fb_length Y
  have hs : ((fb X).drop a).take k = ((fb Y).drop a).take k := by
    refine burst ((fb X).take a) _ _ ((fb X).drop (a + k)) (fun b hb => fb_lt X b (List.mem_of_mem_take hb)) (fun b hb => fb_lt X b (List.mem_of_mem_drop hb)) ?_ ?_ (fun b hb => fb_lt X b (List.mem_of_mem_drop (List.mem_of_mem_take hb))) (fun b hb => fb_lt Y b (List.mem_of_mem_drop (List.mem_of_mem_take hb))) ?_
    · rw [List.length_take, List.length_take, List.length_drop, List.length_drop]; omega
    · rw [List.length_take]; omega
    · have e1 := split3 (fb X) a k
      have e2 := split3 (fb Y) a k
      rw [← e1]
      rw [ht, hd, ← e2]
      exact h
  rw [split3 (fb X) a k, split3 (fb Y) a k, ht, hs, hd]
theorem getP_bad (l : List Int) (h : ∀ s kind id L, l = putB s kind id L → s = l.length → 11 + L.length ≤ s → False) : getP l = (0, 0, [], 30) := by
  unfold getP
  by_cases h0 : room l.length = 0
  · rw [if_pos h0]
  rw [if_neg h0]
  by_cases h1 : room l.length < toldL ((l.take 7).drop 5)
  · rw [if_pos h1]
  rw [if_neg h1, if_neg]
  rintro ⟨h2, h3⟩
  obtain ⟨_, _, _, q3⟩ := putE_zero h2
  exact h l.length _ _ _ h3.symm rfl (by omega)
theorem turned_bad {B l : List Int} {s : Nat} {kind id : Int} {L : List Int} {a k : Nat} (hB : B = putB s kind id L) (hs : 11 + L.length ≤ s) (h : Turned B l a k true) (h32 : k ≤ 32) (hw : a + k ≤ 8 * (s - 4)) : getP l = (0, 0, [], 30) := by
  obtain ⟨h1, h2, h3, h4, _, h6⟩ := h
  have hBl : B.length = s := by rw [hB]; exact putB_length s kind id L hs
  refine getP_bad l fun s' kind' id' L' e1 e2 e3 => ?_
  obtain rfl : s' = s := by omega
  have sh := putB_shape s' kind' id' L' e3
  have shB := putB_shape s' kind id L hs
  have bl := bodyL_length s' kind' id' L' e3
  have blB := bodyL_length s' kind id L hs
  rw [← e1] at sh
  rw [← hB] at shB
  generalize bodyL s' kind' id' L' = X at sh bl
  generalize bodyL s' kind id L = Y at shB blB
  have lX := fb_length X
  have lY := fb_length Y
  have hd : (fb l).drop (8 * (s' - 4)) = (fb B).drop (8 * (s' - 4)) := by
    have := congrArg (List.drop (8 * (s' - 4) - (a + k))) h4
    rw [List.drop_drop, List.drop_drop, show a + k + (8 * (s' - 4) - (a + k)) = 8 * (s' - 4) by omega] at this
    exact this
  rw [sh, shB, fb_append, fb_append, List.drop_left' (by omega), List.drop_left' (by omega)] at hd
  have hbe := fb_inj _ _ (be_bytes 4 _) (be_bytes 4 _) hd
  have hc := be4_inj (crc_range X) (crc_range Y) hbe
  have t1 : (fb X).take a = (fb Y).take a := by
    have := h3
    rwa [sh, shB, fb_append, fb_append, List.take_append_of_le_length (by omega), List.take_append_of_le_length (by omega)] at this
  have t2 : (fb X).drop (a + k) = (fb Y).drop (a + k) := by
    have := h4
    rw [sh, shB, fb_append, fb_append, List.drop_append_of_le_length (by omega), List.drop_append_of_le_length (by omega), hbe] at this
    exact List.append_cancel_right this
  have hXY := crc_turned (bl.trans blB.symm) h32 t1 t2 hc
  refine h6 rfl ?_
  rw [sh, shB, fb_append, fb_append, hXY, hbe]
theorem Same_zero : klaxonref03_Same.f 0 0 [] 0 0 [] = some true := by decide +kernel
theorem shl_pow (r : Nat) (h : r < 8) : shl .u8 1 (r : Int) = ((2 ^ r : Nat) : Int) := by
  have : ∀ r : Nat, r < 8 → shl .u8 1 (r : Int) = ((2 ^ r : Nat) : Int) := by decide +kernel
  exact this r h
theorem flip_eq (l : List Int) (p : Nat) (hl : Bytes l) (hp : p < 8 * l.length) : Go.bits .xor .u8 (rd l ((p / 8 : Nat) : Int)) (shl .u8 1 ((p % 8 : Nat) : Int)) = (((rd l ((p / 8 : Nat) : Int)).toNat ^^^ 2 ^ (p % 8) : Nat) : Int) := by
  obtain ⟨h0, h1⟩ := hl _ (rd_in l (p / 8) (by omega))
  rw [shl_pow _ (by omega)]
  have h2 : 2 ^ (p % 8) < 256 := by
    have : ∀ r : Nat, r < 8 → 2 ^ r < 256 := by decide
    exact this _ (by omega)
  have := u8_xor_nat (rd l ((p / 8 : Nat) : Int)).toNat (2 ^ (p % 8)) (by omega) h2
  rwa [Int.toNat_of_nonneg h0] at this
theorem idx_div (a k : Nat) (h : a + k < 1000000) : wrap64 (Int.tdiv (wrap64 ((a : Int) + k)) 8) = (((a + k) / 8 : Nat) : Int) := by
  have e : wrap64 ((a : Int) + k) = ((a + k : Nat) : Int) := by rw [wrap64_id (a := (a : Int) + k) (by omega) (by omega)]; omega
  rw [e]
  have e2 : Int.tdiv ((a + k : Nat) : Int) 8 = (((a + k) / 8 : Nat) : Int) := rfl
  rw [e2]
  exact wrap64_id (by omega) (by omega)
theorem idx_mod (a k : Nat) (h : a + k < 1000000) : IntKind.u64.wrap (Int.tmod (wrap64 ((a : Int) + k)) 8) = (((a + k) % 8 : Nat) : Int) := by
  have e : wrap64 ((a : Int) + k) = ((a + k : Nat) : Int) := by rw [wrap64_id (a := (a : Int) + k) (by omega) (by omega)]; omega
  rw [e]
  have e2 : Int.tmod ((a + k : Nat) : Int) 8 = (((a + k) % 8 : Nat) : Int) := rfl
  rw [e2, IntKind.wrap_u64]
  omega
theorem turn_loop (B : List Int) (s : Nat) (kind id mask : Int) (L : List Int) (hk : 0 ≤ id ∧ id < 4294967296) (he : putE s kind L = 0) (hB : B = putB s kind id L) (a : Nat) (ha : a < 8 * (s - 4)) (d : Nat) : ∀ (k : Nat) (l : List Int) (f : Bool), 32 - k = d → k ≤ 32 → a + k ≤ 8 * (s - 4) → Turned B l a k f →
    Ev (fun n => klaxonlaw03_PageTurned.l0 n (a : Int) mask l ((8 * (s - 4) : Nat) : Int) f (k : Int)) true := by
  obtain ⟨q1, q2, q4, q3⟩ := putE_zero he
  have hBl : B.length = s := by rw [hB]; exact putB_length s kind id L (by omega)
  have stop : ∀ (k : Nat) (l : List Int) (f : Bool), k ≤ 32 → a + k ≤ 8 * (s - 4) → Turned B l a k f → Ev (fun n => klaxonlaw03_PageTurned.j2 n (a : Int) mask l ((8 * (s - 4) : Nat) : Int) f (k : Int) false) true := by
    intro k l f h32 hw hT
    have hlen := hT.1
    refine Ev.step (fun n => by rw [klaxonlaw03_PageTurned.j2]) (Ev.neg_ (by decide) (Ev.bind_ (get_ev l hT.2.1 (by omega)) ?_))
    cases f with
    | true =>
      rw [turned_bad hB (by omega) hT h32 hw]
      exact Ev.pos_ rfl (Ev.some_bind (a := 30) rfl (Ev.pos_ rfl (Ev.some_bind Same_zero (Ev.pos_ rfl live_ev))))
    | false =>
      obtain rfl : l = B := hT.2.2.2.2.1 rfl
      rw [hB, get_put s kind id L hk he]
      exact Ev.neg_ (by decide) (Ev.some_bind (a := 0) rfl (Ev.pos_ rfl live_ev))
  induction d with
  | zero =>
    intro k l f hd hk hw hT
    exact Ev.step (fun n => by rw [klaxonlaw03_PageTurned.l0]) (Ev.neg_ (by omega) (stop k l f hk hw hT))
  | succ d ih =>
    intro k l f hd hk hw hT
    refine Ev.step (fun n => by rw [klaxonlaw03_PageTurned.l0]) (Ev.pos_ (by omega) ?_)
    rw [wrap64_id (by omega) (by omega)]
    by_cases hlt : a + k < 8 * (s - 4)
    · rw [decide_eq_true (by omega)]
      have hlen : l.length = s := hT.1.trans hBl
      have p1 : a + k < 8 * l.length := by omega
      have p2 : (0 : Int) ≤ (((a + k) / 8 : Nat) : Int) := by omega
      have p3 : (((a + k) / 8 : Nat) : Int) < (l.length : Int) := by omega
      have p4 : (0 : Int) ≤ (((a + k) % 8 : Nat) : Int) := by omega
      have p5 : (0 : Int) ≤ (k : Int) := by omega
      have p6 : ((((a + k) / 8 : Nat) : Int)).toNat = (a + k) / 8 := by omega
      have p7 : 32 - (k + 1) = d := by omega
      have p8 : k + 1 ≤ 32 := by omega
      have p9 : a + (k + 1) ≤ 8 * (s - 4) := by omega
      have p10 : a + k < 1000000 := by omega
      have hflip := flip_eq l (a + k) hT.2.1 p1
      have hu : IntKind.u64.wrap (k : Int) = (k : Int) := by rw [IntKind.wrap_u64]; omega
      have hw1 : wrap64 ((k : Int) + 1) = ((k + 1 : Nat) : Int) := by rw [wrap64_id (by omega) (by omega)]; omega
      have hj := idx_div a k p10
      have hm := idx_mod a k p10
      refine Ev.step (fun n => by rw [klaxonlaw03_PageTurned.j2]) (Ev.pos_ rfl (Ev.pos_ (by rw [hu]; exact p5) (Ev.ite_ (fun _ => ?_) (fun _ => ?_))))
      · rw [hj, hm, hw1, hflip]
        refine Ev.pos_ p2 (Ev.pos_ p3 (Ev.pos_ p4 ?_))
        rw [p6]
        exact ih (k + 1) (fl l (a + k)) true p7 p8 p9 (turned_flip hT p1)
      · rw [hw1]
        exact ih (k + 1) l f p7 p8 p9 (turned_skip hT)
    · rw [decide_eq_false (by omega)]
      exact stop k l f (by omega) hw hT
theorem PageTurned : klaxonlaw03_PageTurned.PureS := by
  rintro s ⟨kind, id, L⟩ a mask hs ⟨hk, hi, _, hL⟩ ha hm
  have hs := wf_i64 hs
  have hk : 0 ≤ kind ∧ kind < 256 := wf_u8 hk
  have hi : 0 ≤ id ∧ id < 4294967296 := wf_u32 hi
  have ha := wf_i64 ha
  have hL : Bytes L := fun x hx => wf_u8 (hL x hx)
  apply Ev.at_
  show Ev (fun k => klaxonlaw03_PageTurned.f k s kind id L a mask) true
  unfold klaxonlaw03_PageTurned.f
  refine Ev.ite_ (fun _ => live_ev) fun hsz => Ev.some_bind (put_eq hk hi hL) (Ev.some_bind (a := (putF s kind id L).2) rfl (Ev.ite_ (fun he => ?_) (fun _ => live_ev)))
  have he : putE s kind L = 0 := he
  obtain ⟨q1, q2, q4, q3⟩ := putE_zero he
  obtain ⟨n, rfl⟩ : ∃ n : Nat, s = n := ⟨s.toNat, by omega⟩
  have e : (putF (n : Int) kind id L).1 = putB n kind id L := by unfold putF; rw [if_pos he]; rfl
  have hl := putB_length n kind id L (by omega)
  rw [e, hl]
  have hw : wrap64 (8 * (wrap64 ((n : Int) - 4))) = ((8 * (n - 4) : Nat) : Int) := by rw [wrap64_id (a := (n : Int) - 4) (by omega) (by omega), wrap64_id (by omega) (by omega)]; omega
  rw [hw]
  have j0t : Ev (fun k => klaxonlaw03_PageTurned.j0 k a mask (putB n kind id L) ((8 * (n - 4) : Nat) : Int) true) true := Ev.step (fun k => by rw [klaxonlaw03_PageTurned.j0]) (Ev.pos_ rfl live_ev)
  refine Ev.pos_ rfl (Ev.ite_ (fun _ => j0t) fun h0 => ?_)
  by_cases h1 : a ≥ ((8 * (n - 4) : Nat) : Int)
  · rw [decide_eq_true h1]; exact j0t
  rw [decide_eq_false h1]
  obtain ⟨m, rfl⟩ : ∃ m : Nat, a = m := ⟨a.toNat, by omega⟩
  refine Ev.step (fun k => by rw [klaxonlaw03_PageTurned.j0]) (Ev.neg_ (by decide) ?_)
  have hby : Bytes (putB n kind id L) := by
    rw [putB_shape n kind id L (by omega)]
    refine Bytes.append ?_ (be_bytes _ _)
    unfold bodyL headL
    refine Bytes.append (fun x hx => ?_) (Bytes.append hL (fun x hx => ?_))
    · rcases List.mem_cons.mp hx with rfl | hx
      · exact hk
      · exact (List.mem_append.mp hx).elim (be_bytes 4 _ x) (be_bytes 2 _ x)
    · rw [(List.mem_replicate.mp hx).2]; omega
  exact turn_loop (putB n kind id L) n kind id mask L hi he rfl m (by omega) 32 0 _ false rfl (by omega) (by omega) ⟨rfl, hby, rfl, rfl, fun _ => rfl, fun h => by cases h⟩
end Go.Proofs.Ytndeagphchnokaa.Pure
