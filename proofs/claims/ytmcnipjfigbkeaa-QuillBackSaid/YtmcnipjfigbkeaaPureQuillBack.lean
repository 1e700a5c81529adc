/- The pure statement of the law klaxonlaw01.QuillBack: plain Lean over the printed functions. -/
import Derived.Test.YtmcnipjfigbkeaaSQuillBack
import Derived.Test.YtmcnipjfigbkeaaKEv
import Derived.Test.YtmcnipjfigbkeaaKStrip
namespace Go.Proofs.Ytmcnipjfigbkeaa.Pure
open Go.RowKit Go.Proofs.YtmcnipjfigbkeaaW.PrintWords Go.Proofs.YtmcnipjfigbkeaaW.PrintLast Go.Proofs.Ytmcnipjfigbkeaa.PQuill Go.Proofs.YtmcnipjfigbkeaaK
set_option linter.unusedVariables false
set_option linter.unusedSimpArgs false
theorem digF_len (j : Nat) : ∀ (x : Int) (ds : List Int), ds.length ≤ (digF j x ds).length := by
  induction j with
  | zero => intro x ds; exact Nat.le_refl _
  | succ j ih => intro x ds; unfold digF; split; exact Nat.le_trans (by simp) (ih _ _); exact Nat.le_refl _
theorem num_high (j : Nat) : ∀ (x : Int) (ds t : List Int), 0 < x → x < 144115188075855872 → x < 128 ^ j → 0 < (digF j x ds).length - ds.length ∧ numL (digF j x ds ++ t) 0 0 = numL (ds ++ t) x ((digF j x ds).length - ds.length) := by
  induction j with
  | zero => intro x ds t h0 _ h1; simp at h1; omega
  | succ j ih =>
    intro x ds t h0 h57 hj
    have e : digF (j + 1) x ds = digF j (x / 128) ((128 + x % 128) :: ds) := by simp only [digF, if_pos h0]
    rw [e]
    by_cases hx : 0 < x / 128
    · obtain ⟨a, b⟩ := ih (x / 128) ((128 + x % 128) :: ds) t hx (by omega) (by rw [Int.pow_succ] at hj; omega)
      have hl := digF_len j (x / 128) ((128 + x % 128) :: ds)
      simp only [List.length_cons] at a hl b
      refine ⟨by omega, ?_⟩
      rw [b]
      simp only [List.cons_append, numL]
      rw [if_neg (by omega), if_neg (by omega), if_neg (by omega)]
      congr 1 <;> omega
    · have e2 : digF j (x / 128) ((128 + x % 128) :: ds) = (128 + x % 128) :: ds := by
        cases j <;> simp [digF, hx]
      rw [e2]
      refine ⟨by simp, ?_⟩
      simp only [List.cons_append, numL]
      rw [if_neg (by omega), if_neg (by omega), if_neg (by omega)]
      congr 1
      · omega
      · simp
/-- A number's bytes. -/
def dig (n : Int) : List Int := digF 9 (n / 128) [n % 128]
theorem num_there (n : Int) (t : List Int) (h0 : 0 ≤ n) (h1 : n < 18446744073709551616) : numL (dig n ++ t) 0 0 = (n, (dig n).length, 0) := by
  unfold dig
  by_cases hx : 0 < n / 128
  · obtain ⟨a, b⟩ := num_high 9 (n / 128) [n % 128] t hx (by omega) (by omega)
    have hl := digF_len 9 (n / 128) [n % 128]
    simp only [List.length_cons, List.length_nil] at a hl b
    rw [b]
    simp only [List.cons_append, List.nil_append, numL]
    rw [if_neg (by omega), if_neg (by omega), if_pos (by omega)]
    refine Prod.ext ?_ (Prod.ext ?_ rfl)
    · dsimp only; omega
    · dsimp only; omega
  · have e : digF 9 (n / 128) [n % 128] = [n % 128] := by simp [digF, hx]
    rw [e]
    simp only [List.cons_append, List.nil_append, numL]
    rw [if_neg (by omega), if_neg (by omega), if_pos (by omega)]
    simp; omega
/-- An int's bytes. -/
def sdig (n : Int) : List Int := if n < 0 then 45 :: dig (-n) else 43 :: dig n
theorem sig_there (n : Int) (t : List Int) (h0 : -9223372036854775808 ≤ n) (h1 : n ≤ 9223372036854775807) : (sigL (sdig n ++ t)).2 = ((sdig n).length, 0) ∧ wrap64 (sigL (sdig n ++ t)).1 = n := by
  unfold sdig
  by_cases hn : n < 0
  · rw [if_pos hn, List.cons_append]
    have h := num_there (-n) t (by omega) (by omega)
    simp only [sigL, h]
    rw [if_neg (by omega), if_neg (by simp), if_neg (by omega), if_neg (by omega)]
    refine ⟨by simp, ?_⟩
    dsimp only
    rw [if_pos trivial, IntKind.wrap_u64]
    unfold wrap64; omega
  · rw [if_neg hn, List.cons_append]
    have h := num_there n t (by omega) (by omega)
    simp only [sigL, h]
    rw [if_neg (by omega), if_neg (by simp), if_neg (by omega), if_neg (by omega)]
    refine ⟨by simp, ?_⟩
    dsimp only
    rw [if_neg (by decide)]
    unfold wrap64; omega
theorem text_there (most : Int) (s t : List Int) (h0 : (s.length : Int) ≤ most) (h1 : (s.length : Int) < 18446744073709551616) : textL most (dig s.length ++ (s ++ t)) = ((s.length : Int), (dig s.length).length + s.length, 0) ∧ textS (dig s.length ++ (s ++ t)) = s := by
  have h := num_there s.length (s ++ t) (by omega) h1
  simp only [textL, textS, h]
  rw [if_neg (by simp), if_neg (by omega), if_neg (by simp; omega)]
  refine ⟨by simp, by simp⟩
theorem digF_len_le (j : Nat) : ∀ (x : Int) (ds : List Int), (digF j x ds).length ≤ j + ds.length := by
  induction j with
  | zero => intro x ds; simp [digF]
  | succ j ih => intro x ds; unfold digF; split; exact Nat.le_trans (ih _ _) (by simp; omega); omega
theorem dig_len (n : Int) : (dig n).length ≤ 10 := by have := digF_len_le 9 (n / 128) [n % 128]; simpa [dig] using this
theorem digits_eq (l0 : List Int) (n : Int) (h0 : 0 ≤ n) (h1 : n < 18446744073709551616) (hl : l0.length + 10 < 140737488355328) : quill_digits.f l0 n = some (l0 ++ dig n) := by
  unfold quill_digits.f; rw [if_pos ⟨h0, h1, hl⟩]; rfl
theorem wrap64_id2 {a : Int} (h0 : -9223372036854775808 ≤ a) (h1 : a ≤ 9223372036854775807) : wrap64 a = a := by unfold wrap64; omega
theorem number_loop (l : List Int) (hl : ∀ y ∈ l, 0 ≤ y ∧ y < 18446744073709551616) (hm : l.length < 1000000) (d : Nat) : ∀ (i : Nat) (acc : List Int), l.length - i = d → i ≤ l.length → acc.length + 10 * d < 140737488355318 →
    ∃ k, quill_Number.l0 k acc l (l.length : Int) (i : Int) = some (acc ++ (l.drop i).flatMap dig) := by
  induction d with
  | zero =>
    intro i acc hd hi ha
    refine ⟨1, ?_⟩
    have : l.drop i = [] := List.drop_eq_nil_of_le (by omega)
    rw [quill_Number.l0, if_neg (by omega), this]; simp
  | succ d ih =>
    intro i acc hd hi ha
    have hlt : i < l.length := by omega
    obtain ⟨h0, h1⟩ := hl _ (rd_mem l i hlt)
    obtain ⟨k, hk⟩ := ih (i + 1) (acc ++ dig (rd l i)) (by omega) (by omega) (by have := dig_len (rd l i); simp; omega)
    refine ⟨k + 1, ?_⟩
    rw [quill_Number.l0, if_pos (by omega), if_pos (by omega), if_pos (by omega), digits_eq _ _ h0 h1 (by omega), Option.bind_some, wrap64_id2 (by omega) (by omega), show ((i : Int) + 1) = ((i + 1 : Nat) : Int) by omega, hk, rd_drop l i hlt]
    simp
theorem signed_loop (l : List Int) (hl : ∀ y ∈ l, -9223372036854775808 ≤ y ∧ y ≤ 9223372036854775807) (hm : l.length < 1000000) (d : Nat) : ∀ (i : Nat) (acc : List Int), l.length - i = d → i ≤ l.length → acc.length + 11 * d < 140737488355317 →
    ∃ k, quill_Signed.l0 k acc l (l.length : Int) (i : Int) = some (acc ++ (l.drop i).flatMap sdig) := by
  induction d with
  | zero =>
    intro i acc hd hi ha
    refine ⟨1, ?_⟩
    have : l.drop i = [] := List.drop_eq_nil_of_le (by omega)
    rw [quill_Signed.l0, if_neg (by omega), this]; simp
  | succ d ih =>
    intro i acc hd hi ha
    have hlt : i < l.length := by omega
    obtain ⟨h0, h1⟩ := hl _ (rd_mem l i hlt)
    have hs : (sdig (rd l i)).length ≤ 11 := by
      unfold sdig; split
      · have := dig_len (-(rd l (i : Int))); simp; omega
      · have := dig_len (rd l (i : Int)); simp; omega
    obtain ⟨k, hk⟩ := ih (i + 1) (acc ++ sdig (rd l i)) (by omega) (by omega) (by simp; omega)
    refine ⟨k + 1, ?_⟩
    rw [quill_Signed.l0, if_pos (by omega), if_pos (by omega), if_pos (by omega)]
    rw [wrap64_id2 (by omega) (by omega), show ((i : Int) + 1) = ((i + 1 : Nat) : Int) by omega, rd_drop l i hlt]
    by_cases hn : rd l i < 0
    · have e : IntKind.u64.wrap (-(IntKind.u64.wrap (rd l i))) = -(rd l i) := by rw [IntKind.wrap_u64, IntKind.wrap_u64]; omega
      rw [if_pos hn, if_pos (by omega), e, digits_eq _ _ (by omega) (by omega) (by simp; omega), Option.bind_some]
      have e2 : acc ++ [45] ++ dig (-(rd l i)) = acc ++ sdig (rd l i) := by simp [sdig, hn]
      rw [e2, hk]; simp
    · have e : IntKind.u64.wrap (rd l i) = rd l i := by rw [IntKind.wrap_u64]; omega
      rw [if_neg hn, if_pos (by omega), e, digits_eq _ _ (by omega) (by omega) (by simp; omega), Option.bind_some]
      have e2 : acc ++ [43] ++ dig (rd l i) = acc ++ sdig (rd l i) := by simp [sdig, hn]
      rw [e2, hk]; simp
theorem rdOf_drop (l : List ByteArray) (i : Nat) (h : i < l.length) : l.drop i = rdOf ByteArray.empty l i :: l.drop (i + 1) := by
  rw [List.drop_eq_getElem_cons h]; congr 1; simp [rdOf, h]
theorem rdOf_mem (l : List ByteArray) (i : Nat) (h : i < l.length) : rdOf ByteArray.empty l i ∈ l := by
  have : rdOf ByteArray.empty l i = l[i] := by simp [rdOf, h]
  rw [this]; exact List.getElem_mem h
/-- A text's bytes. -/
def tdig (s : ByteArray) : List Int := dig s.size ++ bytesOf s
theorem text_loop (l : List ByteArray) (hl : ∀ y ∈ l, y.size ≤ 20000) (hm : l.length < 1000000) (d : Nat) : ∀ (i : Nat) (acc : List Int), l.length - i = d → i ≤ l.length → acc.length + 30000 * d < 140737488355300 →
    ∃ k, quill_Text.l0 k acc l (l.length : Int) (i : Int) = some (acc ++ (l.drop i).flatMap tdig) := by
  induction d with
  | zero =>
    intro i acc hd hi ha
    refine ⟨1, ?_⟩
    have : l.drop i = [] := List.drop_eq_nil_of_le (by omega)
    rw [quill_Text.l0, if_neg (by omega), this]; simp
  | succ d ih =>
    intro i acc hd hi ha
    have hlt : i < l.length := by omega
    have hz := hl _ (rdOf_mem l i hlt)
    have hdl := dig_len (rdOf ByteArray.empty l (i : Int)).size
    have hs : (tdig (rdOf ByteArray.empty l i)).length ≤ 20010 := by unfold tdig; rw [List.length_append, bytesOf_length]; omega
    obtain ⟨k, hk⟩ := ih (i + 1) (acc ++ tdig (rdOf ByteArray.empty l i)) (by omega) (by omega) (by simp; omega)
    refine ⟨k + 1, ?_⟩
    have e : IntKind.u64.wrap ((rdOf ByteArray.empty l (i : Int)).size : Int) = ((rdOf ByteArray.empty l (i : Int)).size : Int) := by rw [IntKind.wrap_u64]; omega
    rw [quill_Text.l0, if_pos (by omega), if_pos (by omega), if_pos (by omega), e, digits_eq _ _ (by omega) (by omega) (by omega), Option.bind_some, if_pos (by simp; omega)]
    have e2 : acc ++ dig ((rdOf ByteArray.empty l (i : Int)).size : Int) ++ bytesOf (rdOf ByteArray.empty l (i : Int)) = acc ++ tdig (rdOf ByteArray.empty l i) := by simp [tdig]
    rw [e2, wrap64_id2 (by omega) (by omega), show ((i : Int) + 1) = ((i + 1 : Nat) : Int) by omega, hk, rdOf_drop l i hlt]
    simp
theorem strOf_bytes (s : ByteArray) : strOfNums (bytesOf s) = s := by
  obtain ⟨⟨l⟩⟩ := s
  unfold strOfNums bytesOf
  congr 2
  simp only [List.map_map]
  conv => rhs; rw [← List.map_id l]
  refine List.map_congr_left fun b _ => ?_
  simp
theorem read_ok (F : List Int → Int × Nat × Int) (B : List Int) (p : Nat) (f3 v : Int) (u : Nat) (h : F (B.drop p) = (v, u, 0)) : readP F B (p : Int) 0 f3 = (v, ((p + u : Nat) : Int), 0, f3) := by
  have e : ((p : Int)).toNat = p := by omega
  unfold readP
  rw [if_neg (by simp), e, h, if_neg (by simp)]
  simp
theorem strip_number (B t : List Int) (p : Nat) (f3 n : Int) (h0 : 0 ≤ n) (h1 : n < 18446744073709551616) (hB : B.drop p = dig n ++ t) : quill_Strip_Number.f B p 0 f3 = some (n, ((p + (dig n).length : Nat) : Int), 0, f3) := by
  unfold quill_Strip_Number.f stripNumber_f
  rw [read_ok (fun l => numL l 0 0) B p f3 n (dig n).length (by rw [hB]; exact num_there n t h0 h1)]
theorem strip_signed (B t : List Int) (p : Nat) (f3 n : Int) (h0 : -9223372036854775808 ≤ n) (h1 : n ≤ 9223372036854775807) (hB : B.drop p = sdig n ++ t) : quill_Strip_Signed.f B p 0 f3 = some (n, ((p + (sdig n).length : Nat) : Int), 0, f3) := by
  obtain ⟨a, b⟩ := sig_there n t h0 h1
  unfold quill_Strip_Signed.f stripSigned_f
  rw [read_ok sigL B p f3 (sigL (sdig n ++ t)).1 (sdig n).length (by rw [hB, ← a])]
  simp only [b]
theorem strip_text (B t : List Int) (p : Nat) (f3 : Int) (s : ByteArray) (most : Int) (hm : -9223372036854775808 ≤ most ∧ most < 9223372036854775808) (h0 : (s.size : Int) ≤ most) (hB : B.drop p = tdig s ++ t) : quill_Strip_Text.f B p 0 f3 most = some (s, ((p + (tdig s).length : Nat) : Int), 0, f3) := by
  have e : ((p : Int)).toNat = p := by omega
  have hs : dig (s.size : Int) ++ (bytesOf s ++ t) = tdig s ++ t := by simp [tdig]
  obtain ⟨a, b⟩ := text_there most (bytesOf s) t (by rw [bytesOf_length]; omega) (by rw [bytesOf_length]; omega)
  rw [bytesOf_length, hs] at a b
  unfold quill_Strip_Text.f stripText_f
  rw [if_pos hm, e, hB, a, b, read_ok (textL most) B p f3 s.size ((dig s.size).length + s.size) (by rw [hB, a])]
  simp [strOf_bytes, tdig, bytesOf_length]
theorem texts_loop (l : List ByteArray) (hz : ∀ y ∈ l, y.size ≤ 140737488351232) (hm : l.length < 1000000000000000) (d : Nat) : ∀ (i : Nat) (acc : Int), 61 - i = d → i ≤ l.length → i ≤ 61 → 0 ≤ acc → acc ≤ i * 140737488351232 →
    ∃ r, (∃ k, klaxonlaw01_texts.l0 k l acc (i : Int) = some r) ∧ (r = true → l.length ≤ 60 ∧ acc ≤ 20000 ∧ ∀ y ∈ l.drop i, acc + y.size ≤ 20000) := by
  have stop : ∀ (i : Nat) (acc : Int), i = l.length → i ≤ 61 → ∃ r, (∃ k, klaxonlaw01_texts.l0 k l acc (i : Int) = some r) ∧ (r = true → l.length ≤ 60 ∧ acc ≤ 20000 ∧ ∀ y ∈ l.drop i, acc + y.size ≤ 20000) := by
    intro i acc hi h61
    have hd : l.drop i = [] := List.drop_eq_nil_of_le (by omega)
    by_cases h60 : l.length ≤ 60
    · refine ⟨decide (acc ≤ 20000), ⟨2, ?_⟩, fun h => ⟨h60, by simpa using h, by rw [hd]; simp⟩⟩
      rw [klaxonlaw01_texts.l0, if_neg (by omega), klaxonlaw01_texts.j1, if_neg (by decide), if_pos (by omega)]
    · refine ⟨false, ⟨2, ?_⟩, fun h => by cases h⟩
      rw [klaxonlaw01_texts.l0, if_neg (by omega), klaxonlaw01_texts.j1, if_neg (by decide), if_neg (by omega)]
  induction d with
  | zero =>
    intro i acc hd hi h61 h0 h1
    refine ⟨false, ⟨2, ?_⟩, fun h => by cases h⟩
    by_cases h : (i : Int) < l.length
    · rw [klaxonlaw01_texts.l0, if_pos h, decide_eq_false (by omega), klaxonlaw01_texts.j1, if_neg (by decide), if_neg (by omega)]
    · rw [klaxonlaw01_texts.l0, if_neg h, klaxonlaw01_texts.j1, if_neg (by decide), if_neg (by omega)]
  | succ d ih =>
    intro i acc hd hi h61 h0 h1
    by_cases h : i = l.length
    · exact stop i acc h h61
    · have hlt : i < l.length := by omega
      have hy := hz _ (rdOf_mem l i hlt)
      obtain ⟨r, ⟨k, hk⟩, hr⟩ := ih (i + 1) (acc + (rdOf ByteArray.empty l (i : Int)).size) (by omega) (by omega) (by omega) (by omega) (by omega)
      refine ⟨r, ⟨k + 2, ?_⟩, fun h => ?_⟩
      · rw [klaxonlaw01_texts.l0, if_pos (by omega), decide_eq_true (by omega), klaxonlaw01_texts.j1, if_pos rfl, if_pos (by omega), if_pos (by omega), wrap64_id2 (by omega) (by omega), wrap64_id2 (by omega) (by omega), ← hk]
        rfl
      · obtain ⟨a, b, c⟩ := hr h
        refine ⟨a, by omega, ?_⟩
        rw [rdOf_drop l i hlt]
        intro y hy
        rcases List.mem_cons.mp hy with rfl | hy
        · omega
        · have := c y hy; omega
theorem live_ev : Ev (fun _ => (klaxonlaw01_live.f).bind fun t => some t) true := Ev.now _
theorem back_l2 (B : List Int) (f3 : Int) (s : List ByteArray) (hs : ∀ y ∈ s, y.size ≤ 20000) (hn : s.length ≤ 60) (d : Nat) : ∀ (i p : Nat), s.length - i = d → i ≤ s.length → p ≤ B.length → B.drop p = (s.drop i).flatMap tdig →
    Ev (fun k => klaxonlaw01_QuillBack.l2 k s (i : Int) B p 0 f3) true := by
  induction d with
  | zero =>
    intro i p hd hi hp hB
    have h : s.drop i = [] := List.drop_eq_nil_of_le (by omega)
    rw [h] at hB
    have hl : B.length ≤ p := List.drop_eq_nil_iff.mp hB
    refine Ev.step (fun k => by rw [klaxonlaw01_QuillBack.l2]) ?_
    refine Ev.neg_ (by omega) ?_
    refine Ev.some_bind (a := (0, (p : Int), 0, f3)) (by unfold quill_Strip_Over.f stripOver_f overP; rw [if_neg (by omega)]) ?_
    refine Ev.some_bind (a := 0) rfl ?_
    exact Ev.pos_ rfl live_ev
  | succ d ih =>
    intro i p hd hi hp hB
    have hlt : i < s.length := by omega
    rw [rdOf_drop s i hlt, List.flatMap_cons] at hB
    have hz := hs _ (rdOf_mem s i hlt)
    refine Ev.step (fun k => by rw [klaxonlaw01_QuillBack.l2]) ?_
    refine Ev.pos_ (by omega) ?_
    refine Ev.some_bind (strip_text B _ p f3 _ 20000 (by omega) (by omega) hB) ?_
    refine Ev.pos_ (by omega) (Ev.pos_ rfl ?_)
    have e : wrap64 ((i : Int) + 1) = ((i + 1 : Nat) : Int) := by rw [wrap64_id2 (by omega) (by omega)]; omega
    have hl : (B.drop p).length = B.length - p := List.length_drop
    rw [hB, List.length_append] at hl
    simp only [e]
    refine ih (i + 1) (p + (tdig (rdOf ByteArray.empty s (i : Int))).length) (by omega) (by omega) (by omega) ?_
    rw [← List.drop_drop, hB, List.drop_left]
theorem back_l1 (B R : List Int) (f3 : Int) (s : List ByteArray) (m : List Int) (hm : ∀ y ∈ m, -9223372036854775808 ≤ y ∧ y ≤ 9223372036854775807) (hn : m.length ≤ 60) (h2 : ∀ p : Nat, p ≤ B.length → B.drop p = R → Ev (fun k => klaxonlaw01_QuillBack.l2 k s 0 B p 0 f3) true) (d : Nat) : ∀ (i p : Nat), m.length - i = d → i ≤ m.length → p ≤ B.length → B.drop p = (m.drop i).flatMap sdig ++ R →
    Ev (fun k => klaxonlaw01_QuillBack.l1 k m s (i : Int) B p 0 f3) true := by
  induction d with
  | zero =>
    intro i p hd hi hp hB
    have h : m.drop i = [] := List.drop_eq_nil_of_le (by omega)
    rw [h] at hB
    refine Ev.step (fun k => by rw [klaxonlaw01_QuillBack.l1]) ?_
    refine Ev.neg_ (by omega) ?_
    exact h2 p hp (by simpa using hB)
  | succ d ih =>
    intro i p hd hi hp hB
    have hlt : i < m.length := by omega
    rw [rd_drop m i hlt, List.flatMap_cons, List.append_assoc] at hB
    obtain ⟨h0, h1⟩ := hm _ (rd_mem m i hlt)
    refine Ev.step (fun k => by rw [klaxonlaw01_QuillBack.l1]) ?_
    refine Ev.pos_ (by omega) ?_
    refine Ev.some_bind (strip_signed B _ p f3 _ h0 h1 hB) ?_
    refine Ev.pos_ (by omega) (Ev.pos_ rfl ?_)
    have e : wrap64 ((i : Int) + 1) = ((i + 1 : Nat) : Int) := by rw [wrap64_id2 (by omega) (by omega)]; omega
    have hl : (B.drop p).length = B.length - p := List.length_drop
    rw [hB, List.length_append] at hl
    simp only [e]
    refine ih (i + 1) (p + (sdig (rd m (i : Int))).length) (by omega) (by omega) (by omega) ?_
    rw [← List.drop_drop, hB, List.drop_left]
theorem back_l0 (B R : List Int) (f3 : Int) (s : List ByteArray) (m l : List Int) (hm : ∀ y ∈ l, 0 ≤ y ∧ y < 18446744073709551616) (hn : l.length ≤ 60) (h2 : ∀ p : Nat, p ≤ B.length → B.drop p = R → Ev (fun k => klaxonlaw01_QuillBack.l1 k m s 0 B p 0 f3) true) (d : Nat) : ∀ (i p : Nat), l.length - i = d → i ≤ l.length → p ≤ B.length → B.drop p = (l.drop i).flatMap dig ++ R →
    Ev (fun k => klaxonlaw01_QuillBack.l0 k l m s (i : Int) B p 0 f3) true := by
  induction d with
  | zero =>
    intro i p hd hi hp hB
    have h : l.drop i = [] := List.drop_eq_nil_of_le (by omega)
    rw [h] at hB
    refine Ev.step (fun k => by rw [klaxonlaw01_QuillBack.l0]) ?_
    refine Ev.neg_ (by omega) ?_
    exact h2 p hp (by simpa using hB)
  | succ d ih =>
    intro i p hd hi hp hB
    have hlt : i < l.length := by omega
    rw [rd_drop l i hlt, List.flatMap_cons, List.append_assoc] at hB
    obtain ⟨h0, h1⟩ := hm _ (rd_mem l i hlt)
    refine Ev.step (fun k => by rw [klaxonlaw01_QuillBack.l0]) ?_
    refine Ev.pos_ (by omega) ?_
    refine Ev.some_bind (strip_number B _ p f3 _ h0 h1 hB) ?_
    refine Ev.pos_ (by omega) (Ev.pos_ rfl ?_)
    have e : wrap64 ((i : Int) + 1) = ((i + 1 : Nat) : Int) := by rw [wrap64_id2 (by omega) (by omega)]; omega
    have hl : (B.drop p).length = B.length - p := List.length_drop
    rw [hB, List.length_append] at hl
    simp only [e]
    refine ih (i + 1) (p + (dig (rd l (i : Int))).length) (by omega) (by omega) (by omega) ?_
    rw [← List.drop_drop, hB, List.drop_left]
theorem flat_len {α : Type} (f : α → List Int) (c : Nat) (hf : ∀ y, (f y).length ≤ c) (l : List α) : (l.flatMap f).length ≤ c * l.length := by
  induction l with
  | nil => simp
  | cons a t ih => have := hf a; rw [List.flatMap_cons, List.length_append, List.length_cons, Nat.mul_succ]; omega
theorem dig_byte (n : Int) (h0 : 0 ≤ n) : (dig n).all byteB = true := by
  have key : ∀ (j : Nat) (x : Int) (ds : List Int), 0 ≤ x → ds.all byteB = true → (digF j x ds).all byteB = true := by
    intro j
    induction j with
    | zero => intro x ds _ h; exact h
    | succ j ih =>
      intro x ds hx h; unfold digF; split
      · refine ih _ _ (by omega) ?_
        rw [List.all_cons, h, Bool.and_true]; simp [byteB]; omega
      · exact h
  refine key 9 _ _ (by omega) ?_
  simp [byteB]; omega
theorem sdig_byte (n : Int) : (sdig n).all byteB = true := by
  unfold sdig; split
  · rw [List.all_cons, dig_byte _ (by omega)]; decide
  · rw [List.all_cons, dig_byte _ (by omega)]; decide
theorem bytes_byte (s : ByteArray) : (bytesOf s).all byteB = true := by
  rw [List.all_eq_true]; intro x hx
  simp only [bytesOf, List.mem_map] at hx
  obtain ⟨b, _, rfl⟩ := hx
  have := b.toNat_lt
  simp [byteB]; omega
theorem tdig_byte (s : ByteArray) : (tdig s).all byteB = true := by
  unfold tdig; rw [List.all_append, dig_byte _ (by omega), bytes_byte]; rfl
theorem all_flat {α : Type} (f : α → List Int) (l : List α) (h : ∀ y ∈ l, (f y).all byteB = true) : (l.flatMap f).all byteB = true := by
  induction l with
  | nil => rfl
  | cons a t ih => rw [List.flatMap_cons, List.all_append, h a (by simp), ih (fun y hy => h y (by simp [hy]))]; rfl
theorem sdig_len (n : Int) : (sdig n).length ≤ 11 := by
  unfold sdig; split
  · have := dig_len (-n); simp; omega
  · have := dig_len n; simp; omega
theorem wf_u64 {y : Int} (h : (Lit.int .u64 y).wf = true) : 0 ≤ y ∧ y < 18446744073709551616 := by
  simp [Lit.wf, IntKind.min, IntKind.max, IntKind.bits, IntKind.signed] at h; omega
theorem wf_i64 {y : Int} (h : (Lit.int .i64 y).wf = true) : -9223372036854775808 ≤ y ∧ y ≤ 9223372036854775807 := by
  simp [Lit.wf, IntKind.min, IntKind.max, IntKind.bits, IntKind.signed] at h; omega
theorem tdig_len (a : ByteArray) : (tdig a).length ≤ a.size + 10 := by
  have hd := dig_len a.size
  rw [tdig, List.length_append, bytesOf_length]; omega
theorem tflat_len (l : List ByteArray) (h : ∀ y ∈ l, y.size ≤ 20000) : (l.flatMap tdig).length ≤ 20010 * l.length := by
  induction l with
  | nil => simp
  | cons a t ih =>
    have ha := h a (by simp)
    have hd := tdig_len a
    have := ih (fun y hy => h y (by simp [hy]))
    rw [List.flatMap_cons, List.length_append, List.length_cons, Nat.mul_succ]; omega
theorem QuillBack : klaxonlaw01_QuillBack.PureS := by
  intro y0 y1 y2 ⟨_, h0⟩ ⟨_, h1⟩ ⟨hb2, h2⟩
  apply Ev.at_
  unfold klaxonlaw01_QuillBack.f
  have j0t : Ev (fun k => klaxonlaw01_QuillBack.j0 k y0 y1 y2 true) true := Ev.step (fun k => by rw [klaxonlaw01_QuillBack.j0]) (Ev.pos_ rfl live_ev)
  refine Ev.ite_ (fun _ => j0t) fun n0 => Ev.ite_ (fun _ => j0t) fun n1 => ?_
  obtain ⟨r, ⟨k, hk⟩, hr⟩ := texts_loop y2 h2 (by omega) 61 0 0 rfl (by omega) (by omega) (by omega) (by omega)
  refine Ev.bind_ (a := r) (Ev.from_ (fun k => klaxonlaw01_texts.mono _ k) ⟨k, hk⟩) ?_
  cases r with
  | false => exact j0t
  | true =>
    obtain ⟨n2, _, hz⟩ := hr rfl
    have hz2 : ∀ y ∈ y2, y.size ≤ 20000 := fun y hy => by have := hz y (by simpa using hy); omega
    refine Ev.step (fun k => by rw [Bool.not_true, klaxonlaw01_QuillBack.j0]) (Ev.neg_ (by decide) ?_)
    have b0 : ∀ y ∈ y0, 0 ≤ y ∧ y < 18446744073709551616 := fun y hy => wf_u64 (h0 y hy)
    have b1 : ∀ y ∈ y1, -9223372036854775808 ≤ y ∧ y ≤ 9223372036854775807 := fun y hy => wf_i64 (h1 y hy)
    have c0 := flat_len dig 10 dig_len y0
    have c1 := flat_len sdig 11 sdig_len y1
    obtain ⟨k0, e0⟩ := number_loop y0 b0 (by omega) y0.length 0 [] (by omega) (by omega) (by simp; omega)
    rw [List.nil_append, List.drop_zero] at e0
    obtain ⟨k1, e1⟩ := signed_loop y1 b1 (by omega) y1.length 0 (y0.flatMap dig) (by omega) (by omega) (by omega)
    rw [List.drop_zero] at e1
    obtain ⟨k2, e2⟩ := text_loop y2 hz2 (by omega) y2.length 0 (y0.flatMap dig ++ y1.flatMap sdig) (by omega) (by omega) (by rw [List.length_append]; omega)
    rw [List.drop_zero] at e2
    refine Ev.bind_ (a := y0.flatMap dig) (Ev.from_ (fun k => quill_Number.mono _ _ k) ⟨k0, e0⟩) ?_
    refine Ev.bind_ (a := y0.flatMap dig ++ y1.flatMap sdig) (Ev.from_ (fun k => quill_Signed.mono _ _ k) ⟨k1, e1⟩) ?_
    refine Ev.bind_ (a := y0.flatMap dig ++ y1.flatMap sdig ++ y2.flatMap tdig) (Ev.from_ (fun k => quill_Text.mono _ _ k) ⟨k2, e2⟩) ?_
    have c2 := tflat_len y2 hz2
    refine Ev.some_bind (a := (y0.flatMap dig ++ y1.flatMap sdig ++ y2.flatMap tdig, 0, 0, 0)) ?_ ?_
    · unfold quill_Unroll.f unroll_f
      rw [if_pos]
      refine ⟨by simp only [List.length_append]; omega, ?_⟩
      rw [List.all_append, List.all_append, all_flat dig _ (fun y hy => dig_byte y (b0 y hy).1), all_flat sdig _ (fun y _ => sdig_byte y), all_flat tdig _ (fun y _ => tdig_byte y)]; rfl
    · refine back_l0 _ (y1.flatMap sdig ++ y2.flatMap tdig) 0 y2 y1 y0 b0 (by omega) (fun p hp hB => ?_) y0.length 0 0 (by omega) (by omega) (by omega) (by simp)
      refine back_l1 _ (y2.flatMap tdig) 0 y2 y1 b1 (by omega) (fun p hp hB => ?_) y1.length 0 p (by omega) (by omega) hp (by simpa using hB)
      exact back_l2 _ 0 y2 hz2 n2 y2.length 0 p (by omega) (by omega) hp (by simpa using hB)
end Go.Proofs.Ytmcnipjfigbkeaa.Pure
