/- The pure statement of the law klaxonlaw01.QuillShort: plain Lean over the printed functions. -/
import Derived.Test.YtmcnipjfigbkeaaSQuillShort
import Derived.Test.YtmcnipjfigbkeaaKEv
import Derived.Test.YtmcnipjfigbkeaaKStrip
namespace Go.Proofs.Ytmcnipjfigbkeaa.Pure
open Go.RowKit Go.Proofs.YtmcnipjfigbkeaaW.PrintWords Go.Proofs.YtmcnipjfigbkeaaW.PrintLast Go.Proofs.Ytmcnipjfigbkeaa.PQuill Go.Proofs.YtmcnipjfigbkeaaK
set_option linter.unusedVariables false
set_option linter.unusedSimpArgs false
theorem digF_len (j : Nat) : ∀ (x : Int) (ds : List Int), ds.length ≤ (digF j x ds).length := by
  induction j with
  | zero => intro x ds; exact Nat.le_refl _
  | succ j ih => intro x ds; unfold digF; split; exact Nat.le_trans (by simp) (ih _ _); exact Nat.le_refl _
theorem num_high (j : Nat) : ∀ (x : Int) (ds t : List Int), 0 < x → x < 144115188075855872 → x < 128 ^ j → 0 < (digF j x ds).length - ds.length ∧ numL (digF j x ds ++ t) 0 0 = numL (ds ++ t) x ((digF j x ds).length - ds.length) := by
  induction j with
  | zero => intro x ds t h0 _ h1; simp at h1; omega
  | succ j ih =>
    intro x ds t h0 h57 hj
    have e : digF (j + 1) x ds = digF j (x / 128) ((128 + x % 128) :: ds) := by simp only [digF, if_pos h0]
    rw [e]
    by_cases hx : 0 < x / 128
    · obtain ⟨a, b⟩ := ih (x / 128) ((128 + x % 128) :: ds) t hx (by omega) (by rw [Int.pow_succ] at hj; omega)
      have hl := digF_len j (x / 128) ((128 + x % 128) :: ds)
      simp only [List.length_cons] at a hl b
      refine ⟨by omega, ?_⟩
      rw [b]
      simp only [List.cons_append, numL]
      rw [if_neg (by omega), if_neg (by omega), if_neg (by omega)]
      congr 1 <;> omega
    · have e2 : digF j (x / 128) ((128 + x % 128) :: ds) = (128 + x % 128) :: ds := by
        cases j <;> simp [digF, hx]
      rw [e2]
      refine ⟨by simp, ?_⟩
      simp only [List.cons_append, numL]
      rw [if_neg (by omega), if_neg (by omega), if_neg (by omega)]
      congr 1
      · omega
      · simp
/-- A number's bytes. -/
def dig (n : Int) : List Int := digF 9 (n / 128) [n % 128]
theorem num_there (n : Int) (t : List Int) (h0 : 0 ≤ n) (h1 : n < 18446744073709551616) : numL (dig n ++ t) 0 0 = (n, (dig n).length, 0) := by
  unfold dig
  by_cases hx : 0 < n / 128
  · obtain ⟨a, b⟩ := num_high 9 (n / 128) [n % 128] t hx (by omega) (by omega)
    have hl := digF_len 9 (n / 128) [n % 128]
    simp only [List.length_cons, List.length_nil] at a hl b
    rw [b]
    simp only [List.cons_append, List.nil_append, numL]
    rw [if_neg (by omega), if_neg (by omega), if_pos (by omega)]
    refine Prod.ext ?_ (Prod.ext ?_ rfl)
    · dsimp only; omega
    · dsimp only; omega
  · have e : digF 9 (n / 128) [n % 128] = [n % 128] := by simp [digF, hx]
    rw [e]
    simp only [List.cons_append, List.nil_append, numL]
    rw [if_neg (by omega), if_neg (by omega), if_pos (by omega)]
    simp; omega
/-- An int's bytes. -/
def sdig (n : Int) : List Int := if n < 0 then 45 :: dig (-n) else 43 :: dig n
theorem sig_there (n : Int) (t : List Int) (h0 : -9223372036854775808 ≤ n) (h1 : n ≤ 9223372036854775807) : (sigL (sdig n ++ t)).2 = ((sdig n).length, 0) ∧ wrap64 (sigL (sdig n ++ t)).1 = n := by
  unfold sdig
  by_cases hn : n < 0
  · rw [if_pos hn, List.cons_append]
    have h := num_there (-n) t (by omega) (by omega)
    simp only [sigL, h]
    rw [if_neg (by omega), if_neg (by simp), if_neg (by omega), if_neg (by omega)]
    refine ⟨by simp, ?_⟩
    dsimp only
    rw [if_pos trivial, IntKind.wrap_u64]
    unfold wrap64; omega
  · rw [if_neg hn, List.cons_append]
    have h := num_there n t (by omega) (by omega)
    simp only [sigL, h]
    rw [if_neg (by omega), if_neg (by simp), if_neg (by omega), if_neg (by omega)]
    refine ⟨by simp, ?_⟩
    dsimp only
    rw [if_neg (by decide)]
    unfold wrap64; omega
theorem text_there (most : Int) (s t : List Int) (h0 : (s.length : Int) ≤ most) (h1 : (s.length : Int) < 18446744073709551616) : textL most (dig s.length ++ (s ++ t)) = ((s.length : Int), (dig s.length).length + s.length, 0) ∧ textS (dig s.length ++ (s ++ t)) = s := by
  have h := num_there s.length (s ++ t) (by omega) h1
  simp only [textL, textS, h]
  rw [if_neg (by simp), if_neg (by omega), if_neg (by simp; omega)]
  refine ⟨by simp, by simp⟩
theorem digF_len_le (j : Nat) : ∀ (x : Int) (ds : List Int), (digF j x ds).length ≤ j + ds.length := by
  induction j with
  | zero => intro x ds; simp [digF]
  | succ j ih => intro x ds; unfold digF; split; exact Nat.le_trans (ih _ _) (by simp; omega); omega
theorem dig_len (n : Int) : (dig n).length ≤ 10 := by have := digF_len_le 9 (n / 128) [n % 128]; simpa [dig] using this
theorem digits_eq (l0 : List Int) (n : Int) (h0 : 0 ≤ n) (h1 : n < 18446744073709551616) (hl : l0.length + 10 < 140737488355328) : quill_digits.f l0 n = some (l0 ++ dig n) := by
  unfold quill_digits.f; rw [if_pos ⟨h0, h1, hl⟩]; rfl
theorem wrap64_id2 {a : Int} (h0 : -9223372036854775808 ≤ a) (h1 : a ≤ 9223372036854775807) : wrap64 a = a := by unfold wrap64; omega
theorem number_loop (l : List Int) (hl : ∀ y ∈ l, 0 ≤ y ∧ y < 18446744073709551616) (hm : l.length < 1000000) (d : Nat) : ∀ (i : Nat) (acc : List Int), l.length - i = d → i ≤ l.length → acc.length + 10 * d < 140737488355318 →
    ∃ k, quill_Number.l0 k acc l (l.length : Int) (i : Int) = some (acc ++ (l.drop i).flatMap dig) := by
  induction d with
  | zero =>
    intro i acc hd hi ha
    refine ⟨1, ?_⟩
    have : l.drop i = [] := List.drop_eq_nil_of_le (by omega)
    rw [quill_Number.l0, if_neg (by omega), this]; simp
  | succ d ih =>
    intro i acc hd hi ha
    have hlt : i < l.length := by omega
    obtain ⟨h0, h1⟩ := hl _ (rd_mem l i hlt)
    obtain ⟨k, hk⟩ := ih (i + 1) (acc ++ dig (rd l i)) (by omega) (by omega) (by have := dig_len (rd l i); simp; omega)
    refine ⟨k + 1, ?_⟩
    rw [quill_Number.l0, if_pos (by omega), if_pos (by omega), if_pos (by omega), digits_eq _ _ h0 h1 (by omega), Option.bind_some, wrap64_id2 (by omega) (by omega), show ((i : Int) + 1) = ((i + 1 : Nat) : Int) by omega, hk, rd_drop l i hlt]
    simp
theorem signed_loop (l : List Int) (hl : ∀ y ∈ l, -9223372036854775808 ≤ y ∧ y ≤ 9223372036854775807) (hm : l.length < 1000000) (d : Nat) : ∀ (i : Nat) (acc : List Int), l.length - i = d → i ≤ l.length → acc.length + 11 * d < 140737488355317 →
    ∃ k, quill_Signed.l0 k acc l (l.length : Int) (i : Int) = some (acc ++ (l.drop i).flatMap sdig) := by
  induction d with
  | zero =>
    intro i acc hd hi ha
    refine ⟨1, ?_⟩
    have : l.drop i = [] := List.drop_eq_nil_of_le (by omega)
    rw [quill_Signed.l0, if_neg (by omega), this]; simp
  | succ d ih =>
    intro i acc hd hi ha
    have hlt : i < l.length := by omega
    obtain ⟨h0, h1⟩ := hl _ (rd_mem l i hlt)
    have hs : (sdig (rd l i)).length ≤ 11 := by
      unfold sdig; split
      · have := dig_len (-(rd l (i : Int))); simp; omega
      · have := dig_len (rd l (i : Int)); simp; omega
    obtain ⟨k, hk⟩ := ih (i + 1) (acc ++ sdig (rd l i)) (by omega) (by omega) (by simp; omega)
    refine ⟨k + 1, ?_⟩
    rw [quill_Signed.l0, if_pos (by omega), if_pos (by omega), if_pos (by omega)]
    rw [wrap64_id2 (by omega) (by omega), show ((i : Int) + 1) = ((i + 1 : Nat) : Int) by omega, rd_drop l i hlt]
    by_cases hn : rd l i < 0
    · have e : IntKind.u64.wrap (-(IntKind.u64.wrap (rd l i))) = -(rd l i) := by rw [IntKind.wrap_u64, IntKind.wrap_u64]; omega
      rw [if_pos hn, if_pos (by omega), e, digits_eq _ _ (by omega) (by omega) (by simp; omega), Option.bind_some]
      have e2 : acc ++ [45] ++ dig (-(rd l i)) = acc ++ sdig (rd l i) := by simp [sdig, hn]
      rw [e2, hk]; simp
    · have e : IntKind.u64.wrap (rd l i) = rd l i := by rw [IntKind.wrap_u64]; omega
      rw [if_neg hn, if_pos (by omega), e, digits_eq _ _ (by omega) (by omega) (by simp; omega), Option.bind_some]
      have e2 : acc ++ [43] ++ dig (rd l i) = acc ++ sdig (rd l i) := by simp [sdig, hn]
      rw [e2, hk]; simp
theorem rdOf_drop (l : List ByteArray) (i : Nat) (h : i < l.length) : l.drop i = rdOf ByteArray.empty l i :: l.drop (i + 1) := by
  rw [List.drop_eq_getElem_cons h]; congr 1; simp [rdOf, h]
theorem rdOf_mem (l : List ByteArray) (i : Nat) (h : i < l.length) : rdOf ByteArray.empty l i ∈ l := by
  have : rdOf ByteArray.empty l i = l[i] := by simp [rdOf, h]
  rw [this]; exact List.getElem_mem h
/-- A text's bytes. -/
def tdig (s : ByteArray) : List Int := dig s.size ++ bytesOf s
theorem text_loop (l : List ByteArray) (hl : ∀ y ∈ l, y.size ≤ 20000) (hm : l.length < 1000000) (d : Nat) : ∀ (i : Nat) (acc : List Int), l.length - i = d → i ≤ l.length → acc.length + 30000 * d < 140737488355300 →
    ∃ k, quill_Text.l0 k acc l (l.length : Int) (i : Int) = some (acc ++ (l.drop i).flatMap tdig) := by
  induction d with
  | zero =>
    intro i acc hd hi ha
    refine ⟨1, ?_⟩
    have : l.drop i = [] := List.drop_eq_nil_of_le (by omega)
    rw [quill_Text.l0, if_neg (by omega), this]; simp
  | succ d ih =>
    intro i acc hd hi ha
    have hlt : i < l.length := by omega
    have hz := hl _ (rdOf_mem l i hlt)
    have hdl := dig_len (rdOf ByteArray.empty l (i : Int)).size
    have hs : (tdig (rdOf ByteArray.empty l i)).length ≤ 20010 := by unfold tdig; rw [List.length_append, bytesOf_length]; omega
    obtain ⟨k, hk⟩ := ih (i + 1) (acc ++ tdig (rdOf ByteArray.empty l i)) (by omega) (by omega) (by simp; omega)
    refine ⟨k + 1, ?_⟩
    have e : IntKind.u64.wrap ((rdOf ByteArray.empty l (i : Int)).size : Int) = ((rdOf ByteArray.empty l (i : Int)).size : Int) := by rw [IntKind.wrap_u64]; omega
    rw [quill_Text.l0, if_pos (by omega), if_pos (by omega), if_pos (by omega), e, digits_eq _ _ (by omega) (by omega) (by omega), Option.bind_some, if_pos (by simp; omega)]
    have e2 : acc ++ dig ((rdOf ByteArray.empty l (i : Int)).size : Int) ++ bytesOf (rdOf ByteArray.empty l (i : Int)) = acc ++ tdig (rdOf ByteArray.empty l i) := by simp [tdig]
    rw [e2, wrap64_id2 (by omega) (by omega), show ((i : Int) + 1) = ((i + 1 : Nat) : Int) by omega, hk, rdOf_drop l i hlt]
    simp
theorem strOf_bytes (s : ByteArray) : strOfNums (bytesOf s) = s := by
  obtain ⟨⟨l⟩⟩ := s
  unfold strOfNums bytesOf
  congr 2
  simp only [List.map_map]
  conv => rhs; rw [← List.map_id l]
  refine List.map_congr_left fun b _ => ?_
  simp
theorem read_ok (F : List Int → Int × Nat × Int) (B : List Int) (p : Nat) (f3 v : Int) (u : Nat) (h : F (B.drop p) = (v, u, 0)) : readP F B (p : Int) 0 f3 = (v, ((p + u : Nat) : Int), 0, f3) := by
  have e : ((p : Int)).toNat = p := by omega
  unfold readP
  rw [if_neg (by simp), e, h, if_neg (by simp)]
  simp
theorem strip_number (B t : List Int) (p : Nat) (f3 n : Int) (h0 : 0 ≤ n) (h1 : n < 18446744073709551616) (hB : B.drop p = dig n ++ t) : quill_Strip_Number.f B p 0 f3 = some (n, ((p + (dig n).length : Nat) : Int), 0, f3) := by
  unfold quill_Strip_Number.f stripNumber_f
  rw [read_ok (fun l => numL l 0 0) B p f3 n (dig n).length (by rw [hB]; exact num_there n t h0 h1)]
theorem strip_signed (B t : List Int) (p : Nat) (f3 n : Int) (h0 : -9223372036854775808 ≤ n) (h1 : n ≤ 9223372036854775807) (hB : B.drop p = sdig n ++ t) : quill_Strip_Signed.f B p 0 f3 = some (n, ((p + (sdig n).length : Nat) : Int), 0, f3) := by
  obtain ⟨a, b⟩ := sig_there n t h0 h1
  unfold quill_Strip_Signed.f stripSigned_f
  rw [read_ok sigL B p f3 (sigL (sdig n ++ t)).1 (sdig n).length (by rw [hB, ← a])]
  simp only [b]
theorem strip_text (B t : List Int) (p : Nat) (f3 : Int) (s : ByteArray) (most : Int) (hm : -9223372036854775808 ≤ most ∧ most < 9223372036854775808) (h0 : (s.size : Int) ≤ most) (hB : B.drop p = tdig s ++ t) : quill_Strip_Text.f B p 0 f3 most = some (s, ((p + (tdig s).length : Nat) : Int), 0, f3) := by
  have e : ((p : Int)).toNat = p := by omega
  have hs : dig (s.size : Int) ++ (bytesOf s ++ t) = tdig s ++ t := by simp [tdig]
  obtain ⟨a, b⟩ := text_there most (bytesOf s) t (by rw [bytesOf_length]; omega) (by rw [bytesOf_length]; omega)
  rw [bytesOf_length, hs] at a b
  unfold quill_Strip_Text.f stripText_f
  rw [if_pos hm, e, hB, a, b, read_ok (textL most) B p f3 s.size ((dig s.size).length + s.size) (by rw [hB, a])]
  simp [strOf_bytes, tdig, bytesOf_length]
theorem live_ev : Ev (fun _ => (klaxonlaw01_live.f).bind fun t => some t) true := Ev.now _
theorem flat_len {α : Type} (f : α → List Int) (c : Nat) (hf : ∀ y, (f y).length ≤ c) (l : List α) : (l.flatMap f).length ≤ c * l.length := by
  induction l with
  | nil => simp
  | cons a t ih => have := hf a; rw [List.flatMap_cons, List.length_append, List.length_cons, Nat.mul_succ]; omega
theorem dig_byte (n : Int) (h0 : 0 ≤ n) : (dig n).all byteB = true := by
  have key : ∀ (j : Nat) (x : Int) (ds : List Int), 0 ≤ x → ds.all byteB = true → (digF j x ds).all byteB = true := by
    intro j
    induction j with
    | zero => intro x ds _ h; exact h
    | succ j ih =>
      intro x ds hx h; unfold digF; split
      · refine ih _ _ (by omega) ?_
        rw [List.all_cons, h, Bool.and_true]; simp [byteB]; omega
      · exact h
  refine key 9 _ _ (by omega) ?_
  simp [byteB]; omega
theorem sdig_byte (n : Int) : (sdig n).all byteB = true := by
  unfold sdig; split
  · rw [List.all_cons, dig_byte _ (by omega)]; decide
  · rw [List.all_cons, dig_byte _ (by omega)]; decide
theorem bytes_byte (s : ByteArray) : (bytesOf s).all byteB = true := by
  rw [List.all_eq_true]; intro x hx
  simp only [bytesOf, List.mem_map] at hx
  obtain ⟨b, _, rfl⟩ := hx
  have := b.toNat_lt
  simp [byteB]; omega
theorem tdig_byte (s : ByteArray) : (tdig s).all byteB = true := by
  unfold tdig; rw [List.all_append, dig_byte _ (by omega), bytes_byte]; rfl
theorem all_flat {α : Type} (f : α → List Int) (l : List α) (h : ∀ y ∈ l, (f y).all byteB = true) : (l.flatMap f).all byteB = true := by
  induction l with
  | nil => rfl
  | cons a t ih => rw [List.flatMap_cons, List.all_append, h a (by simp), ih (fun y hy => h y (by simp [hy]))]; rfl
theorem sdig_len (n : Int) : (sdig n).length ≤ 11 := by
  unfold sdig; split
  · have := dig_len (-n); simp; omega
  · have := dig_len n; simp; omega
theorem wf_u64 {y : Int} (h : (Lit.int .u64 y).wf = true) : 0 ≤ y ∧ y < 18446744073709551616 := by
  simp [Lit.wf, IntKind.min, IntKind.max, IntKind.bits, IntKind.signed] at h; omega
theorem wf_i64 {y : Int} (h : (Lit.int .i64 y).wf = true) : -9223372036854775808 ≤ y ∧ y ≤ 9223372036854775807 := by
  simp [Lit.wf, IntKind.min, IntKind.max, IntKind.bits, IntKind.signed] at h; omega
theorem tdig_len (a : ByteArray) : (tdig a).length ≤ a.size + 10 := by
  have hd := dig_len a.size
  rw [tdig, List.length_append, bytesOf_length]; omega
theorem tflat_len (l : List ByteArray) (h : ∀ y ∈ l, y.size ≤ 20000) : (l.flatMap tdig).length ≤ 20010 * l.length := by
  induction l with
  | nil => simp
  | cons a t ih =>
    have ha := h a (by simp)
    have hd := tdig_len a
    have := ih (fun y hy => h y (by simp [hy]))
    rw [List.flatMap_cons, List.length_append, List.length_cons, Nat.mul_succ]; omega
theorem num_cut (l : List Int) : ∀ (n v : Int) (i c : Nat), numL l n i = (v, i + l.length, 0) → c < l.length → numL (l.take c) n i = (0, 0, 3) := by
  induction l with
  | nil => intro n v i c _ h; simp at h
  | cons x t ih =>
    intro n v i c h hc
    cases c with
    | zero => simp [numL]
    | succ c =>
      rw [List.take_succ_cons]
      simp only [numL] at h ⊢
      by_cases h1 : i = 0 ∧ x = 128
      · rw [if_pos h1] at h; simp at h
      rw [if_neg h1] at h ⊢
      by_cases h2 : 144115188075855872 ≤ n
      · rw [if_pos h2] at h; simp at h
      rw [if_neg h2] at h ⊢
      by_cases h3 : x < 128
      · rw [if_pos h3] at h; simp only [Prod.mk.injEq, List.length_cons] at h hc; omega
      rw [if_neg h3] at h ⊢
      exact ih _ v (i + 1) c (by rw [h]; simp; omega) (by simpa using hc)
theorem dig_cut (n : Int) (c : Nat) (h0 : 0 ≤ n) (h1 : n < 18446744073709551616) (hc : c < (dig n).length) : numL ((dig n).take c) 0 0 = (0, 0, 3) := by
  have h := num_there n [] h0 h1
  rw [List.append_nil] at h
  exact num_cut _ 0 n 0 c (by rw [h]; simp) hc
theorem text_cut (s : ByteArray) (c : Nat) (hz : s.size ≤ 20000) (hc : c < (tdig s).length) : (textL s.size ((tdig s).take c)).2.2 = 3 := by
  by_cases h : c < (dig (s.size : Int)).length
  · have e : (tdig s).take c = (dig (s.size : Int)).take c := by rw [tdig, List.take_append_of_le_length (by omega)]
    rw [e]; unfold textL; rw [dig_cut _ c (by omega) (by omega) h, if_pos (by simp)]
  · have hl : (tdig s).length = (dig (s.size : Int)).length + s.size := by rw [tdig, List.length_append, bytesOf_length]
    have e : (tdig s).take c = dig (s.size : Int) ++ (bytesOf s).take (c - (dig (s.size : Int)).length) := by rw [tdig, List.take_append, List.take_of_length_le (by omega)]
    rw [e]; unfold textL; rw [num_there _ _ (by omega) (by omega), if_neg (by simp), if_neg (by simp only; omega), if_pos]
    simp only [List.length_append, List.length_take, bytesOf_length]; omega
theorem read_bad (F : List Int → Int × Nat × Int) (B : List Int) (p : Nat) (f3 e : Int) (he : e ≠ 0) (h : (F (B.drop p)).2.2 = e) : readP F B (p : Int) 0 f3 = (0, (p : Int), e, (p : Int)) := by
  have e1 : ((p : Int)).toNat = p := by omega
  unfold readP
  rw [if_neg (by simp), e1, h, if_pos he]
theorem QuillShort : klaxonlaw01_QuillShort.PureS := by
  intro y0 y1 y2 h0 h1 h2
  have h0 := wf_u64 h0
  have h2 := wf_i64 h2
  apply Ev.at_
  unfold klaxonlaw01_QuillShort.f
  refine Ev.ite_ (fun _ => live_ev) fun hz => ?_
  obtain ⟨k0, e0⟩ := number_loop [y0] (by simpa using h0) (by simp) 1 0 [] (by simp) (by simp) (by simp)
  have e0 : quill_Number.l0 k0 [] [y0] (([y0] : List Int).length : Int) ((0 : Nat) : Int) = some (dig y0) := by rw [e0]; simp
  obtain ⟨k1, e1⟩ := text_loop [y1] (by simpa using (by omega : y1.size ≤ 20000)) (by simp) 1 0 (dig y0) (by simp) (by simp) (by have := dig_len y0; omega)
  have e1 : quill_Text.l0 k1 (dig y0) [y1] (([y1] : List ByteArray).length : Int) ((0 : Nat) : Int) = some (dig y0 ++ tdig y1) := by rw [e1]; simp
  have eN : Ev (fun k => quill_Number.f k [] [y0]) (dig y0) := Ev.from_ (fun k => quill_Number.mono _ _ k) ⟨k0, e0⟩
  refine Ev.bind_ eN ?_
  refine Ev.bind_ (a := dig y0 ++ tdig y1) (Ev.from_ (fun k => quill_Text.mono _ _ k) ⟨k1, e1⟩) ?_
  have j0t : Ev (fun k => klaxonlaw01_QuillShort.j0 k y0 y1 y2 (dig y0 ++ tdig y1) true) true := Ev.step (fun k => by rw [klaxonlaw01_QuillShort.j0]) (Ev.pos_ rfl live_ev)
  refine Ev.ite_ (fun _ => j0t) fun n0 => ?_
  by_cases hc : y2 ≥ ((dig y0 ++ tdig y1).length : Int)
  · rw [decide_eq_true hc]; exact j0t
  rw [decide_eq_false hc]
  refine Ev.step (fun k => by rw [klaxonlaw01_QuillShort.j0]) (Ev.neg_ (by decide) ?_)
  refine Ev.bind_ eN (Ev.pos_ (by omega) (Ev.pos_ (by omega) ?_))
  have hd := dig_len y0
  have ht := tdig_len y1
  rw [List.length_append] at hc
  obtain ⟨c, rfl⟩ : ∃ c : Nat, y2 = c := ⟨y2.toNat, by omega⟩
  rw [show ((c : Int)).toNat = c by omega]
  refine Ev.some_bind (a := ((dig y0 ++ tdig y1).take c, 0, 0, 0)) ?_ ?_
  · unfold quill_Unroll.f unroll_f
    rw [if_pos]
    refine ⟨by rw [List.length_take, List.length_append]; omega, ?_⟩
    have : (dig y0 ++ tdig y1).all byteB = true := by rw [List.all_append, dig_byte _ h0.1, tdig_byte]; rfl
    rw [List.all_eq_true] at this ⊢
    exact fun x hx => this x (List.mem_of_mem_take hx)
  have htol : ((⟨#[]⟩ : ByteArray)).toList = ([] : List UInt8) := by decide +kernel
  by_cases hf : c < (dig y0).length
  · have e : (dig y0 ++ tdig y1).take c = (dig y0).take c := by rw [List.take_append_of_le_length (by omega)]
    rw [e]
    refine Ev.some_bind (a := (0, 0, 3, 0)) ?_ ?_
    · have hr := read_bad (fun l => numL l 0 0) ((dig y0).take c) 0 0 3 (by decide) (by rw [List.drop_zero, dig_cut _ c h0.1 h0.2 hf])
      unfold quill_Strip_Number.f stripNumber_f
      simp only [Int.natCast_zero] at hr
      rw [hr]
    refine Ev.some_bind (a := (⟨#[]⟩, 0, 3, 0)) ?_ ?_
    · unfold quill_Strip_Text.f stripText_f
      rw [if_pos (by omega)]; simp [readP]
    refine Ev.some_bind (a := (3, 0, 0, 3, 0)) rfl ?_
    refine Ev.pos_ (by omega) (Ev.pos_ rfl (Ev.pos_ htol (Ev.some_bind (a := 3) rfl (Ev.pos_ rfl (Ev.pos_ rfl (Ev.some_bind (a := (0, 0, 3, 0)) rfl (Ev.pos_ rfl live_ev)))))))
  · have e : (dig y0 ++ tdig y1).take c = dig y0 ++ (tdig y1).take (c - (dig y0).length) := by rw [List.take_append, List.take_of_length_le (by omega)]
    rw [e]
    refine Ev.some_bind (strip_number _ ((tdig y1).take (c - (dig y0).length)) 0 0 y0 h0.1 h0.2 (by simp)) ?_
    refine Ev.some_bind (a := (⟨#[]⟩, ((dig y0).length : Int), 3, ((dig y0).length : Int))) ?_ ?_
    · have hx : (textL y1.size ((dig y0 ++ (tdig y1).take (c - (dig y0).length)).drop (0 + (dig y0).length))).2.2 = 3 := by
        rw [Nat.zero_add, List.drop_left]; exact text_cut y1 _ (by omega) (by omega)
      have hr := read_bad (textL y1.size) (dig y0 ++ (tdig y1).take (c - (dig y0).length)) (0 + (dig y0).length) 0 3 (by decide) hx
      unfold quill_Strip_Text.f stripText_f
      rw [if_pos (by omega), hr, if_neg (by rw [show ((((0 + (dig y0).length : Nat) : Int))).toNat = 0 + (dig y0).length by omega, hx]; simp)]
      simp
    refine Ev.some_bind (a := (3, ((dig y0).length : Int), ((dig y0).length : Int), 3, ((dig y0).length : Int))) rfl ?_
    refine Ev.neg_ (by omega) (Ev.pos_ rfl (Ev.pos_ htol (Ev.some_bind (a := 3) rfl (Ev.pos_ rfl (Ev.pos_ rfl (Ev.some_bind (a := (((dig y0).length : Int), ((dig y0).length : Int), 3, ((dig y0).length : Int))) rfl (Ev.pos_ rfl ?_)))))))
    exact Ev.some_bind (a := (3, ((dig y0).length : Int), 3, ((dig y0).length : Int))) (by unfold quill_Strip_Over.f stripOver_f overP; simp) (Ev.some_bind (a := 3) rfl (Ev.pos_ rfl live_ev))
end Go.Proofs.Ytmcnipjfigbkeaa.Pure
