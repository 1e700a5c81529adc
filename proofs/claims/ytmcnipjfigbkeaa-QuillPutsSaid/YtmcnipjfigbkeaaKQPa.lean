/- QuillPuts: pure laws, append onto an empty row. -/
import Derived.Test.YtmcnipjfigbkeaaPQPx0
import Derived.Test.YtmcnipjfigbkeaaPQPx1
import Derived.Test.YtmcnipjfigbkeaaPQPx2
import Derived.Test.YtmcnipjfigbkeaaKStrip
import Derived.Test.YtmcnipjfigbkeaaKMark
import Derived.Test.YtmcnipjfigbkeaaKFlow3
import Derived.Test.YtmcnipjfigbkeaaKEv
import Derived.Test.YtmcnipjfigbkeaaKOpen
import Derived.Lib.SlBytesConst
import Derived.Lib.Bytes
import Derived.Lib.AppendZerosOnto
import Derived.Deep.RegionWith
import Derived.Deep.QuietTactic
import Derived.BigQuiet
namespace Go.Proofs.YtmcnipjfigbkeaaK.QP
open Go.RowKit Go.Proofs.YtmcnipjfigbkeaaW.PrintWords Go.Proofs.YtmcnipjfigbkeaaW.PrintLast Go.Proofs.YtmcnipjfigbkeaaW.PrintMore
open Go.Proofs.Ytmcnipjfigbkeaa.PQP Go.Proofs.Ytmcnipjfigbkeaa Go.Proofs.YtmcnipjfigbkeaaK
attribute [local go_sem] max2_int min2_int max_two min_two max_three min_three max_four min_four
set_option linter.unusedVariables false
set_option linter.unusedSimpArgs false
theorem digF_len (j : Nat) : ∀ (x : Int) (ds : List Int), ds.length ≤ (digF j x ds).length := by
  induction j with
  | zero => intro x ds; exact Nat.le_refl _
  | succ j ih => intro x ds; unfold digF; split; exact Nat.le_trans (by simp) (ih _ _); exact Nat.le_refl _
theorem num_high (j : Nat) : ∀ (x : Int) (ds t : List Int), 0 < x → x < 144115188075855872 → x < 128 ^ j → 0 < (digF j x ds).length - ds.length ∧ numL (digF j x ds ++ t) 0 0 = numL (ds ++ t) x ((digF j x ds).length - ds.length) := by
  induction j with
  | zero => intro x ds t h0 _ h1; simp at h1; omega
  | succ j ih =>
    intro x ds t h0 h57 hj
    have e : digF (j + 1) x ds = digF j (x / 128) ((128 + x % 128) :: ds) := by simp only [digF, if_pos h0]
    rw [e]
    by_cases hx : 0 < x / 128
    · obtain ⟨a, b⟩ := ih (x / 128) ((128 + x % 128) :: ds) t hx (by omega) (by rw [Int.pow_succ] at hj; omega)
      have hl := digF_len j (x / 128) ((128 + x % 128) :: ds)
      simp only [List.length_cons] at a hl b
      refine ⟨by omega, ?_⟩
      rw [b]
      simp only [List.cons_append, numL]
      rw [if_neg (by omega), if_neg (by omega), if_neg (by omega)]
      congr 1 <;> omega
    · have e2 : digF j (x / 128) ((128 + x % 128) :: ds) = (128 + x % 128) :: ds := by
        cases j <;> simp [digF, hx]
      rw [e2]
      refine ⟨by simp, ?_⟩
      simp only [List.cons_append, numL]
      rw [if_neg (by omega), if_neg (by omega), if_neg (by omega)]
      congr 1
      · omega
      · simp
/-- A number's bytes. -/
def dig (n : Int) : List Int := digF 9 (n / 128) [n % 128]
theorem num_there (n : Int) (t : List Int) (h0 : 0 ≤ n) (h1 : n < 18446744073709551616) : numL (dig n ++ t) 0 0 = (n, (dig n).length, 0) := by
  unfold dig
  by_cases hx : 0 < n / 128
  · obtain ⟨a, b⟩ := num_high 9 (n / 128) [n % 128] t hx (by omega) (by omega)
    have hl := digF_len 9 (n / 128) [n % 128]
    simp only [List.length_cons, List.length_nil] at a hl b
    rw [b]
    simp only [List.cons_append, List.nil_append, numL]
    rw [if_neg (by omega), if_neg (by omega), if_pos (by omega)]
    refine Prod.ext ?_ (Prod.ext ?_ rfl)
    · dsimp only; omega
    · dsimp only; omega
  · have e : digF 9 (n / 128) [n % 128] = [n % 128] := by simp [digF, hx]
    rw [e]
    simp only [List.cons_append, List.nil_append, numL]
    rw [if_neg (by omega), if_neg (by omega), if_pos (by omega)]
    simp; omega
/-- An int's bytes. -/
def sdig (n : Int) : List Int := if n < 0 then 45 :: dig (-n) else 43 :: dig n
theorem sig_there (n : Int) (t : List Int) (h0 : -9223372036854775808 ≤ n) (h1 : n ≤ 9223372036854775807) : (sigL (sdig n ++ t)).2 = ((sdig n).length, 0) ∧ wrap64 (sigL (sdig n ++ t)).1 = n := by
  unfold sdig
  by_cases hn : n < 0
  · rw [if_pos hn, List.cons_append]
    have h := num_there (-n) t (by omega) (by omega)
    simp only [sigL, h]
    rw [if_neg (by omega), if_neg (by simp), if_neg (by omega), if_neg (by omega)]
    refine ⟨by simp, ?_⟩
    dsimp only
    rw [if_pos trivial, IntKind.wrap_u64]
    unfold wrap64; omega
  · rw [if_neg hn, List.cons_append]
    have h := num_there n t (by omega) (by omega)
    simp only [sigL, h]
    rw [if_neg (by omega), if_neg (by simp), if_neg (by omega), if_neg (by omega)]
    refine ⟨by simp, ?_⟩
    dsimp only
    rw [if_neg (by decide)]
    unfold wrap64; omega
theorem text_there (most : Int) (s t : List Int) (h0 : (s.length : Int) ≤ most) (h1 : (s.length : Int) < 18446744073709551616) : textL most (dig s.length ++ (s ++ t)) = ((s.length : Int), (dig s.length).length + s.length, 0) ∧ textS (dig s.length ++ (s ++ t)) = s := by
  have h := num_there s.length (s ++ t) (by omega) h1
  simp only [textL, textS, h]
  rw [if_neg (by simp), if_neg (by omega), if_neg (by simp; omega)]
  refine ⟨by simp, by simp⟩
theorem digF_len_le (j : Nat) : ∀ (x : Int) (ds : List Int), (digF j x ds).length ≤ j + ds.length := by
  induction j with
  | zero => intro x ds; simp [digF]
  | succ j ih => intro x ds; unfold digF; split; exact Nat.le_trans (ih _ _) (by simp; omega); omega
theorem dig_len (n : Int) : (dig n).length ≤ 10 := by have := digF_len_le 9 (n / 128) [n % 128]; simpa [dig] using this
theorem digits_eq (l0 : List Int) (n : Int) (h0 : 0 ≤ n) (h1 : n < 18446744073709551616) (hl : l0.length + 10 < 140737488355328) : quill_digits.f l0 n = some (l0 ++ dig n) := by
  unfold quill_digits.f; rw [if_pos ⟨h0, h1, hl⟩]; rfl
theorem wrap64_id2 {a : Int} (h0 : -9223372036854775808 ≤ a) (h1 : a ≤ 9223372036854775807) : wrap64 a = a := by unfold wrap64; omega
theorem number_loop (l : List Int) (hl : ∀ y ∈ l, 0 ≤ y ∧ y < 18446744073709551616) (hm : l.length < 1000000) (d : Nat) : ∀ (i : Nat) (acc : List Int), l.length - i = d → i ≤ l.length → acc.length + 10 * d < 140737488355318 →
    ∃ k, quill_Number.l0 k acc l (l.length : Int) (i : Int) = some (acc ++ (l.drop i).flatMap dig) := by
  induction d with
  | zero =>
    intro i acc hd hi ha
    refine ⟨1, ?_⟩
    have : l.drop i = [] := List.drop_eq_nil_of_le (by omega)
    rw [quill_Number.l0, if_neg (by omega), this]; simp
  | succ d ih =>
    intro i acc hd hi ha
    have hlt : i < l.length := by omega
    obtain ⟨h0, h1⟩ := hl _ (rd_mem l i hlt)
    obtain ⟨k, hk⟩ := ih (i + 1) (acc ++ dig (rd l i)) (by omega) (by omega) (by have := dig_len (rd l i); simp; omega)
    refine ⟨k + 1, ?_⟩
    rw [quill_Number.l0, if_pos (by omega), if_pos (by omega), if_pos (by omega), digits_eq _ _ h0 h1 (by omega), Option.bind_some, wrap64_id2 (by omega) (by omega), show ((i : Int) + 1) = ((i + 1 : Nat) : Int) by omega, hk, rd_drop l i hlt]
    simp
theorem signed_loop (l : List Int) (hl : ∀ y ∈ l, -9223372036854775808 ≤ y ∧ y ≤ 9223372036854775807) (hm : l.length < 1000000) (d : Nat) : ∀ (i : Nat) (acc : List Int), l.length - i = d → i ≤ l.length → acc.length + 11 * d < 140737488355317 →
    ∃ k, quill_Signed.l0 k acc l (l.length : Int) (i : Int) = some (acc ++ (l.drop i).flatMap sdig) := by
  induction d with
  | zero =>
    intro i acc hd hi ha
    refine ⟨1, ?_⟩
    have : l.drop i = [] := List.drop_eq_nil_of_le (by omega)
    rw [quill_Signed.l0, if_neg (by omega), this]; simp
  | succ d ih =>
    intro i acc hd hi ha
    have hlt : i < l.length := by omega
    obtain ⟨h0, h1⟩ := hl _ (rd_mem l i hlt)
    have hs : (sdig (rd l i)).length ≤ 11 := by
      unfold sdig; split
      · have := dig_len (-(rd l (i : Int))); simp; omega
      · have := dig_len (rd l (i : Int)); simp; omega
    obtain ⟨k, hk⟩ := ih (i + 1) (acc ++ sdig (rd l i)) (by omega) (by omega) (by simp; omega)
    refine ⟨k + 1, ?_⟩
    rw [quill_Signed.l0, if_pos (by omega), if_pos (by omega), if_pos (by omega)]
    rw [wrap64_id2 (by omega) (by omega), show ((i : Int) + 1) = ((i + 1 : Nat) : Int) by omega, rd_drop l i hlt]
    by_cases hn : rd l i < 0
    · have e : IntKind.u64.wrap (-(IntKind.u64.wrap (rd l i))) = -(rd l i) := by rw [IntKind.wrap_u64, IntKind.wrap_u64]; omega
      rw [if_pos hn, if_pos (by omega), e, digits_eq _ _ (by omega) (by omega) (by simp; omega), Option.bind_some]
      have e2 : acc ++ [45] ++ dig (-(rd l i)) = acc ++ sdig (rd l i) := by simp [sdig, hn]
      rw [e2, hk]; simp
    · have e : IntKind.u64.wrap (rd l i) = rd l i := by rw [IntKind.wrap_u64]; omega
      rw [if_neg hn, if_pos (by omega), e, digits_eq _ _ (by omega) (by omega) (by simp; omega), Option.bind_some]
      have e2 : acc ++ [43] ++ dig (rd l i) = acc ++ sdig (rd l i) := by simp [sdig, hn]
      rw [e2, hk]; simp
theorem rdOf_drop (l : List ByteArray) (i : Nat) (h : i < l.length) : l.drop i = rdOf ByteArray.empty l i :: l.drop (i + 1) := by
  rw [List.drop_eq_getElem_cons h]; congr 1; simp [rdOf, h]
theorem rdOf_mem (l : List ByteArray) (i : Nat) (h : i < l.length) : rdOf ByteArray.empty l i ∈ l := by
  have : rdOf ByteArray.empty l i = l[i] := by simp [rdOf, h]
  rw [this]; exact List.getElem_mem h
/-- A text's bytes. -/
def tdig (s : ByteArray) : List Int := dig s.size ++ bytesOf s
theorem text_loop (l : List ByteArray) (hl : ∀ y ∈ l, y.size ≤ 20000) (hm : l.length < 1000000) (d : Nat) : ∀ (i : Nat) (acc : List Int), l.length - i = d → i ≤ l.length → acc.length + 30000 * d < 140737488355300 →
    ∃ k, quill_Text.l0 k acc l (l.length : Int) (i : Int) = some (acc ++ (l.drop i).flatMap tdig) := by
  induction d with
  | zero =>
    intro i acc hd hi ha
    refine ⟨1, ?_⟩
    have : l.drop i = [] := List.drop_eq_nil_of_le (by omega)
    rw [quill_Text.l0, if_neg (by omega), this]; simp
  | succ d ih =>
    intro i acc hd hi ha
    have hlt : i < l.length := by omega
    have hz := hl _ (rdOf_mem l i hlt)
    have hdl := dig_len (rdOf ByteArray.empty l (i : Int)).size
    have hs : (tdig (rdOf ByteArray.empty l i)).length ≤ 20010 := by unfold tdig; rw [List.length_append, bytesOf_length]; omega
    obtain ⟨k, hk⟩ := ih (i + 1) (acc ++ tdig (rdOf ByteArray.empty l i)) (by omega) (by omega) (by simp; omega)
    refine ⟨k + 1, ?_⟩
    have e : IntKind.u64.wrap ((rdOf ByteArray.empty l (i : Int)).size : Int) = ((rdOf ByteArray.empty l (i : Int)).size : Int) := by rw [IntKind.wrap_u64]; omega
    rw [quill_Text.l0, if_pos (by omega), if_pos (by omega), if_pos (by omega), e, digits_eq _ _ (by omega) (by omega) (by omega), Option.bind_some, if_pos (by simp; omega)]
    have e2 : acc ++ dig ((rdOf ByteArray.empty l (i : Int)).size : Int) ++ bytesOf (rdOf ByteArray.empty l (i : Int)) = acc ++ tdig (rdOf ByteArray.empty l i) := by simp [tdig]
    rw [e2, wrap64_id2 (by omega) (by omega), show ((i : Int) + 1) = ((i + 1 : Nat) : Int) by omega, hk, rdOf_drop l i hlt]
    simp
theorem strOf_bytes (s : ByteArray) : strOfNums (bytesOf s) = s := by
  obtain ⟨⟨l⟩⟩ := s
  unfold strOfNums bytesOf
  congr 2
  simp only [List.map_map]
  conv => rhs; rw [← List.map_id l]
  refine List.map_congr_left fun b _ => ?_
  simp
theorem texts_loop (l : List ByteArray) (hz : ∀ y ∈ l, y.size ≤ 140737488351232) (hm : l.length < 1000000000000000) (d : Nat) : ∀ (i : Nat) (acc : Int), 61 - i = d → i ≤ l.length → i ≤ 61 → 0 ≤ acc → acc ≤ i * 140737488351232 →
    ∃ r, (∃ k, klaxonlaw01_texts.l0 k l acc (i : Int) = some r) ∧ (r = true → l.length ≤ 60 ∧ acc ≤ 20000 ∧ ∀ y ∈ l.drop i, acc + y.size ≤ 20000) := by
  have stop : ∀ (i : Nat) (acc : Int), i = l.length → i ≤ 61 → ∃ r, (∃ k, klaxonlaw01_texts.l0 k l acc (i : Int) = some r) ∧ (r = true → l.length ≤ 60 ∧ acc ≤ 20000 ∧ ∀ y ∈ l.drop i, acc + y.size ≤ 20000) := by
    intro i acc hi h61
    have hd : l.drop i = [] := List.drop_eq_nil_of_le (by omega)
    by_cases h60 : l.length ≤ 60
    · refine ⟨decide (acc ≤ 20000), ⟨2, ?_⟩, fun h => ⟨h60, by simpa using h, by rw [hd]; simp⟩⟩
      rw [klaxonlaw01_texts.l0, if_neg (by omega), klaxonlaw01_texts.j1, if_neg (by decide), if_pos (by omega)]
    · refine ⟨false, ⟨2, ?_⟩, fun h => by cases h⟩
      rw [klaxonlaw01_texts.l0, if_neg (by omega), klaxonlaw01_texts.j1, if_neg (by decide), if_neg (by omega)]
  induction d with
  | zero =>
    intro i acc hd hi h61 h0 h1
    refine ⟨false, ⟨2, ?_⟩, fun h => by cases h⟩
    by_cases h : (i : Int) < l.length
    · rw [klaxonlaw01_texts.l0, if_pos h, decide_eq_false (by omega), klaxonlaw01_texts.j1, if_neg (by decide), if_neg (by omega)]
    · rw [klaxonlaw01_texts.l0, if_neg h, klaxonlaw01_texts.j1, if_neg (by decide), if_neg (by omega)]
  | succ d ih =>
    intro i acc hd hi h61 h0 h1
    by_cases h : i = l.length
    · exact stop i acc h h61
    · have hlt : i < l.length := by omega
      have hy := hz _ (rdOf_mem l i hlt)
      obtain ⟨r, ⟨k, hk⟩, hr⟩ := ih (i + 1) (acc + (rdOf ByteArray.empty l (i : Int)).size) (by omega) (by omega) (by omega) (by omega) (by omega)
      refine ⟨r, ⟨k + 2, ?_⟩, fun h => ?_⟩
      · rw [klaxonlaw01_texts.l0, if_pos (by omega), decide_eq_true (by omega), klaxonlaw01_texts.j1, if_pos rfl, if_pos (by omega), if_pos (by omega), wrap64_id2 (by omega) (by omega), wrap64_id2 (by omega) (by omega), ← hk]
        rfl
      · obtain ⟨a, b, c⟩ := hr h
        refine ⟨a, by omega, ?_⟩
        rw [rdOf_drop l i hlt]
        intro y hy
        rcases List.mem_cons.mp hy with rfl | hy
        · omega
        · have := c y hy; omega
theorem flat_len {α : Type} (f : α → List Int) (c : Nat) (hf : ∀ y, (f y).length ≤ c) (l : List α) : (l.flatMap f).length ≤ c * l.length := by
  induction l with
  | nil => simp
  | cons a t ih => have := hf a; rw [List.flatMap_cons, List.length_append, List.length_cons, Nat.mul_succ]; omega
theorem dig_byte (n : Int) (h0 : 0 ≤ n) : (dig n).all byteB = true := by
  have key : ∀ (j : Nat) (x : Int) (ds : List Int), 0 ≤ x → ds.all byteB = true → (digF j x ds).all byteB = true := by
    intro j
    induction j with
    | zero => intro x ds _ h; exact h
    | succ j ih =>
      intro x ds hx h; unfold digF; split
      · refine ih _ _ (by omega) ?_
        rw [List.all_cons, h, Bool.and_true]; simp [byteB]; omega
      · exact h
  refine key 9 _ _ (by omega) ?_
  simp [byteB]; omega
theorem sdig_byte (n : Int) : (sdig n).all byteB = true := by
  unfold sdig; split
  · rw [List.all_cons, dig_byte _ (by omega)]; decide
  · rw [List.all_cons, dig_byte _ (by omega)]; decide
theorem bytes_byte (s : ByteArray) : (bytesOf s).all byteB = true := by
  rw [List.all_eq_true]; intro x hx
  simp only [bytesOf, List.mem_map] at hx
  obtain ⟨b, _, rfl⟩ := hx
  have := b.toNat_lt
  simp [byteB]; omega
theorem tdig_byte (s : ByteArray) : (tdig s).all byteB = true := by
  unfold tdig; rw [List.all_append, dig_byte _ (by omega), bytes_byte]; rfl
theorem all_flat {α : Type} (f : α → List Int) (l : List α) (h : ∀ y ∈ l, (f y).all byteB = true) : (l.flatMap f).all byteB = true := by
  induction l with
  | nil => rfl
  | cons a t ih => rw [List.flatMap_cons, List.all_append, h a (by simp), ih (fun y hy => h y (by simp [hy]))]; rfl
theorem sdig_len (n : Int) : (sdig n).length ≤ 11 := by
  unfold sdig; split
  · have := dig_len (-n); simp; omega
  · have := dig_len n; simp; omega
theorem wf_u64 {y : Int} (h : (Lit.int .u64 y).wf = true) : 0 ≤ y ∧ y < 18446744073709551616 := by
  simp [Lit.wf, IntKind.min, IntKind.max, IntKind.bits, IntKind.signed] at h; omega
theorem wf_i64 {y : Int} (h : (Lit.int .i64 y).wf = true) : -9223372036854775808 ≤ y ∧ y ≤ 9223372036854775807 := by
  simp [Lit.wf, IntKind.min, IntKind.max, IntKind.bits, IntKind.signed] at h; omega
theorem tdig_len (a : ByteArray) : (tdig a).length ≤ a.size + 10 := by
  have hd := dig_len a.size
  rw [tdig, List.length_append, bytesOf_length]; omega
theorem tflat_len (l : List ByteArray) (h : ∀ y ∈ l, y.size ≤ 20000) : (l.flatMap tdig).length ≤ 20010 * l.length := by
  induction l with
  | nil => simp
  | cons a t ih =>
    have ha := h a (by simp)
    have hd := tdig_len a
    have := ih (fun y hy => h y (by simp [hy]))
    rw [List.flatMap_cons, List.length_append, List.length_cons, Nat.mul_succ]; omega
theorem digF_end (j : Nat) : ∀ (x : Int) (ds : List Int), digF j x ds = digF j x [] ++ ds := by
  induction j with
  | zero => intro x ds; rfl
  | succ j ih =>
    intro x ds
    unfold digF
    split
    · rw [ih _ ((128 + x % 128) :: ds), ih _ [128 + x % 128]]; simp
    · rfl
theorem high_ev (j : Nat) : ∀ (x : Int) (acc : List Int), 1 ≤ x → x < 128 ^ (j + 1) → x < 18446744073709551616 → acc.length + j + 1 < 140737488355328 → Ev (fun k => klaxonref01_high.f k acc x) (acc ++ digF (j + 1) x []) := by
  induction j with
  | zero =>
    intro x acc h1 h2 h3 ha
    have h128 : x < 128 := by simpa using h2
    refine Ev.step (fun k => by rw [klaxonref01_high.f]) (Ev.neg_ (by omega) (Ev.pos_ (by omega) ?_))
    have e : digF 1 x [] = [128 + x % 128] := by simp [digF, show 0 < x by omega]
    have e2 : (Int.tmod x 128 + 128) % 256 = 128 + x % 128 := by rw [Int.tmod_eq_emod_of_nonneg (by omega)]; omega
    rw [e, e2]; exact Ev.now _
  | succ j ih =>
    intro x acc h1 h2 h3 ha
    have e : digF (j + 1 + 1) x [] = digF (j + 1) (x / 128) [] ++ [128 + x % 128] := by
      rw [digF, if_pos (by omega), digF_end]
    have e2 : (Int.tmod x 128 + 128) % 256 = 128 + x % 128 := by rw [Int.tmod_eq_emod_of_nonneg (by omega)]; omega
    have e3 : Int.tdiv x 128 = x / 128 := Int.tdiv_eq_ediv_of_nonneg (by omega)
    have e4 : IntKind.u64.wrap (x / 128) = x / 128 := by rw [IntKind.wrap_u64]; omega
    by_cases hx : x ≥ 128
    · refine Ev.step (fun k => by rw [klaxonref01_high.f]) (Ev.pos_ hx ?_)
      rw [e3, e4]
      refine Ev.bind_ (ih (x / 128) acc (by omega) (by rw [Int.pow_succ] at h2; omega) (by omega) (by omega)) ?_
      have hl := digF_len_le (j + 1) (x / 128) []
      refine Ev.pos_ (by rw [List.length_append]; simp at hl; omega) ?_
      rw [e, e2, ← List.append_assoc]
      exact Ev.now _
    · refine Ev.step (fun k => by rw [klaxonref01_high.f]) (Ev.neg_ hx (Ev.pos_ (by omega) ?_))
      have e5 : digF (j + 1) (x / 128) [] = [] := by
        have : ¬ 0 < x / 128 := by omega
        simp [digF, this]
      rw [e, e2, e5]; exact Ev.now _
theorem ruint_ev (acc : List Int) (n : Int) (h0 : 0 ≤ n) (h1 : n < 18446744073709551616) (ha : acc.length < 140737488000000) : Ev (fun k => klaxonref01_Uint.f k acc n) (acc ++ dig n) := by
  unfold klaxonref01_Uint.f
  have e2 : Int.tmod n 128 % 256 = n % 128 := by rw [Int.tmod_eq_emod_of_nonneg h0]; omega
  have e3 : Int.tdiv n 128 = n / 128 := Int.tdiv_eq_ediv_of_nonneg h0
  have e4 : IntKind.u64.wrap (n / 128) = n / 128 := by rw [IntKind.wrap_u64]; omega
  have ed : dig n = digF 9 (n / 128) [] ++ [n % 128] := by unfold dig; rw [digF_end]
  by_cases hn : n ≥ 128
  · refine Ev.pos_ hn ?_
    rw [e3, e4]
    have h9 : n / 128 < 128 ^ (8 + 1) := by
      have : (128 : Int) ^ (8 + 1) = 9223372036854775808 := by decide
      rw [this]; omega
    refine Ev.bind_ (high_ev 8 (n / 128) acc (by omega) h9 (by omega) (by omega)) ?_
    have hl := digF_len_le (8 + 1) (n / 128) []
    rw [List.length_nil] at hl
    refine Ev.pos_ (by rw [List.length_append]; omega) ?_
    rw [e2, ed, ← List.append_assoc]; exact Ev.now _
  · refine Ev.neg_ hn (Ev.pos_ (by omega) ?_)
    have : digF 9 (n / 128) [] = [] := by
      have : ¬ 0 < n / 128 := by omega
      simp [digF, this]
    rw [e2, ed, this]; exact Ev.now _
theorem rint_ev (acc : List Int) (n : Int) (h0 : -9223372036854775808 ≤ n) (h1 : n ≤ 9223372036854775807) (ha : acc.length < 140737487000000) : Ev (fun k => klaxonref01_Int.f k acc n) (acc ++ sdig n) := by
  unfold klaxonref01_Int.f
  by_cases hn : n < 0
  · refine Ev.pos_ hn (Ev.pos_ (by omega) ?_)
    have e : IntKind.u64.wrap (IntKind.u64.wrap (wrap64 (-(wrap64 (n + 1)))) + 1) = -n := by
      rw [wrap64_id2 (a := n + 1) (by omega) (by omega), wrap64_id2 (a := -(n + 1)) (by omega) (by omega), IntKind.wrap_u64, IntKind.wrap_u64]; omega
    rw [e]
    refine Ev.again_ ?_
    have e2 : acc ++ sdig n = (acc ++ [45]) ++ dig (-n) := by simp [sdig, hn]
    rw [e2]
    exact ruint_ev (acc ++ [45]) (-n) (by omega) (by omega) (by simp; omega)
  · refine Ev.neg_ hn (Ev.pos_ (by omega) ?_)
    have e : IntKind.u64.wrap n = n := by rw [IntKind.wrap_u64]; omega
    rw [e]
    refine Ev.again_ ?_
    have e2 : acc ++ sdig n = (acc ++ [43]) ++ dig n := by simp [sdig, hn]
    rw [e2]
    exact ruint_ev (acc ++ [43]) n (by omega) (by omega) (by simp; omega)
theorem rtext_ev (acc : List Int) (s : ByteArray) (hs : s.size ≤ 20000) (ha : acc.length < 140737487000000) : Ev (fun k => klaxonref01_Text.f k acc s) (acc ++ tdig s) := by
  unfold klaxonref01_Text.f
  have e : IntKind.u64.wrap (s.size : Int) = (s.size : Int) := by rw [IntKind.wrap_u64]; omega
  rw [e]
  refine Ev.bind_ (ruint_ev acc (s.size : Int) (by omega) (by omega) (by omega)) ?_
  have := dig_len (s.size : Int)
  refine Ev.pos_ (by rw [List.length_append]; omega) ?_
  have e2 : acc ++ tdig s = (acc ++ dig (s.size : Int)) ++ bytesOf s := by simp [tdig]
  rw [e2]; exact Ev.now _
open Go.Crc
theorem crc_l0_eq (k : Nat) (x0 : List Int) (x3 x4 : Int) : klaxonref01_Crc.l0 (k + 1) x0 x3 x4 = if x4 < (x0.length : Int) then (klaxonref01_Crc.l1 k x0 x3 x4 0) else (some x3) := by rw [klaxonref01_Crc.l0]
theorem crc_l1_eq (k : Nat) (x0 : List Int) (x3 x4 x5 : Int) : klaxonref01_Crc.l1 (k + 1) x0 x3 x4 x5 = if x5 < 8 then (if 0 ≤ x4 then (if x4 < (x0.length : Int) then (if 0 ≤ (IntKind.u64.wrap (x5)) then (if (Go.bits .and .u32 (Go.bits .xor .u32 x3 (shr .u32 ((rd x0 x4) % 4294967296) (IntKind.u64.wrap (x5)))) 1) = 1 then (klaxonref01_Crc.l1 k x0 (Go.bits .xor .u32 (x3 / 2) 3945912366) x4 (wrap64 (x5 + 1))) else (klaxonref01_Crc.l1 k x0 (x3 / 2) x4 (wrap64 (x5 + 1)))) else (none)) else (none)) else (none)) else (klaxonref01_Crc.l0 k x0 x3 (wrap64 (x4 + 1))) := by rw [klaxonref01_Crc.l1]
theorem crc_bits (l : List Int) (i p : Nat) (hi : i < l.length) (hp : rd l i = p) (hp2 : p < 256) (r : Int) (d : Nat) : ∀ (m j : Nat), j + d = 8 → m < 4294967296 →
    Ev (fun k => klaxonref01_Crc.l0 k l ((run m (bitsOf d (p / 2 ^ j)) : Nat) : Int) (wrap64 ((i : Int) + 1))) r → Ev (fun k => klaxonref01_Crc.l1 k l (m : Int) (i : Int) (j : Int)) r := by
  induction d with
  | zero =>
    intro m j hj hm h
    have h : Ev (fun k => klaxonref01_Crc.l0 k l (m : Int) (wrap64 ((i : Int) + 1))) r := h
    exact Ev.step (fun k => crc_l1_eq k _ _ _ _) (Ev.neg_ (by omega) h)
  | succ d ih =>
    intro m j hj hm h
    have a1 : (j : Int) < 8 := by omega
    have a2 : (0 : Int) ≤ (i : Int) := by omega
    have a3 : (i : Int) < (l.length : Int) := by omega
    have a4 : m / 2 < 4294967296 := by omega
    have ej : wrap64 ((j : Int) + 1) = ((j + 1 : Nat) : Int) := by rw [wrap64_id (by omega) (by omega)]; omega
    have hm2 : ((m : Int) / 2) = ((m / 2 : Nat) : Int) := by omega
    have a6 : j + 1 + d = 8 := by omega
    have hw : IntKind.u64.wrap (j : Int) = j := by rw [IntKind.wrap_u64]; omega
    have hpj : p / 2 ^ j < 4294967296 := Nat.lt_of_le_of_lt (Nat.div_le_self _ _) (by omega)
    have hs : shr .u32 (rd l i % 4294967296) (IntKind.u64.wrap (j : Int)) = ((p / 2 ^ j : Nat) : Int) := by
      rw [hw, hp, show ((p : Int) % 4294967296) = (p : Int) by omega]
      unfold shr
      rw [show min (j : Int).toNat IntKind.u32.bits = j by rw [show IntKind.u32.bits = 32 from rfl]; omega]
      norm_cast
    have hx : Go.bits .and .u32 (Go.bits .xor .u32 (m : Int) (shr .u32 (rd l i % 4294967296) (IntKind.u64.wrap (j : Int)))) 1 = (((m ^^^ (p / 2 ^ j)) % 2 : Nat) : Int) := by
      rw [hs, u32_xor_nat m _ hm hpj, and1 _ (xor_lt hm hpj)]
    have hb : (m ^^^ (p / 2 ^ j)) % 2 = (m ^^^ (p / 2 ^ j % 2)) % 2 := by rw [xor_mod2, xor_mod2]; omega
    have e3 : (m ^^^ (p / 2 ^ j % 2)) / 2 = m / 2 := by rw [Nat.xor_div_two, show p / 2 ^ j % 2 / 2 = 0 by omega, Nat.xor_zero]
    have ed : p / 2 ^ j / 2 = p / 2 ^ (j + 1) := by rw [Nat.div_div_eq_div_mul, Nat.pow_succ]
    rw [bitsOf, run, ed] at h
    have a5 : 0 ≤ IntKind.u64.wrap (j : Int) := by rw [hw]; exact Int.natCast_nonneg _
    have a7 : p / 2 ^ j % 2 < 4294967296 := Nat.lt_of_lt_of_le (Nat.mod_lt _ (by decide)) (by decide)
    have e : ∀ k, klaxonref01_Crc.l1 (k + 1) l (m : Int) (i : Int) (j : Int) = klaxonref01_Crc.l1 k l ((stp (m ^^^ (p / 2 ^ j % 2)) : Nat) : Int) (i : Int) ((j + 1 : Nat) : Int) := by
      intro k
      rw [crc_l1_eq, if_pos a1, if_pos a2, if_pos a3, if_pos a5, hx, hb, hm2, xorP _ a4, ej]
      unfold stp
      rw [e3]
      clear ej hm2 hw hs hx hb e3 ed h hpj a5 a7
      by_cases h1 : (m ^^^ (p / 2 ^ j % 2)) % 2 = 1
      · rw [if_pos (show (((m ^^^ (p / 2 ^ j % 2)) % 2 : Nat) : Int) = 1 by rw [h1]; rfl), if_pos h1]
      · rw [if_neg (show ¬ (((m ^^^ (p / 2 ^ j % 2)) % 2 : Nat) : Int) = 1 from fun hc => h1 (Int.ofNat.inj hc)), if_neg h1]
    exact Ev.step e (ih _ _ a6 (stp_lt (xor_lt hm a7)) h)
theorem crc_loop (l : List Int) (hl : Bytes l) (hs : l.length < 1000000000) (d : Nat) : ∀ (m i : Nat), i + d = l.length → m < 4294967296 → Ev (fun k => klaxonref01_Crc.l0 k l (m : Int) (i : Int)) ((from_ m (l.drop i) : Nat) : Int) := by
  induction d with
  | zero =>
    intro m i hi hm
    rw [List.drop_eq_nil_of_le (by omega)]
    show Ev _ (m : Int)
    exact Ev.step (fun k => crc_l0_eq k _ _ _) (Ev.neg_ (by omega) (Ev.now _))
  | succ d ih =>
    intro m i hi hm
    have hlt : i < l.length := by omega
    have hx := hl _ (rd_in l i hlt)
    obtain ⟨p, hp⟩ : ∃ p : Nat, rd l i = p := ⟨(rd l i).toNat, by omega⟩
    have hd : l.drop i = rd l i :: l.drop (i + 1) := by
      rw [List.drop_eq_getElem_cons hlt]; congr 1; simp [rd, List.getD, hlt]
    refine Ev.step (fun k => crc_l0_eq k _ _ _) (Ev.pos_ (by omega) ?_)
    refine crc_bits l i p hlt hp (by omega) _ 8 m 0 rfl hm ?_
    have e1 : from_ m (l.drop i) = from_ (run m (bitsOf 8 p)) (l.drop (i + 1)) := by
      rw [hd, show rd l i :: l.drop (i + 1) = [rd l i] ++ l.drop (i + 1) from rfl, from_append, hp, from_one _ _ (by omega) (by omega), run_byte _ _ (by omega), show ((p : Int)).toNat = p by omega]
    rw [e1, show p / 2 ^ 0 = p by simp, wrap64_id (by omega) (by omega), show ((i : Int) + 1) = ((i + 1 : Nat) : Int) by omega]
    exact ih _ _ (by omega) (run_lt _ _ hm (bits_lt 8 p))
theorem rcrc_ev (l : List Int) (hl : Bytes l) (hs : l.length < 1000000000) : Ev (fun k => klaxonref01_Crc.f k l) (crc l) := crc_loop l hl hs l.length 4294967295 0 (by omega) (by decide)
theorem infoB : (Try.prog.info? 5).map (fun i => (i.zero, i.size, i.bytes)) = some (some (.int .u8 0), 1, 1) := by kernel_rfl
/-- append(v, ys...), run. -/
theorem append_run (W : World) (base : Nat) (ty : TypeId) (v : Value) (xs ys : List Int) (A : Option Addr) (c : Nat) (HO : Kd.R (Kd.int .u8) 5 W base (fun _ => True) v xs) (HR : Kd.C (Kd.int .u8) W A ys.length ys) (hbase : base ≤ W.heap.size) (hl : xs.length + ys.length ≤ 140737488355328) :
    ∃ v1 w1, (Builtin.append_ #[50, 50] ty #[v, .slice A ys.length c]).run Try.prog W = .ok v1 w1 ∧ Kd.R (Kd.int .u8) 5 w1 base (fun _ => True) v1 (xs ++ ys) ∧ W.grownBy w1 v.ownBlock ∧ (v1.ownBlock = v.ownBlock ∨ ∃ b, v1.ownBlock = some b ∧ W.heap.size ≤ b) := by
  have h := Kd.R_append_rows_step (P := Try.prog) (ops := #[]) (o := { dst := some 0, op := .call { callee := .builtin .append, args := #[.tmp 0, .tmp 1], argTypes := #[50, 50] }, type := ty, pos := "", after := #[], guard := none }) (a := { tmps := #[v, .slice A ys.length c], defers := [] }) (Q := fun _ _ _ => False)
    (Kc := fun a' w1 => ∃ v1, a'.tmps[0]? = some v1 ∧ Kd.R (Kd.int .u8) 5 w1 base (fun _ => True) v1 (xs ++ ys) ∧ W.grownBy w1 v.ownBlock ∧ (v1.ownBlock = v.ownBlock ∨ ∃ b, v1.ownBlock = some b ∧ W.heap.size ≤ b))
    (Kd.int .u8) (Rr := fun (x : Int) (c : List Value) => c = [.int .u8 x]) (w0 := W) base rfl (.tmp 0) (.tmp 1) 50 5 (.int .u8 0) 1 rfl Try.underlying50 infoB rfl (by decide) (by decide) v xs ys A ys.length c (fun _ => True) (fun _ => False) rfl rfl HO HR (fun _ _ h => h) (fun _ hk => hk.elim) (fun _ _ => trivial) ((Below.refl _ _).mono hbase) hbase (by omega)
    (fun v1 w1 h1 h2 h3 h4 => ⟨v1, rfl, h1, h3, h4⟩)
  rw [if_pos (show Region.wanted _ _ = true from rfl)] at h
  unfold Oper.wp at h
  obtain ⟨a, ha⟩ : ∃ a : Act, a = { tmps := #[v, .slice A ys.length c], defers := [] } := ⟨_, rfl⟩
  have e0 : a.eval (.tmp 0) = v := by rw [ha]; rfl
  have e1 : a.eval (.tmp 1) = .slice A ys.length c := by rw [ha]; rfl
  have e2 : ∀ u : Value, (a.put (some 0) u).tmps[0]? = some u := fun u => by rw [ha]; rfl
  rw [← ha] at h
  clear ha
  cases hb : (Builtin.append_ #[50, 50] ty #[v, .slice A ys.length c]).run Try.prog W with
  | ok v1 w1 =>
    have he : ∀ o : Oper, o.op = .call { callee := .builtin .append, args := #[.tmp 0, .tmp 1], argTypes := #[50, 50] } → o.type = ty → (execOp a.eval o).run Try.prog W = .ok (.value v1) w1 := fun o h1 h2 => by
      simp [execOp, resolve, invoke, builtin, h1, h2, e0, e1, hb]
    rw [he _ rfl rfl, Oper.upon_value] at h
    obtain ⟨u, hu, h1, h2, h3⟩ := h
    obtain rfl : v1 = u := Option.some.inj ((e2 v1).symm.trans hu)
    exact ⟨_, _, rfl, h1, h2, h3⟩
  | halt hh w1 =>
    exfalso
    have he : ∀ o : Oper, o.op = .call { callee := .builtin .append, args := #[.tmp 0, .tmp 1], argTypes := #[50, 50] } → o.type = ty → (execOp a.eval o).run Try.prog W = .halt hh w1 := fun o h1 h2 => by
      simp [execOp, resolve, invoke, builtin, h1, h2, e0, e1, hb]
    rw [he _ rfl rfl] at h
    cases hh <;> simp [Oper.upon, LetsOut] at h
theorem append_nothing (W : World) (ty : TypeId) (g : Nat) (A : Option Addr) (c : Nat) : (Builtin.append_ #[50, 50] ty #[.slice (some ⟨g, 0, none⟩) 0 0, .slice A 0 c]).run Try.prog W = .ok (.slice (some ⟨g, 0, none⟩) 0 0) W := by
  obtain ⟨i, hi, hzz⟩ := Option.map_eq_some_iff.1 infoB
  cases A <;> simp [Builtin.append_, run_underlying Try.underlying50, sizeOf, typeInfo, hi, storeCells, loadCellsFrom, Builtin.lenOf, Builtin.firstCells, loadCells]
theorem empty_R' {W : World} {g base : Nat} (h : W.heap[g]? = some (.cells #[] 5 (0, 0))) (hb : base ≤ g) : Kd.R (Kd.int .u8) 5 W base (fun _ => True) (.slice (some ⟨g, 0, none⟩) 0 0) [] :=
  ⟨fun k hk => trivial, [], ⟨rfl, .inr ⟨g, 0, #[], rfl, hb, h, Nat.le_refl _, by simp [maxLen], rfl, rfl⟩⟩, Reps.none _ _⟩
theorem append_empty (W : World) (base : Nat) (ty : TypeId) (g : Nat) (ys : List Int) (A : Option Addr) (c : Nat) (h0 : W.heap[g]? = some (.cells #[] 5 (0, 0))) (hg : base ≤ g) (hbase : base ≤ W.heap.size) (HR : Kd.C (Kd.int .u8) W A ys.length ys) (hl : ys.length ≤ 100000000) :
    ∃ v1 w1, (Builtin.append_ #[50, 50] ty #[.slice (some ⟨g, 0, none⟩) 0 0, .slice A ys.length c]).run Try.prog W = .ok v1 w1 ∧ Kd.R (Kd.int .u8) 5 w1 base (fun _ => True) v1 ys ∧ Below W.heap.size W w1 := by
  by_cases hy : ys.length = 0
  · obtain rfl := List.length_eq_zero_iff.1 hy
    exact ⟨_, _, append_nothing W ty g A c, empty_R' h0 hg, Below.refl _ _⟩
  obtain ⟨v1, w1, h1, h2, _, _⟩ := append_run W base ty (.slice (some ⟨g, 0, none⟩) 0 0) [] ys A c (empty_R' h0 hg) HR hbase (by simp; omega)
  obtain ⟨i, hi, hzz⟩ := Option.map_eq_some_iff.1 infoB
  simp only [Prod.mk.injEq] at hzz
  obtain ⟨hz, hsz, hby⟩ := hzz
  obtain ⟨ad, rfl, hcell⟩ := HR.2.2 (by omega)
  have hr := run_append_grow (P := Try.prog) W 50 ty 5 i (.int .u8 0) Try.underlying50 hi hz ⟨g, 0, none⟩ 0 0 [] (by simp) (by intro j v hj; simp at hj) ad ys.length c (ys.map (.int .u8)) (by rw [List.length_map, hsz, Nat.mul_one])
    (fun j v hj => by
      rw [List.getElem?_map] at hj
      obtain ⟨p, hp, rfl⟩ := Option.map_eq_some_iff.1 hj
      obtain ⟨cs, hlen, hK, hc⟩ := hcell j p hp
      have := hc 0 (.int .u8 p) (by rw [show cs = [.int .u8 p] from hK]; rfl)
      rw [show (Kd.int .u8).sz = 1 from rfl, Nat.mul_one, Nat.add_zero] at this
      exact this)
    (by omega) (by omega) (growslice_fits (by omega) (by rw [hby]; omega))
  rw [h1] at hr
  injection hr with e1 e2
  refine ⟨v1, w1, h1, by simpa using h2, ?_⟩
  rw [e2]
  exact below_alloc (below_drew (Below.refl _ _)) _
theorem uint_calls (P0 : Nat → Prop) (v : Value) (acc : List Int) (n : Int) (w0 w : World) (hB : Below w0.heap.size w0 w) (ho : Kd.R (Kd.int .u8) 5 w w0.heap.size P0 v acc) (h0 : 0 ≤ n) (h1 : n < 18446744073709551616) (ha : acc.length < 140737488000000) :
    Calls Try.prog 39 #[v, .int .u64 n] w fun e w' => ∃ v1, e = .returned v1 ∧ Kd.R (Kd.int .u8) 5 w' w0.heap.size (fun k => P0 k ∨ w.heap.size ≤ k) v1 (acc ++ dig n) ∧ Below w0.heap.size w0 w' ∧ Kept w w' (fun k => P0 k) := by
  obtain ⟨k, hk⟩ := Ev.at_ (ruint_ev acc n h0 h1 ha)
  exact klaxonref01_Uint.calls k P0 v acc n _ w0 w hB ho hk
theorem int_calls (P0 : Nat → Prop) (v : Value) (acc : List Int) (n : Int) (w0 w : World) (hB : Below w0.heap.size w0 w) (ho : Kd.R (Kd.int .u8) 5 w w0.heap.size P0 v acc) (h0 : -9223372036854775808 ≤ n) (h1 : n ≤ 9223372036854775807) (ha : acc.length < 140737487000000) :
    Calls Try.prog 40 #[v, .int .i64 n] w fun e w' => ∃ v1, e = .returned v1 ∧ Kd.R (Kd.int .u8) 5 w' w0.heap.size (fun k => P0 k ∨ w.heap.size ≤ k) v1 (acc ++ sdig n) ∧ Below w0.heap.size w0 w' ∧ Kept w w' (fun k => P0 k) := by
  obtain ⟨k, hk⟩ := Ev.at_ (rint_ev acc n h0 h1 ha)
  exact klaxonref01_Int.calls k P0 v acc n _ w0 w hB ho hk
theorem rtext_calls (P0 : Nat → Prop) (v : Value) (acc : List Int) (s : ByteArray) (w0 w : World) (hB : Below w0.heap.size w0 w) (ho : Kd.R (Kd.int .u8) 5 w w0.heap.size P0 v acc) (hs : s.size ≤ 20000) (ha : acc.length < 140737487000000) :
    Calls Try.prog 41 #[v, .string s] w fun e w' => ∃ v1, e = .returned v1 ∧ Kd.R (Kd.int .u8) 5 w' w0.heap.size (fun k => P0 k ∨ w.heap.size ≤ k) v1 (acc ++ tdig s) ∧ Below w0.heap.size w0 w' ∧ Kept w w' (fun k => P0 k) := by
  obtain ⟨k, hk⟩ := Ev.at_ (rtext_ev acc s hs ha)
  exact klaxonref01_Text.calls k P0 v acc s _ w0 w hB ho hk
theorem live1_calls (w : World) : Calls Try.prog 28 #[] w fun e w' => e = .returned (.bool true) ∧ Below w.heap.size w w' := klaxonlaw01_live.calls true w rfl
theorem fdig_len (l : List Int) (k : Nat) : ((l.take k).flatMap dig).length ≤ 10 * l.length := Nat.le_trans (flat_len dig 10 dig_len _) (Nat.mul_le_mul_left _ (List.length_take_le' _ _))
theorem fsdig_len (l : List Int) (k : Nat) : ((l.take k).flatMap sdig).length ≤ 11 * l.length := Nat.le_trans (flat_len sdig 11 sdig_len _) (Nat.mul_le_mul_left _ (List.length_take_le' _ _))
theorem ftdig_len (l : List ByteArray) (h : ∀ y ∈ l, y.size ≤ 20000) (k : Nat) : ((l.take k).flatMap tdig).length ≤ 20010 * l.length := by
  have h2 : ∀ l : List ByteArray, (∀ y ∈ l, y.size ≤ 20000) → (l.flatMap tdig).length ≤ 20010 * l.length := by
    intro l
    induction l with
    | nil => intro _; simp
    | cons y l ih =>
      intro h
      have h1 := ih fun z hz => h z (List.mem_cons_of_mem _ hz)
      have h2 := h y List.mem_cons_self
      have h3 := dig_len (y.size : Int)
      rw [List.flatMap_cons, List.length_append, List.length_cons]
      have : (tdig y).length ≤ 20010 := by unfold tdig; rw [List.length_append, bytesOf_length]; omega
      omega
  exact Nat.le_trans (h2 _ fun y hy => h y (List.mem_of_mem_take hy)) (Nat.mul_le_mul_left _ (List.length_take_le' _ _))
theorem flat_succ {α β : Type} (f : α → List β) (l : List α) (k : Nat) (h : k < l.length) : (l.take (k + 1)).flatMap f = (l.take k).flatMap f ++ f l[k] := by
  rw [List.take_succ_eq_append_getElem h, List.flatMap_append]; simp
end Go.Proofs.YtmcnipjfigbkeaaK.QP
