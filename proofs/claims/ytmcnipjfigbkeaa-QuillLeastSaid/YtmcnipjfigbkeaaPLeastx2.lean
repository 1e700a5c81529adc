-- Written by a program of this session (wip/myprint.py), which drives the kit's print; read and checked by Lean alone.
import Derived.Test.YtmcnipjfigbkeaaPLeastx0
import Derived.Test.YtmcnipjfigbkeaaPLeastx1
namespace Go.Proofs.Ytmcnipjfigbkeaa.PLeast
open Go.RowKit Go.Proofs.YtmcnipjfigbkeaaW.PrintWords Go.Proofs.YtmcnipjfigbkeaaW.PrintLast Go.Proofs.YtmcnipjfigbkeaaW.PrintMore
attribute [local go_sem] max2_int min2_int max_two min_two max_three min_three max_four min_four   -- for this text's walks alone
set_option linter.unusedVariables false
set_option linter.unusedSimpArgs false


/-! ### klaxonlaw01_QuillLeast: function 8 -/
open Go.Proofs.YtmcnipjfigbkeaaK
namespace Least
theorem digF_len (j : Nat) : ∀ (x : Int) (ds : List Int), ds.length ≤ (digF j x ds).length := by
  induction j with
  | zero => intro x ds; exact Nat.le_refl _
  | succ j ih => intro x ds; unfold digF; split; exact Nat.le_trans (by simp) (ih _ _); exact Nat.le_refl _
theorem num_high (j : Nat) : ∀ (x : Int) (ds t : List Int), 0 < x → x < 144115188075855872 → x < 128 ^ j → 0 < (digF j x ds).length - ds.length ∧ numL (digF j x ds ++ t) 0 0 = numL (ds ++ t) x ((digF j x ds).length - ds.length) := by
  induction j with
  | zero => intro x ds t h0 _ h1; simp at h1; omega
  | succ j ih =>
    intro x ds t h0 h57 hj
    have e : digF (j + 1) x ds = digF j (x / 128) ((128 + x % 128) :: ds) := by simp only [digF, if_pos h0]
    rw [e]
    by_cases hx : 0 < x / 128
    · obtain ⟨a, b⟩ := ih (x / 128) ((128 + x % 128) :: ds) t hx (by omega) (by rw [Int.pow_succ] at hj; omega)
      have hl := digF_len j (x / 128) ((128 + x % 128) :: ds)
      simp only [List.length_cons] at a hl b
      refine ⟨by omega, ?_⟩
      rw [b]
      simp only [List.cons_append, numL]
      rw [if_neg (by omega), if_neg (by omega), if_neg (by omega)]
      congr 1 <;> omega
    · have e2 : digF j (x / 128) ((128 + x % 128) :: ds) = (128 + x % 128) :: ds := by
        cases j <;> simp [digF, hx]
      rw [e2]
      refine ⟨by simp, ?_⟩
      simp only [List.cons_append, numL]
      rw [if_neg (by omega), if_neg (by omega), if_neg (by omega)]
      congr 1
      · omega
      · simp
/-- A number's bytes. -/
def dig (n : Int) : List Int := digF 9 (n / 128) [n % 128]
theorem num_there (n : Int) (t : List Int) (h0 : 0 ≤ n) (h1 : n < 18446744073709551616) : numL (dig n ++ t) 0 0 = (n, (dig n).length, 0) := by
  unfold dig
  by_cases hx : 0 < n / 128
  · obtain ⟨a, b⟩ := num_high 9 (n / 128) [n % 128] t hx (by omega) (by omega)
    have hl := digF_len 9 (n / 128) [n % 128]
    simp only [List.length_cons, List.length_nil] at a hl b
    rw [b]
    simp only [List.cons_append, List.nil_append, numL]
    rw [if_neg (by omega), if_neg (by omega), if_pos (by omega)]
    refine Prod.ext ?_ (Prod.ext ?_ rfl)
    · dsimp only; omega
    · dsimp only; omega
  · have e : digF 9 (n / 128) [n % 128] = [n % 128] := by simp [digF, hx]
    rw [e]
    simp only [List.cons_append, List.nil_append, numL]
    rw [if_neg (by omega), if_neg (by omega), if_pos (by omega)]
    simp; omega
/-- An int's bytes. -/
def sdig (n : Int) : List Int := if n < 0 then 45 :: dig (-n) else 43 :: dig n
theorem sig_there (n : Int) (t : List Int) (h0 : -9223372036854775808 ≤ n) (h1 : n ≤ 9223372036854775807) : (sigL (sdig n ++ t)).2 = ((sdig n).length, 0) ∧ wrap64 (sigL (sdig n ++ t)).1 = n := by
  unfold sdig
  by_cases hn : n < 0
  · rw [if_pos hn, List.cons_append]
    have h := num_there (-n) t (by omega) (by omega)
    simp only [sigL, h]
    rw [if_neg (by omega), if_neg (by simp), if_neg (by omega), if_neg (by omega)]
    refine ⟨by simp, ?_⟩
    dsimp only
    rw [if_pos trivial, IntKind.wrap_u64]
    unfold wrap64; omega
  · rw [if_neg hn, List.cons_append]
    have h := num_there n t (by omega) (by omega)
    simp only [sigL, h]
    rw [if_neg (by omega), if_neg (by simp), if_neg (by omega), if_neg (by omega)]
    refine ⟨by simp, ?_⟩
    dsimp only
    rw [if_neg (by decide)]
    unfold wrap64; omega
theorem text_there (most : Int) (s t : List Int) (h0 : (s.length : Int) ≤ most) (h1 : (s.length : Int) < 18446744073709551616) : textL most (dig s.length ++ (s ++ t)) = ((s.length : Int), (dig s.length).length + s.length, 0) ∧ textS (dig s.length ++ (s ++ t)) = s := by
  have h := num_there s.length (s ++ t) (by omega) h1
  simp only [textL, textS, h]
  rw [if_neg (by simp), if_neg (by omega), if_neg (by simp; omega)]
  refine ⟨by simp, by simp⟩
theorem digF_len_le (j : Nat) : ∀ (x : Int) (ds : List Int), (digF j x ds).length ≤ j + ds.length := by
  induction j with
  | zero => intro x ds; simp [digF]
  | succ j ih => intro x ds; unfold digF; split; exact Nat.le_trans (ih _ _) (by simp; omega); omega
theorem dig_len (n : Int) : (dig n).length ≤ 10 := by have := digF_len_le 9 (n / 128) [n % 128]; simpa [dig] using this
theorem digits_eq (l0 : List Int) (n : Int) (h0 : 0 ≤ n) (h1 : n < 18446744073709551616) (hl : l0.length + 10 < 140737488355328) : quill_digits.f l0 n = some (l0 ++ dig n) := by
  unfold quill_digits.f; rw [if_pos ⟨h0, h1, hl⟩]; rfl
theorem wrap64_id2 {a : Int} (h0 : -9223372036854775808 ≤ a) (h1 : a ≤ 9223372036854775807) : wrap64 a = a := by unfold wrap64; omega
theorem number_loop (l : List Int) (hl : ∀ y ∈ l, 0 ≤ y ∧ y < 18446744073709551616) (hm : l.length < 1000000) (d : Nat) : ∀ (i : Nat) (acc : List Int), l.length - i = d → i ≤ l.length → acc.length + 10 * d < 140737488355318 →
    ∃ k, quill_Number.l0 k acc l (l.length : Int) (i : Int) = some (acc ++ (l.drop i).flatMap dig) := by
  induction d with
  | zero =>
    intro i acc hd hi ha
    refine ⟨1, ?_⟩
    have : l.drop i = [] := List.drop_eq_nil_of_le (by omega)
    rw [quill_Number.l0, if_neg (by omega), this]; simp
  | succ d ih =>
    intro i acc hd hi ha
    have hlt : i < l.length := by omega
    obtain ⟨h0, h1⟩ := hl _ (rd_mem l i hlt)
    obtain ⟨k, hk⟩ := ih (i + 1) (acc ++ dig (rd l i)) (by omega) (by omega) (by have := dig_len (rd l i); simp; omega)
    refine ⟨k + 1, ?_⟩
    rw [quill_Number.l0, if_pos (by omega), if_pos (by omega), if_pos (by omega), digits_eq _ _ h0 h1 (by omega), Option.bind_some, wrap64_id2 (by omega) (by omega), show ((i : Int) + 1) = ((i + 1 : Nat) : Int) by omega, hk, rd_drop l i hlt]
    simp
theorem signed_loop (l : List Int) (hl : ∀ y ∈ l, -9223372036854775808 ≤ y ∧ y ≤ 9223372036854775807) (hm : l.length < 1000000) (d : Nat) : ∀ (i : Nat) (acc : List Int), l.length - i = d → i ≤ l.length → acc.length + 11 * d < 140737488355317 →
    ∃ k, quill_Signed.l0 k acc l (l.length : Int) (i : Int) = some (acc ++ (l.drop i).flatMap sdig) := by
  induction d with
  | zero =>
    intro i acc hd hi ha
    refine ⟨1, ?_⟩
    have : l.drop i = [] := List.drop_eq_nil_of_le (by omega)
    rw [quill_Signed.l0, if_neg (by omega), this]; simp
  | succ d ih =>
    intro i acc hd hi ha
    have hlt : i < l.length := by omega
    obtain ⟨h0, h1⟩ := hl _ (rd_mem l i hlt)
    have hs : (sdig (rd l i)).length ≤ 11 := by
      unfold sdig; split
      · have := dig_len (-(rd l (i : Int))); simp; omega
      · have := dig_len (rd l (i : Int)); simp; omega
    obtain ⟨k, hk⟩ := ih (i + 1) (acc ++ sdig (rd l i)) (by omega) (by omega) (by simp; omega)
    refine ⟨k + 1, ?_⟩
    rw [quill_Signed.l0, if_pos (by omega), if_pos (by omega), if_pos (by omega)]
    rw [wrap64_id2 (by omega) (by omega), show ((i : Int) + 1) = ((i + 1 : Nat) : Int) by omega, rd_drop l i hlt]
    by_cases hn : rd l i < 0
    · have e : IntKind.u64.wrap (-(IntKind.u64.wrap (rd l i))) = -(rd l i) := by rw [IntKind.wrap_u64, IntKind.wrap_u64]; omega
      rw [if_pos hn, if_pos (by omega), e, digits_eq _ _ (by omega) (by omega) (by simp; omega), Option.bind_some]
      have e2 : acc ++ [45] ++ dig (-(rd l i)) = acc ++ sdig (rd l i) := by simp [sdig, hn]
      rw [e2, hk]; simp
    · have e : IntKind.u64.wrap (rd l i) = rd l i := by rw [IntKind.wrap_u64]; omega
      rw [if_neg hn, if_pos (by omega), e, digits_eq _ _ (by omega) (by omega) (by simp; omega), Option.bind_some]
      have e2 : acc ++ [43] ++ dig (rd l i) = acc ++ sdig (rd l i) := by simp [sdig, hn]
      rw [e2, hk]; simp
theorem num_canon (l : List Int) : ∀ (n v : Int) (i u : Nat) (pre : List Int), (∀ c ∈ l, 0 ≤ c ∧ c < 256) → 0 ≤ n → (0 < i → 0 < n) → (i = 0 → n = 0) → (∀ j ds, n < 128 ^ j → digF j n ds = pre ++ ds) → numL l n i = (v, u, 0) →
    ∃ k, u = i + k ∧ k ≤ l.length ∧ 0 ≤ v ∧ v < 18446744073709551616 ∧ dig v = pre ++ l.take k := by
  induction l with
  | nil => intro n v i u pre _ _ _ _ _ h; simp [numL] at h
  | cons c t ih =>
    intro n v i u pre hb hn0 hi1 hi0 hp h
    obtain ⟨c0, c1⟩ := hb c (by simp)
    simp only [numL] at h
    by_cases h1 : i = 0 ∧ c = 128
    · rw [if_pos h1] at h; simp at h
    rw [if_neg h1] at h
    by_cases h2 : 144115188075855872 ≤ n
    · rw [if_pos h2] at h; simp at h
    rw [if_neg h2] at h
    by_cases h3 : c < 128
    · rw [if_pos h3] at h
      simp only [Prod.mk.injEq] at h
      obtain ⟨rfl, rfl, _⟩ := h
      refine ⟨1, rfl, by simp, by omega, by omega, ?_⟩
      unfold dig
      rw [show (n * 128 + c % 128) / 128 = n by omega, show (n * 128 + c % 128) % 128 = c by omega, hp 9 [c] (by omega)]
      simp
    · rw [if_neg h3] at h
      have hpos : 0 < n * 128 + c % 128 := by
        by_cases hz : i = 0
        · have : c ≠ 128 := fun e => h1 ⟨hz, e⟩
          have := hi0 hz
          omega
        · have := hi1 (by omega); omega
      obtain ⟨k, e1, e2, e3, e4, e5⟩ := ih (n * 128 + c % 128) v (i + 1) u (pre ++ [c]) (fun x hx => hb x (by simp [hx])) (by omega) (fun _ => hpos) (fun h => by omega) (fun j ds hj => by
        cases j with
        | zero => simp at hj; omega
        | succ j =>
          rw [Int.pow_succ] at hj
          simp only [digF, if_pos hpos]
          rw [show (n * 128 + c % 128) / 128 = n by omega, show 128 + (n * 128 + c % 128) % 128 = c by omega, hp j (c :: ds) (by omega)]
          simp) h
      refine ⟨k + 1, by omega, by simp; omega, e3, e4, ?_⟩
      rw [e5]; simp
theorem num_least (l : List Int) (v : Int) (u : Nat) (hb : ∀ c ∈ l, 0 ≤ c ∧ c < 256) (h : numL l 0 0 = (v, u, 0)) : u ≤ l.length ∧ 0 ≤ v ∧ v < 18446744073709551616 ∧ dig v = l.take u := by
  obtain ⟨k, e1, e2, e3, e4, e5⟩ := num_canon l 0 v 0 u [] hb (by omega) (fun h => by omega) (fun _ => rfl) (fun j ds _ => by cases j <;> simp [digF]) h
  rw [show u = k by omega]
  exact ⟨by omega, e3, e4, by simpa using e5⟩
theorem sig_least (l : List Int) (v : Int) (u : Nat) (hb : ∀ c ∈ l, 0 ≤ c ∧ c < 256) (h : sigL l = (v, u, 0)) : u ≤ l.length ∧ -9223372036854775808 ≤ wrap64 v ∧ wrap64 v ≤ 9223372036854775807 ∧ sdig (wrap64 v) = l.take u := by
  cases l with
  | nil => simp [sigL] at h
  | cons c t =>
    obtain ⟨c0, c1⟩ := hb c (by simp)
    obtain ⟨n, k, er, hn⟩ : ∃ n k er, numL t 0 0 = (n, k, er) := ⟨_, _, _, rfl⟩
    simp only [sigL, hn] at h
    by_cases h1 : c ≠ 43 ∧ c ≠ 45
    · rw [if_pos h1] at h; simp at h
    rw [if_neg h1] at h
    by_cases h2 : er ≠ 0
    · rw [if_pos h2] at h; simp at h; exact absurd h.2.2 h2
    rw [if_neg h2] at h
    obtain rfl : er = 0 := by omega
    obtain ⟨q1, q2, q3, q4⟩ := num_least t n k (fun x hx => hb x (by simp [hx])) hn
    by_cases h3 : c = 45 ∧ n = 0
    · rw [if_pos h3] at h; simp at h
    rw [if_neg h3] at h
    by_cases h4 : 9223372036854775808 < n ∨ (n = 9223372036854775808 ∧ c = 43)
    · rw [if_pos h4] at h; simp at h
    rw [if_neg h4] at h
    simp only [Prod.mk.injEq] at h
    obtain ⟨e1, rfl, _⟩ := h
    by_cases h5 : c = 45
    · rw [if_pos h5] at e1
      have hw : wrap64 v = -n := by
        rw [← e1, IntKind.wrap_u64]; unfold wrap64; omega
      refine ⟨by simp; omega, by omega, by omega, ?_⟩
      rw [hw]
      unfold sdig
      rw [if_pos (by omega), show - -n = n by omega, q4, h5]; simp
    · rw [if_neg h5] at e1
      have hw : wrap64 v = n := by rw [← e1]; unfold wrap64; omega
      refine ⟨by simp; omega, by omega, by omega, ?_⟩
      rw [hw]
      unfold sdig
      rw [if_neg (by omega), q4, show c = 43 by omega]; simp
/-- The value of digits, behind a number. -/
def valF : Int → List Int → Int
  | n, [] => n
  | n, c :: t => valF (n * 128 + c % 128) t
/-- Digits of one shape: as many, high or low at the same places. -/
def Shape : List Int → List Int → Prop
  | [], [] => True
  | x :: s, y :: t => (0 ≤ x ∧ x < 256 ∧ 0 ≤ y ∧ y < 256 ∧ (x < 128 ↔ y < 128)) ∧ Shape s t
  | _, _ => False
theorem shape_len : ∀ (s t : List Int), Shape s t → s.length = t.length
  | [], [], _ => rfl
  | _ :: s, _ :: t, h => by rw [List.length_cons, List.length_cons, shape_len s t h.2]
  | [], _ :: _, h => h.elim
  | _ :: _, [], h => h.elim
theorem val_digF (j : Nat) : ∀ (x : Int) (ds : List Int), 0 ≤ x → x < 128 ^ j → valF 0 (digF j x ds) = valF x ds := by
  induction j with
  | zero => intro x ds h0 h1; simp at h1; rw [show x = 0 by omega]; rfl
  | succ j ih =>
    intro x ds h0 h1
    by_cases hx : 0 < x
    · rw [Int.pow_succ] at h1
      simp only [digF, if_pos hx]
      rw [ih (x / 128) _ (by omega) (by omega), valF, show x / 128 * 128 + (128 + x % 128) % 128 = x by omega]
    · rw [show x = 0 by omega]; simp [digF]
theorem val_dig (n : Int) (h0 : 0 ≤ n) (h1 : n < 18446744073709551616) : valF 0 (dig n) = n := by
  unfold dig
  rw [val_digF 9 _ _ (by omega) (by omega), valF, valF]; omega
theorem val_less : ∀ (s t : List Int) (n m : Int), s.length = t.length → n < m → valF n s < valF m t
  | [], [], n, m, _, h => h
  | x :: s, y :: t, n, m, hl, h => val_less s t _ _ (by simpa using hl) (by omega)
  | [], _ :: _, _, _, h, _ => by simp at h
  | _ :: _, [], _, _, h, _ => by simp at h
/-- The order of bytes. -/
def lexL : List Int → List Int → Bool
  | _, [] => false
  | [], _ :: _ => true
  | a :: x, b :: y => decide (a < b) || (a == b && lexL x y)
theorem lex_val : ∀ (s t : List Int) (n : Int), Shape s t → lexL s t = decide (valF n s < valF n t)
  | [], [], n, _ => by simp [lexL, valF]
  | x :: s, y :: t, n, h => by
    obtain ⟨⟨x0, x1, y0, y1, hxy⟩, h2⟩ := h
    have hl := shape_len s t h2
    simp only [lexL]
    by_cases h3 : x < y
    · rw [decide_eq_true h3, Bool.true_or]
      have hv : valF n (x :: s) < valF n (y :: t) := val_less s t (n * 128 + x % 128) (n * 128 + y % 128) hl (by omega)
      exact (decide_eq_true hv).symm
    · rw [decide_eq_false h3, Bool.false_or]
      by_cases h4 : x = y
      · subst h4
        rw [show (x == x) = true by simp, Bool.true_and]
        exact lex_val s t (n * 128 + x % 128) h2
      · rw [show (x == y) = false by simpa using h4, Bool.false_and]
        have hv : valF n (y :: t) < valF n (x :: s) := val_less t s (n * 128 + y % 128) (n * 128 + x % 128) hl.symm (by omega)
        exact (decide_eq_false (by omega)).symm
  | [], _ :: _, _, h => h.elim
  | _ :: _, [], _, h => h.elim
theorem digF_len2 (j : Nat) : ∀ (x y : Int) (ds es : List Int), x ≤ y → ds.length = es.length → (digF j x ds).length ≤ (digF j y es).length := by
  induction j with
  | zero => intro x y ds es _ h; simp [digF, h]
  | succ j ih =>
    intro x y ds es h hl
    by_cases hx : 0 < x
    · simp only [digF, if_pos hx, if_pos (show 0 < y by omega)]
      exact ih _ _ _ _ (by omega) (by simp [hl])
    · have := digF_len (j + 1) y es
      simp only [digF, if_neg hx] at this ⊢
      rw [hl]; exact this
theorem dig_shorter (a b : Int) (h : (dig a).length < (dig b).length) : a < b := by
  by_cases hab : b ≤ a
  · have := digF_len2 9 (b / 128) (a / 128) [b % 128] [a % 128] (by omega) rfl
    unfold dig at h; omega
  · omega
theorem digF_shape (j : Nat) : ∀ (x y : Int) (ds es : List Int), 0 ≤ x → 0 ≤ y → Shape ds es → (digF j x ds).length = (digF j y es).length → Shape (digF j x ds) (digF j y es) := by
  induction j with
  | zero => intro x y ds es _ _ h _; exact h
  | succ j ih =>
    intro x y ds es h0 h1 h hl
    have hle := shape_len ds es h
    by_cases hx : 0 < x <;> by_cases hy : 0 < y
    · simp only [digF, if_pos hx, if_pos hy] at hl ⊢
      exact ih _ _ _ _ (by omega) (by omega) ⟨⟨by omega, by omega, by omega, by omega, by omega⟩, h⟩ hl
    · simp only [digF, if_pos hx, if_neg hy] at hl
      have := digF_len j (x / 128) ((128 + x % 128) :: ds)
      rw [List.length_cons] at this; omega
    · simp only [digF, if_neg hx, if_pos hy] at hl
      have := digF_len j (y / 128) ((128 + y % 128) :: es)
      rw [List.length_cons] at this; omega
    · simp only [digF, if_neg hx, if_neg hy]; exact h
theorem dig_order (a b : Int) (ha : 0 ≤ a ∧ a < 18446744073709551616) (hb : 0 ≤ b ∧ b < 18446744073709551616) (h : (dig a).length = (dig b).length) : lexL (dig a) (dig b) = decide (a < b) := by
  have hs : Shape (dig a) (dig b) := digF_shape 9 _ _ _ _ (by omega) (by omega) ⟨⟨by omega, by omega, by omega, by omega, by omega⟩, trivial⟩ h
  rw [lex_val _ _ 0 hs, val_dig a ha.1 ha.2, val_dig b hb.1 hb.2]
theorem less_nums : ∀ (s t : List Int), (∀ x ∈ s, 0 ≤ x ∧ x < 256) → (∀ x ∈ t, 0 ≤ x ∧ x < 256) → Op.bytesLess (Lib.bytesOf s) (Lib.bytesOf t) = lexL s t
  | _, [], _, _ => by simp [Lib.bytesOf, Op.bytesLess, lexL]
  | [], _ :: _, _, _ => by simp [Lib.bytesOf, Op.bytesLess, lexL]
  | a :: x, b :: y, hs, ht => by
    obtain ⟨a0, a1⟩ := hs a (by simp)
    obtain ⟨b0, b1⟩ := ht b (by simp)
    have ih := less_nums x y (fun z hz => hs z (by simp [hz])) (fun z hz => ht z (by simp [hz]))
    have e1 : decide (UInt8.ofNat a.toNat < UInt8.ofNat b.toNat) = decide (a < b) := by
      rw [decide_eq_decide, UInt8.lt_iff_toNat_lt, UInt8.toNat_ofNat', UInt8.toNat_ofNat']; omega
    have e2 : (UInt8.ofNat a.toNat == UInt8.ofNat b.toNat) = (a == b) := by
      by_cases h : a = b
      · rw [h]; simp
      · have : UInt8.ofNat a.toNat ≠ UInt8.ofNat b.toNat := by
          intro hc
          have := congrArg UInt8.toNat hc
          rw [UInt8.toNat_ofNat', UInt8.toNat_ofNat'] at this; omega
        rw [show (a == b) = false by simpa using h]; simpa using this
    show (decide (UInt8.ofNat a.toNat < UInt8.ofNat b.toNat) || (UInt8.ofNat a.toNat == UInt8.ofNat b.toNat && Op.bytesLess (Lib.bytesOf x) (Lib.bytesOf y))) = _
    rw [e1, e2, ih]; rfl
theorem number_one (n : Int) (hn : 0 ≤ n ∧ n < 18446744073709551616) (g : Nat) (W : World) (hC : Kd.C (Kd.int .u64) W (some ⟨g, 0, none⟩) 1 [n]) :
    Calls Try.prog 29 #[.slice none 0 0, .slice (some ⟨g, 0, none⟩) 1 1] W fun e w' => ∃ B c, e = .returned (.slice B (dig n).length c) ∧ (dig n).length ≤ c ∧ Kd.C (Kd.int .u8) w' B (dig n).length (dig n) ∧ Below W.heap.size W w' := by
  obtain ⟨k, hk⟩ := number_loop [n] (fun y hy => by rw [List.mem_singleton.mp hy]; exact hn) (by simp) 1 0 [] (by simp) (by simp) (by simp)
  have hk2 : quill_Number.f k [] [n] = some (dig n) := by unfold quill_Number.f; simpa using hk
  refine (quill_Number.calls k (fun _ => False) (.slice none 0 0) [] (some ⟨g, 0, none⟩) 1 [n] (dig n) W W (Below.refl _ _) (Kd.R_nil _ _ _ _ _) (Kd.C_foot_neS (fun h => h) hC (fun _ _ _ h => h)) (by simp) hk2).mono ?_
  rintro e w1 ⟨v1, rfl, hr1, hb1, -⟩
  obtain ⟨A1, c1, rfl⟩ := Kd.R_slice hr1
  obtain ⟨_, hq, hC1⟩ := Kd.R_reads' hr1
  exact ⟨A1, c1, rfl, hq, hC1, hb1⟩
theorem signed_one (n : Int) (hn : -9223372036854775808 ≤ n ∧ n ≤ 9223372036854775807) (g : Nat) (W : World) (hC : Kd.C (Kd.int .i64) W (some ⟨g, 0, none⟩) 1 [n]) :
    Calls Try.prog 36 #[.slice none 0 0, .slice (some ⟨g, 0, none⟩) 1 1] W fun e w' => ∃ B c, e = .returned (.slice B (sdig n).length c) ∧ (sdig n).length ≤ c ∧ Kd.C (Kd.int .u8) w' B (sdig n).length (sdig n) ∧ Below W.heap.size W w' := by
  obtain ⟨k, hk⟩ := signed_loop [n] (fun y hy => by rw [List.mem_singleton.mp hy]; exact hn) (by simp) 1 0 [] (by simp) (by simp) (by simp)
  have hk2 : quill_Signed.f k [] [n] = some (sdig n) := by unfold quill_Signed.f; simpa using hk
  refine (quill_Signed.calls k (fun _ => False) (.slice none 0 0) [] (some ⟨g, 0, none⟩) 1 [n] (sdig n) W W (Below.refl _ _) (Kd.R_nil _ _ _ _ _) (Kd.C_foot_neS (fun h => h) hC (fun _ _ _ h => h)) (by simp) hk2).mono ?_
  rintro e w1 ⟨v1, rfl, hr1, hb1, -⟩
  obtain ⟨A1, c1, rfl⟩ := Kd.R_slice hr1
  obtain ⟨_, hq, hC1⟩ := Kd.R_reads' hr1
  exact ⟨A1, c1, rfl, hq, hC1, hb1⟩
theorem dig_byte (n : Int) (h0 : 0 ≤ n) : (dig n).all byteB = true := by
  have key : ∀ (j : Nat) (x : Int) (ds : List Int), 0 ≤ x → ds.all byteB = true → (digF j x ds).all byteB = true := by
    intro j
    induction j with
    | zero => intro x ds _ h; exact h
    | succ j ih =>
      intro x ds hx h; unfold digF; split
      · refine ih _ _ (by omega) ?_
        rw [List.all_cons, h, Bool.and_true]; simp [byteB]; omega
      · exact h
  refine key 9 _ _ (by omega) ?_
  simp [byteB]; omega
theorem num_res (p : List Int) (hb : ∀ c ∈ p, 0 ≤ c ∧ c < 256) {v i e s : Int} (h : quill_Strip_Number.f p 0 0 0 = some (v, i, e, s)) : (e ≠ 0 ∧ v = 0 ∧ i = 0) ∨ (e = 0 ∧ ∃ u : Nat, i = u ∧ u ≤ p.length ∧ (0 ≤ v ∧ v < 18446744073709551616) ∧ dig v = p.take u) := by
  have h : stripNumber_f p 0 0 0 = some (v, i, e, s) := h
  unfold stripNumber_f readP at h
  obtain ⟨n, k, er, hn⟩ : ∃ n k er, numL p 0 0 = (n, k, er) := ⟨_, _, _, rfl⟩
  simp only [Int.toNat_zero, List.drop_zero, hn] at h
  by_cases he : er = 0
  · subst he
    simp at h
    obtain ⟨rfl, rfl, rfl, rfl⟩ := h
    obtain ⟨q1, q2, q3, q4⟩ := num_least p n k hb hn
    exact .inr ⟨rfl, k, by simp, q1, ⟨q2, q3⟩, q4⟩
  · simp [he] at h
    obtain ⟨rfl, rfl, rfl, rfl⟩ := h
    exact .inl ⟨he, rfl, rfl⟩
theorem sig_res (p : List Int) (hb : ∀ c ∈ p, 0 ≤ c ∧ c < 256) {v i e s : Int} (h : quill_Strip_Signed.f p 0 0 0 = some (v, i, e, s)) : (e ≠ 0 ∧ v = 0 ∧ i = 0) ∨ (e = 0 ∧ ∃ u : Nat, i = u ∧ u ≤ p.length ∧ (-9223372036854775808 ≤ v ∧ v ≤ 9223372036854775807) ∧ sdig v = p.take u) := by
  have h : stripSigned_f p 0 0 0 = some (v, i, e, s) := h
  unfold stripSigned_f readP at h
  obtain ⟨n, k, er, hn⟩ : ∃ n k er, sigL p = (n, k, er) := ⟨_, _, _, rfl⟩
  simp only [Int.toNat_zero, List.drop_zero, hn] at h
  by_cases he : er = 0
  · subst he
    simp at h
    obtain ⟨rfl, rfl, rfl, rfl⟩ := h
    obtain ⟨q1, q2, q3, q4⟩ := sig_least p n k hb hn
    exact .inr ⟨rfl, k, by simp, q1, ⟨q2, q3⟩, q4⟩
  · simp [he] at h
    obtain ⟨rfl, rfl, rfl, rfl⟩ := h
    exact .inl ⟨he, by unfold wrap64; omega, rfl⟩
theorem dig_rng (n : Int) (h0 : 0 ≤ n) : ∀ x ∈ dig n, 0 ≤ x ∧ x < 256 := fun x hx => of_decide_eq_true (List.all_eq_true.mp (dig_byte n h0) x hx)
theorem two_apart_ {w w3 w4 : World} {g1 g2 : Nat} : True := trivial
theorem lit1 (w : World) (k : IntKind) (t : Nat) (n : Int) : Kd.C (Kd.int k) (w.alloc (.cells #[.int k n] t)) (some ⟨w.heap.size, 0, none⟩) 1 [n] := lit_reads w k t [n] (by simp)
set_option maxHeartbeats 4000000 in
set_option maxRecDepth 100000 in
theorem least_law (A : Option Addr) (c : Nat) (p : List Int) (a b : Int) (w : World) (hr : Kd.C (Kd.int .u8) w A p.length p) (hc : p.length ≤ c) (hb : ∀ x ∈ p, 0 ≤ x ∧ x < 256) (ha : 0 ≤ a ∧ a < 18446744073709551616) (hb2 : 0 ≤ b ∧ b < 18446744073709551616) :
    Calls Try.prog 8 #[.slice A p.length c, .int .u64 a, .int .u64 b] w fun e w' => e = .returned (.bool true) ∧ Below w.heap.size w w' := by
  have HR := Aside0.mk hr; have HBY := Aside0.mk hb
  have hlm := hr.2.1
  clear hr hb
  go_enter Try.func8, Try.ntmps8
  by_cases h1 : 20000 < (p.length : Int)
  · have d1 : decide (20000 < (p.length : Int)) = true := decide_eq_true h1
    go_wp2_with fail
    refine (klaxonlaw01_live.calls true _ rfl).mono ?_
    rintro e w1 ⟨rfl, hb⟩
    have HB := Aside0.mk hb
    clear hb
    go_wp2_with fail
    go_ret
    exact ⟨rfl, HB.out⟩
  have d1 : decide (20000 < (p.length : Int)) = false := decide_eq_false h1
  have L1 := lit1 w .u64 51 a
  go_wp2_with fail
  refine (number_one a ha _ _ L1).mono ?_
  rintro e w1 ⟨B1, c1, rfl, hq1, hC1, hb1⟩
  have L2 := lit1 w1 .u64 51 b
  have HB := Aside0.mk (below_step (below_alloc (Below.refl w.heap.size w) (.cells #[.int .u64 a] 51)) hb1)
  have HC1 := Aside0.mk hC1; have HQ1 := Aside0.mk hq1
  clear hb1 hC1 hq1 L1
  go_wp2_with fail
  refine (number_one b hb2 _ _ L2).mono ?_
  rintro e w2 ⟨B2, c2, rfl, hq2, hC2, hb2'⟩
  have hb12 : Below w1.heap.size w1 w2 := below_step (below_alloc (Below.refl w1.heap.size w1) (.cells #[.int .u64 b] 51)) hb2'
  have HB := Aside0.mk (below_step HB.out hb12)
  have HC1 := Aside0.mk (Kd.C_below HC1.out hb12); have HC2 := Aside0.mk hC2; have HQ2 := Aside0.mk hq2
  have cv1 : (convert 50 9 (.slice B1 (dig a).length c1)).run Try.prog w2 = .ok (.string (strOfNums (dig a))) w2 := Kd.C_string (c := c1) Try.underlying50 Try.underlying5 Try.underlying9 HC1.out
  have cv2 : (convert 50 9 (.slice B2 (dig b).length c2)).run Try.prog w2 = .ok (.string (strOfNums (dig b))) w2 := Kd.C_string (c := c2) Try.underlying50 Try.underlying5 Try.underlying9 HC2.out
  clear hb2' hb12 hC2 hq2 L2
  have hord : (dig a).length = (dig b).length → Op.bytesLess (strOfNums (dig a)).toList (strOfNums (dig b)).toList = decide (a < b) := by
    intro h
    rw [Lib.strOfNums_toList, Lib.strOfNums_toList, less_nums _ _ (dig_rng a ha.1) (dig_rng b hb2.1), dig_order a b ha hb2 h]
  have hsh : (dig a).length < (dig b).length → a < b := dig_shorter a b
  obtain ⟨la, hla⟩ : ∃ n, (dig a).length = n := ⟨_, rfl⟩
  obtain ⟨lb, hlb⟩ : ∃ n, (dig b).length = n := ⟨_, rfl⟩
  obtain ⟨sa, hsa⟩ : ∃ n, strOfNums (dig a) = n := ⟨_, rfl⟩
  obtain ⟨sb, hsb⟩ : ∃ n, strOfNums (dig b) = n := ⟨_, rfl⟩
  rw [hla, hlb, hsa, hsb] at hord
  rw [hla, hlb] at hsh
  rw [hla, hsa] at cv1
  rw [hlb, hsb] at cv2
  rw [hla, hlb]
  have HORD := Aside0.mk hord; have HSH := Aside0.mk hsh
  clear hord hsh hla hlb hsa hsb HC1 HC2 HQ1 HQ2
  go_upto_region 4 with (fail)
  go_cut [54] from 27 (fun s54 wx => s54 = .bool false ∧ wx = w2)
  case first =>
    by_cases hl : la = lb
    · subst hl
      have e2 := HORD.out rfl
      have e5 : ((la : Int) == (la : Int)) = true := by simp
      go_wp2_with fail
      go_meet
      exact ⟨rfl, rfl⟩
    · have e1 : ((la : Int) == (lb : Int)) = false := beq_eq_false_iff_ne.mpr (by omega)
      by_cases h2 : la < lb
      · have e2 : decide (la < lb) = true := decide_eq_true h2
        have e3 : decide (b ≤ a) = false := decide_eq_false (by have := HSH.out h2; omega)
        clear h2 hl
        go_wp2_with fail
        go_meet
        exact ⟨rfl, rfl⟩
      · have e2 : decide (la < lb) = false := decide_eq_false h2
        clear h2 hl
        go_wp2_with fail
        go_meet
        exact ⟨rfl, rfl⟩
  case rest =>
    obtain ⟨rfl, rfl⟩ := hcut
    have hun : quill_Unroll.f p = some (p, 0, 0, 0) := by
      show unroll_f p = _
      unfold unroll_f
      rw [if_pos ⟨by omega, List.all_eq_true.mpr fun x hx => decide_eq_true (HBY.out x hx)⟩]
    have HUN := Aside0.mk hun
    clear hun cv1 cv2
    go_wp2_with fail
    refine (quill_Unroll.calls A c p _ _ _ _ w _ HB.out (Kd.C_below HR.out HB.out) hc HUN.out).mono ?_
    rintro e w3 ⟨g1, rfl, hi1, hb3, hb23⟩
    have HI1 := Aside0.mk hi1; have HB := Aside0.mk hb3
    clear hi1 hb3 hb23
    go_wp2_with fail
    refine (quill_Unroll.calls A c p _ _ _ _ w3 w3 (Below.refl _ _) (Kd.C_below HR.out HB.out) hc HUN.out).mono ?_
    rintro e w4 ⟨g2, rfl, hi2, _, hb34⟩
    have hi1' := IsS91.below HI1.out hb34
    have hg12 : g2 ≠ g1 := by have x := HI1.out.lt; have y := hi2.ge; omega
    have HI2 := Aside0.mk (rebase hi2 HB.out.size)
    have HI1 := Aside0.mk hi1'
    have HB := Aside0.mk (below_step HB.out hb34)
    have HG := Aside0.mk hg12
    clear hi1' hi2 hb34 hg12
    obtain ⟨v1, i1, e1, s1, hr1⟩ : ∃ v i e s, quill_Strip_Number.f p 0 0 0 = some (v, i, e, s) := ⟨_, _, _, _, rfl⟩
    obtain ⟨v2, i2, e2, s2, hr2⟩ : ∃ v i e s, quill_Strip_Signed.f p 0 0 0 = some (v, i, e, s) := ⟨_, _, _, _, rfl⟩
    have HR1 := Aside0.mk hr1; have HR2 := Aside0.mk hr2
    clear hr1 hr2
    go_wp2_with fail
    refine (quill_Strip_Number.calls g1 p 0 0 0 _ _ _ _ w _ HI1.out HB.out HR1.out).mono ?_
    rintro e w5 ⟨rfl, hi, hb, hk⟩
    have HI2 := Aside0.mk (StripIs.other HI2.out HI1.out HG.out hk)
    have HI1 := Aside0.mk hi
    have HB := Aside0.mk hb
    clear hi hb hk
    go_wp2_with fail
    refine (bad_calls g1 p i1 e1 s1 w _ HI1.out).mono ?_
    rintro e w6 ⟨rfl, hd⟩
    have HI1 := Aside0.mk (IsS91.below HI1.out (Drawn0.below hd)); have HI2 := Aside0.mk (IsS91.below HI2.out (Drawn0.below hd)); have HB := Aside0.mk (below_step HB.out (Drawn0.below hd))
    clear hd
    go_wp2_with fail
    refine (quill_Strip_Signed.calls g2 p 0 0 0 _ _ _ _ w _ HI2.out HB.out HR2.out).mono ?_
    rintro e w7 ⟨rfl, hi, hb, hk⟩
    have HI1 := Aside0.mk (StripIs.other HI1.out HI2.out HG.out.symm hk)
    have HI2 := Aside0.mk hi
    have HB := Aside0.mk hb
    clear hi hb hk
    go_wp2_with fail
    refine (bad_calls g2 p i2 e2 s2 w _ HI2.out).mono ?_
    rintro e w8 ⟨rfl, hd⟩
    have HI1 := Aside0.mk (IsS91.below HI1.out (Drawn0.below hd)); have HI2 := Aside0.mk (IsS91.below HI2.out (Drawn0.below hd)); have HB := Aside0.mk (below_step HB.out (Drawn0.below hd))
    clear hd
    have N1 := num_res p HBY.out HR1.out
    have N2 := sig_res p HBY.out HR2.out
    clear HR1 HR2 HORD HSH
    rcases N1 with ⟨hne1, rfl, rfl⟩ | ⟨rfl, u1, rfl, hu1, V1_, D1_⟩
    · rcases N2 with ⟨hne2, rfl, rfl⟩ | ⟨rfl, u2, rfl, hu2, V2_, D2_⟩
      · skip
        have ne1 : (e1 != 0) = true := bne_iff_ne.mpr (by omega)
        have ee1 : (e1 == 0) = false := beq_eq_false_iff_ne.mpr (by omega)
        have ne2 : (e2 != 0) = true := bne_iff_ne.mpr (by omega)
        have ee2 : (e2 == 0) = false := beq_eq_false_iff_ne.mpr (by omega)
        go_wp2_with fail
        refine (klaxonlaw01_num.calls e1 e1 _ rfl).mono ?_
        rintro e w9 ⟨rfl, hd⟩
        have HI1 := Aside0.mk (IsS91.below HI1.out (Drawn0.below hd)); have HI2 := Aside0.mk (IsS91.below HI2.out (Drawn0.below hd)); have HB := Aside0.mk (below_step HB.out (Drawn0.below hd)); clear hd
        go_wp2_with fail
        refine (where_calls g1 p 0 e1 s1 w _ HI1.out).mono ?_
        rintro e w10 ⟨rfl, hd⟩
        have HI1 := Aside0.mk (IsS91.below HI1.out (Drawn0.below hd)); have HI2 := Aside0.mk (IsS91.below HI2.out (Drawn0.below hd)); have HB := Aside0.mk (below_step HB.out (Drawn0.below hd)); clear hd
        go_wp2_with fail
        refine (klaxonlaw01_num.calls e2 e2 _ rfl).mono ?_
        rintro e w9 ⟨rfl, hd⟩
        have HI1 := Aside0.mk (IsS91.below HI1.out (Drawn0.below hd)); have HI2 := Aside0.mk (IsS91.below HI2.out (Drawn0.below hd)); have HB := Aside0.mk (below_step HB.out (Drawn0.below hd)); clear hd
        go_wp2_with fail
        refine (where_calls g2 p 0 e2 s2 w _ HI2.out).mono ?_
        rintro e w10 ⟨rfl, hd⟩
        have HI1 := Aside0.mk (IsS91.below HI1.out (Drawn0.below hd)); have HI2 := Aside0.mk (IsS91.below HI2.out (Drawn0.below hd)); have HB := Aside0.mk (below_step HB.out (Drawn0.below hd)); clear hd
        go_upto_region 15 with (fail)
        have HRF := Aside0.mk (fun W : World => Below.refl W.heap.size W)
        obtain ⟨Inv, hInv⟩ : ∃ I : World → Prop, I = fun W => IsS91 w W g1 p 0 e1 s1 ∧ IsS91 w W g2 p 0 e2 s2 ∧ Below w.heap.size w W := ⟨_, rfl⟩
        have HI9 := Aside0.mk (show Inv _ by rw [hInv]; exact ⟨HI1.out, HI2.out, HB.out⟩)
        have IB : ∀ W W', Inv W → Below W.heap.size W W' → Inv W' := by rw [hInv]; exact fun W W' ⟨b1, b2, b3⟩ hb => ⟨IsS91.below b1 hb, IsS91.below b2 hb, below_step b3 hb⟩
        have IW : ∀ W, Inv W → Below w.heap.size w W := by rw [hInv]; exact fun W h => h.2.2
        have TE1 : ∀ W, Inv W → Calls Try.prog 34 #[.int .i64 (e1)] W fun e w' => e = .returned (.int .i64 (e1)) ∧ Inv w' ∧ Below W.heap.size W w' := fun W h => (klaxonlaw01_num.calls _ _ W rfl).mono fun e w' ⟨he, hd⟩ => ⟨he, IB _ _ h (Drawn0.below hd), Drawn0.below hd⟩
        have TE2 : ∀ W, Inv W → Calls Try.prog 34 #[.int .i64 (e2)] W fun e w' => e = .returned (.int .i64 (e2)) ∧ Inv w' ∧ Below W.heap.size W w' := fun W h => (klaxonlaw01_num.calls _ _ W rfl).mono fun e w' ⟨he, hd⟩ => ⟨he, IB _ _ h (Drawn0.below hd), Drawn0.below hd⟩
        have TW1 : ∀ W, Inv W → Calls Try.prog 35 #[.pointer (some ⟨g1, 0, none⟩)] W fun e w' => e = .returned (.int .i64 (0)) ∧ Inv w' ∧ Below W.heap.size W w' := fun W h => (where_calls g1 p _ _ _ w W (by have h := h; rw [hInv] at h; exact h.1)).mono fun e w' ⟨he, hd⟩ => ⟨he, IB _ _ h (Drawn0.below hd), Drawn0.below hd⟩
        have TW2 : ∀ W, Inv W → Calls Try.prog 35 #[.pointer (some ⟨g2, 0, none⟩)] W fun e w' => e = .returned (.int .i64 (0)) ∧ Inv w' ∧ Below W.heap.size W w' := fun W h => (where_calls g2 p _ _ _ w W (by have h := h; rw [hInv] at h; exact h.2.1)).mono fun e w' ⟨he, hd⟩ => ⟨he, IB _ _ h (Drawn0.below hd), Drawn0.below hd⟩
        have SF : ∀ W, Inv W → (True) := fun W hW => trivial
        have IB := Aside0.mk IB; have IW := Aside0.mk IW; have TE1 := Aside0.mk TE1; have TE2 := Aside0.mk TE2; have TW1 := Aside0.mk TW1; have TW2 := Aside0.mk TW2; have SF := Aside0.mk SF
        clear hInv
        refine' wp_region_flow (by kernel_rfl) (by kernel_rfl) Inv (fun W W' => Below W.heap.size W W') HRF.out (IB.out _ _ HI9.out (below_drew1 (Below.refl _ _))) _ ?_
        rotate_left
        refine' Flow.val _ 0 (some 105) (Op.move (Operand.tmp 12)) 32 (none) [] _ rfl (by kernel_rfl) (by kernel_rfl) (by kernel_rfl) (by rfl) ?_ ?_ HRF.out
        rotate_left 2
        · (intro W hW hK; go_simp; first | done | with_reducible rfl)
        try simp only [Act.put, List.setIfInBounds_toArray, List.set_cons_zero, List.set_cons_succ]
        refine' Flow.call _ 1 (some 106) (Op.call { callee := Callee.value (Operand.func 34), args := #[Operand.tmp 105], argTypes := #[32] }) 3 (none) [] _ 34 _ rfl (by kernel_rfl) (by kernel_rfl) (by kernel_rfl) (by rfl) ?_ ?_ ?_
        rotate_left 3
        · (intro W; go_simp; first | done | with_reducible rfl)
        · (intro W hW hK; refine (TE1.out W hW).mono ?_; intro e w' h; exact h)
        try simp only [Act.put, List.setIfInBounds_toArray, List.set_cons_zero, List.set_cons_succ]
        refine' Flow.val _ 2 (some 107) (Op.binOp BinOp.eql 3 (Operand.tmp 106) (Operand.const (Value.int IntKind.i64 0)) 3) 4 (none) [] _ rfl (by kernel_rfl) (by kernel_rfl) (by kernel_rfl) (by rfl) ?_ ?_ HRF.out
        rotate_left 2
        · (intro W hW hK; go_simp; first | done | with_reducible rfl)
        try simp only [Act.put, List.setIfInBounds_toArray, List.set_cons_zero, List.set_cons_succ]
        refine' Flow.val _ 3 (some 108) (Op.move (Operand.tmp 107)) 4 (none) [] _ rfl (by kernel_rfl) (by kernel_rfl) (by kernel_rfl) (by rfl) ?_ ?_ HRF.out
        rotate_left 2
        · (intro W hW hK; go_simp; first | done | with_reducible rfl)
        try simp only [Act.put, List.setIfInBounds_toArray, List.set_cons_zero, List.set_cons_succ]
        refine' Flow.not _ 4 (some 109) (Op.move (Operand.tmp 11)) 51 (some (3, true)) rfl (by kernel_rfl) (by kernel_rfl) (by rfl) ?_
        rotate_left
        try simp only [Act.put, List.setIfInBounds_toArray, List.set_cons_zero, List.set_cons_succ]
        refine' Flow.not _ 5 (some 110) (Op.buildSlice 65 1 #[(0, Operand.tmp 109)]) 65 (some (3, true)) rfl (by kernel_rfl) (by kernel_rfl) (by rfl) ?_
        rotate_left
        try simp only [Act.put, List.setIfInBounds_toArray, List.set_cons_zero, List.set_cons_succ]
        refine' Flow.not _ 6 (some 111) (Op.call { callee := Callee.value (Operand.func 29), args := #[Operand.const (Value.slice none 0 0), Operand.tmp 110], argTypes := #[50, 65] }) 50 (some (3, true)) rfl (by kernel_rfl) (by kernel_rfl) (by rfl) ?_
        rotate_left
        try simp only [Act.put, List.setIfInBounds_toArray, List.set_cons_zero, List.set_cons_succ]
        refine' Flow.not _ 7 (some 112) (Op.convert 50 9 (Operand.tmp 111)) 9 (some (3, true)) rfl (by kernel_rfl) (by kernel_rfl) (by rfl) ?_
        rotate_left
        try simp only [Act.put, List.setIfInBounds_toArray, List.set_cons_zero, List.set_cons_succ]
        refine' Flow.not _ 8 (some 113) (Op.move (Operand.tmp 0)) 50 (some (3, true)) rfl (by kernel_rfl) (by kernel_rfl) (by rfl) ?_
        rotate_left
        try simp only [Act.put, List.setIfInBounds_toArray, List.set_cons_zero, List.set_cons_succ]
        refine' Flow.not _ 9 (some 114) (Op.move (Operand.tmp 9)) 53 (some (3, true)) rfl (by kernel_rfl) (by kernel_rfl) (by rfl) ?_
        rotate_left
        try simp only [Act.put, List.setIfInBounds_toArray, List.set_cons_zero, List.set_cons_succ]
        refine' Flow.not _ 10 (some 115) (Op.call { callee := Callee.value (Operand.func 35), args := #[Operand.tmp 114], argTypes := #[53] }) 3 (some (3, true)) rfl (by kernel_rfl) (by kernel_rfl) (by rfl) ?_
        rotate_left
        try simp only [Act.put, List.setIfInBounds_toArray, List.set_cons_zero, List.set_cons_succ]
        refine' Flow.not _ 11 (some 116) (Op.slice 50 (Operand.tmp 113) none (some (Operand.tmp 115)) none) 50 (some (3, true)) rfl (by kernel_rfl) (by kernel_rfl) (by rfl) ?_
        rotate_left
        try simp only [Act.put, List.setIfInBounds_toArray, List.set_cons_zero, List.set_cons_succ]
        refine' Flow.not _ 12 (some 117) (Op.convert 50 9 (Operand.tmp 116)) 9 (some (3, true)) rfl (by kernel_rfl) (by kernel_rfl) (by rfl) ?_
        rotate_left
        try simp only [Act.put, List.setIfInBounds_toArray, List.set_cons_zero, List.set_cons_succ]
        refine' Flow.not _ 13 (some 118) (Op.binOp BinOp.neq 9 (Operand.tmp 112) (Operand.tmp 117) 9) 4 (some (3, true)) rfl (by kernel_rfl) (by kernel_rfl) (by rfl) ?_
        rotate_left
        try simp only [Act.put, List.setIfInBounds_toArray, List.set_cons_zero, List.set_cons_succ]
        refine' Flow.val _ 14 (some 119) (Op.pick (Operand.tmp 108) (Operand.tmp 118) (Operand.const (Value.bool false))) 4 (none) [] _ rfl (by kernel_rfl) (by kernel_rfl) (by kernel_rfl) (by rfl) ?_ ?_ HRF.out
        rotate_left 2
        · (intro W hW hK; go_simp; first | done | with_reducible rfl)
        try simp only [Act.put, List.setIfInBounds_toArray, List.set_cons_zero, List.set_cons_succ]
        refine' Flow.val _ 15 (some 120) (Op.move (Operand.tmp 119)) 4 (none) [] _ rfl (by kernel_rfl) (by kernel_rfl) (by kernel_rfl) (by rfl) ?_ ?_ HRF.out
        rotate_left 2
        · (intro W hW hK; go_simp; first | done | with_reducible rfl)
        try simp only [Act.put, List.setIfInBounds_toArray, List.set_cons_zero, List.set_cons_succ]
        refine' Flow.val _ 16 (some 121) (Op.move (Operand.tmp 15)) 32 (some (15, false)) [] _ rfl (by kernel_rfl) (by kernel_rfl) (by kernel_rfl) (by rfl) ?_ ?_ HRF.out
        rotate_left 2
        · (intro W hW hK; go_simp; first | done | with_reducible rfl)
        try simp only [Act.put, List.setIfInBounds_toArray, List.set_cons_zero, List.set_cons_succ]
        refine' Flow.call _ 17 (some 122) (Op.call { callee := Callee.value (Operand.func 34), args := #[Operand.tmp 121], argTypes := #[32] }) 3 (some (15, false)) [] _ 34 _ rfl (by kernel_rfl) (by kernel_rfl) (by kernel_rfl) (by rfl) ?_ ?_ ?_
        rotate_left 3
        · (intro W; go_simp; first | done | with_reducible rfl)
        · (intro W hW hK; refine (TE2.out W hW).mono ?_; intro e w' h; exact h)
        try simp only [Act.put, List.setIfInBounds_toArray, List.set_cons_zero, List.set_cons_succ]
        refine' Flow.val _ 18 (some 123) (Op.binOp BinOp.eql 3 (Operand.tmp 122) (Operand.const (Value.int IntKind.i64 0)) 3) 4 (some (15, false)) [] _ rfl (by kernel_rfl) (by kernel_rfl) (by kernel_rfl) (by rfl) ?_ ?_ HRF.out
        rotate_left 2
        · (intro W hW hK; go_simp; first | done | with_reducible rfl)
        try simp only [Act.put, List.setIfInBounds_toArray, List.set_cons_zero, List.set_cons_succ]
        refine' Flow.val _ 19 (some 124) (Op.move (Operand.tmp 123)) 4 (some (15, false)) [] _ rfl (by kernel_rfl) (by kernel_rfl) (by kernel_rfl) (by rfl) ?_ ?_ HRF.out
        rotate_left 2
        · (intro W hW hK; go_simp; first | done | with_reducible rfl)
        try simp only [Act.put, List.setIfInBounds_toArray, List.set_cons_zero, List.set_cons_succ]
        refine' Flow.not _ 20 (some 125) (Op.move (Operand.tmp 14)) 2 (some (19, true)) rfl (by kernel_rfl) (by kernel_rfl) (by rfl) ?_
        rotate_left
        try simp only [Act.put, List.setIfInBounds_toArray, List.set_cons_zero, List.set_cons_succ]
        refine' Flow.not _ 21 (some 126) (Op.buildSlice 41 1 #[(0, Operand.tmp 125)]) 41 (some (19, true)) rfl (by kernel_rfl) (by kernel_rfl) (by rfl) ?_
        rotate_left
        try simp only [Act.put, List.setIfInBounds_toArray, List.set_cons_zero, List.set_cons_succ]
        refine' Flow.not _ 22 (some 127) (Op.call { callee := Callee.value (Operand.func 36), args := #[Operand.const (Value.slice none 0 0), Operand.tmp 126], argTypes := #[50, 41] }) 50 (some (19, true)) rfl (by kernel_rfl) (by kernel_rfl) (by rfl) ?_
        rotate_left
        try simp only [Act.put, List.setIfInBounds_toArray, List.set_cons_zero, List.set_cons_succ]
        refine' Flow.not _ 23 (some 128) (Op.convert 50 9 (Operand.tmp 127)) 9 (some (19, true)) rfl (by kernel_rfl) (by kernel_rfl) (by rfl) ?_
        rotate_left
        try simp only [Act.put, List.setIfInBounds_toArray, List.set_cons_zero, List.set_cons_succ]
        refine' Flow.not _ 24 (some 129) (Op.move (Operand.tmp 0)) 50 (some (19, true)) rfl (by kernel_rfl) (by kernel_rfl) (by rfl) ?_
        rotate_left
        try simp only [Act.put, List.setIfInBounds_toArray, List.set_cons_zero, List.set_cons_succ]
        refine' Flow.not _ 25 (some 130) (Op.move (Operand.tmp 10)) 53 (some (19, true)) rfl (by kernel_rfl) (by kernel_rfl) (by rfl) ?_
        rotate_left
        try simp only [Act.put, List.setIfInBounds_toArray, List.set_cons_zero, List.set_cons_succ]
        refine' Flow.not _ 26 (some 131) (Op.call { callee := Callee.value (Operand.func 35), args := #[Operand.tmp 130], argTypes := #[53] }) 3 (some (19, true)) rfl (by kernel_rfl) (by kernel_rfl) (by rfl) ?_
        rotate_left
        try simp only [Act.put, List.setIfInBounds_toArray, List.set_cons_zero, List.set_cons_succ]
        refine' Flow.not _ 27 (some 132) (Op.slice 50 (Operand.tmp 129) none (some (Operand.tmp 131)) none) 50 (some (19, true)) rfl (by kernel_rfl) (by kernel_rfl) (by rfl) ?_
        rotate_left
        try simp only [Act.put, List.setIfInBounds_toArray, List.set_cons_zero, List.set_cons_succ]
        refine' Flow.not _ 28 (some 133) (Op.convert 50 9 (Operand.tmp 132)) 9 (some (19, true)) rfl (by kernel_rfl) (by kernel_rfl) (by rfl) ?_
        rotate_left
        try simp only [Act.put, List.setIfInBounds_toArray, List.set_cons_zero, List.set_cons_succ]
        refine' Flow.not _ 29 (some 134) (Op.binOp BinOp.neq 9 (Operand.tmp 128) (Operand.tmp 133) 9) 4 (some (19, true)) rfl (by kernel_rfl) (by kernel_rfl) (by rfl) ?_
        rotate_left
        try simp only [Act.put, List.setIfInBounds_toArray, List.set_cons_zero, List.set_cons_succ]
        refine' Flow.val _ 30 (some 135) (Op.pick (Operand.tmp 124) (Operand.tmp 134) (Operand.const (Value.bool false))) 4 (some (15, false)) [] _ rfl (by kernel_rfl) (by kernel_rfl) (by kernel_rfl) (by rfl) ?_ ?_ HRF.out
        rotate_left 2
        · (intro W hW hK; go_simp; first | done | with_reducible rfl)
        try simp only [Act.put, List.setIfInBounds_toArray, List.set_cons_zero, List.set_cons_succ]
        refine' Flow.val _ 31 (some 136) (Op.pick (Operand.tmp 120) (Operand.const (Value.bool true)) (Operand.tmp 135)) 4 (none) [] _ rfl (by kernel_rfl) (by kernel_rfl) (by kernel_rfl) (by rfl) ?_ ?_ HRF.out
        rotate_left 2
        · (intro W hW hK; go_simp; first | done | with_reducible rfl)
        try simp only [Act.put, List.setIfInBounds_toArray, List.set_cons_zero, List.set_cons_succ]
        refine' Flow.done _ (by kernel_rfl) ?_
        intro W hW hK
        clear hK
        go_wp2_with fail
        refine (klaxonlaw01_live.calls true _ rfl).mono ?_
        rintro e w11 ⟨rfl, hb⟩
        have HB := Aside0.mk (below_step (IW.out _ hW) hb)
        clear hb
        go_wp2_with fail
        go_ret
        exact ⟨rfl, HB.out⟩
      · have V2 := Aside0.mk V2_; have D2 := Aside0.mk D2_; have hcu2 : u2 ≤ c := Nat.le_trans hu2 hc; have hcv2 : (u2 : Int) ≤ (c : Int) := (by omega); clear V2_ D2_
        have ne1 : (e1 != 0) = true := bne_iff_ne.mpr (by omega)
        have ee1 : (e1 == 0) = false := beq_eq_false_iff_ne.mpr (by omega)
        go_wp2_with fail
        refine (klaxonlaw01_num.calls e1 e1 _ rfl).mono ?_
        rintro e w9 ⟨rfl, hd⟩
        have HI1 := Aside0.mk (IsS91.below HI1.out (Drawn0.below hd)); have HI2 := Aside0.mk (IsS91.below HI2.out (Drawn0.below hd)); have HB := Aside0.mk (below_step HB.out (Drawn0.below hd)); clear hd
        go_wp2_with fail
        refine (where_calls g1 p 0 e1 s1 w _ HI1.out).mono ?_
        rintro e w10 ⟨rfl, hd⟩
        have HI1 := Aside0.mk (IsS91.below HI1.out (Drawn0.below hd)); have HI2 := Aside0.mk (IsS91.below HI2.out (Drawn0.below hd)); have HB := Aside0.mk (below_step HB.out (Drawn0.below hd)); clear hd
        go_wp2_with fail
        refine (klaxonlaw01_num.calls 0 0 _ rfl).mono ?_
        rintro e w9 ⟨rfl, hd⟩
        have HI1 := Aside0.mk (IsS91.below HI1.out (Drawn0.below hd)); have HI2 := Aside0.mk (IsS91.below HI2.out (Drawn0.below hd)); have HB := Aside0.mk (below_step HB.out (Drawn0.below hd)); clear hd
        go_upto_region 15 with (fail)
        have HRF := Aside0.mk (fun W : World => Below.refl W.heap.size W)
        obtain ⟨Inv, hInv⟩ : ∃ I : World → Prop, I = fun W => IsS91 w W g1 p 0 e1 s1 ∧ IsS91 w W g2 p u2 0 s2 ∧ Below w.heap.size w W := ⟨_, rfl⟩
        have HI9 := Aside0.mk (show Inv _ by rw [hInv]; exact ⟨HI1.out, HI2.out, HB.out⟩)
        have IB : ∀ W W', Inv W → Below W.heap.size W W' → Inv W' := by rw [hInv]; exact fun W W' ⟨b1, b2, b3⟩ hb => ⟨IsS91.below b1 hb, IsS91.below b2 hb, below_step b3 hb⟩
        have IW : ∀ W, Inv W → Below w.heap.size w W := by rw [hInv]; exact fun W h => h.2.2
        have TE1 : ∀ W, Inv W → Calls Try.prog 34 #[.int .i64 (e1)] W fun e w' => e = .returned (.int .i64 (e1)) ∧ Inv w' ∧ Below W.heap.size W w' := fun W h => (klaxonlaw01_num.calls _ _ W rfl).mono fun e w' ⟨he, hd⟩ => ⟨he, IB _ _ h (Drawn0.below hd), Drawn0.below hd⟩
        have TE2 : ∀ W, Inv W → Calls Try.prog 34 #[.int .i64 (0)] W fun e w' => e = .returned (.int .i64 (0)) ∧ Inv w' ∧ Below W.heap.size W w' := fun W h => (klaxonlaw01_num.calls _ _ W rfl).mono fun e w' ⟨he, hd⟩ => ⟨he, IB _ _ h (Drawn0.below hd), Drawn0.below hd⟩
        have TW1 : ∀ W, Inv W → Calls Try.prog 35 #[.pointer (some ⟨g1, 0, none⟩)] W fun e w' => e = .returned (.int .i64 (0)) ∧ Inv w' ∧ Below W.heap.size W w' := fun W h => (where_calls g1 p _ _ _ w W (by have h := h; rw [hInv] at h; exact h.1)).mono fun e w' ⟨he, hd⟩ => ⟨he, IB _ _ h (Drawn0.below hd), Drawn0.below hd⟩
        have TW2 : ∀ W, Inv W → Calls Try.prog 35 #[.pointer (some ⟨g2, 0, none⟩)] W fun e w' => e = .returned (.int .i64 (u2)) ∧ Inv w' ∧ Below W.heap.size W w' := fun W h => (where_calls g2 p _ _ _ w W (by have h := h; rw [hInv] at h; exact h.2.1)).mono fun e w' ⟨he, hd⟩ => ⟨he, IB _ _ h (Drawn0.below hd), Drawn0.below hd⟩
        have SF : ∀ W, Inv W → ((convert 50 9 (.slice A u2 c)).run Try.prog W = .ok (.string (strOfNums (sdig v2))) W) := fun W hW => (by have h := Kd.C_take (m := u2) (Kd.C_below HR.out (IW W hW)) (by omega); rw [show (p.take u2).length = u2 by rw [List.length_take]; omega] at h; rw [D2.out]; exact Kd.C_string (c := c) Try.underlying50 Try.underlying5 Try.underlying9 h)
        have IB := Aside0.mk IB; have IW := Aside0.mk IW; have TE1 := Aside0.mk TE1; have TE2 := Aside0.mk TE2; have TW1 := Aside0.mk TW1; have TW2 := Aside0.mk TW2; have SF := Aside0.mk SF
        clear hInv
        refine' wp_region_flow (by kernel_rfl) (by kernel_rfl) Inv (fun W W' => Below W.heap.size W W') HRF.out (IB.out _ _ HI9.out (below_drew1 (Below.refl _ _))) _ ?_
        rotate_left
        refine' Flow.val _ 0 (some 105) (Op.move (Operand.tmp 12)) 32 (none) [] _ rfl (by kernel_rfl) (by kernel_rfl) (by kernel_rfl) (by rfl) ?_ ?_ HRF.out
        rotate_left 2
        · (intro W hW hK; go_simp; first | done | with_reducible rfl)
        try simp only [Act.put, List.setIfInBounds_toArray, List.set_cons_zero, List.set_cons_succ]
        refine' Flow.call _ 1 (some 106) (Op.call { callee := Callee.value (Operand.func 34), args := #[Operand.tmp 105], argTypes := #[32] }) 3 (none) [] _ 34 _ rfl (by kernel_rfl) (by kernel_rfl) (by kernel_rfl) (by rfl) ?_ ?_ ?_
        rotate_left 3
        · (intro W; go_simp; first | done | with_reducible rfl)
        · (intro W hW hK; refine (TE1.out W hW).mono ?_; intro e w' h; exact h)
        try simp only [Act.put, List.setIfInBounds_toArray, List.set_cons_zero, List.set_cons_succ]
        refine' Flow.val _ 2 (some 107) (Op.binOp BinOp.eql 3 (Operand.tmp 106) (Operand.const (Value.int IntKind.i64 0)) 3) 4 (none) [] _ rfl (by kernel_rfl) (by kernel_rfl) (by kernel_rfl) (by rfl) ?_ ?_ HRF.out
        rotate_left 2
        · (intro W hW hK; go_simp; first | done | with_reducible rfl)
        try simp only [Act.put, List.setIfInBounds_toArray, List.set_cons_zero, List.set_cons_succ]
        refine' Flow.val _ 3 (some 108) (Op.move (Operand.tmp 107)) 4 (none) [] _ rfl (by kernel_rfl) (by kernel_rfl) (by kernel_rfl) (by rfl) ?_ ?_ HRF.out
        rotate_left 2
        · (intro W hW hK; go_simp; first | done | with_reducible rfl)
        try simp only [Act.put, List.setIfInBounds_toArray, List.set_cons_zero, List.set_cons_succ]
        refine' Flow.not _ 4 (some 109) (Op.move (Operand.tmp 11)) 51 (some (3, true)) rfl (by kernel_rfl) (by kernel_rfl) (by rfl) ?_
        rotate_left
        try simp only [Act.put, List.setIfInBounds_toArray, List.set_cons_zero, List.set_cons_succ]
        refine' Flow.not _ 5 (some 110) (Op.buildSlice 65 1 #[(0, Operand.tmp 109)]) 65 (some (3, true)) rfl (by kernel_rfl) (by kernel_rfl) (by rfl) ?_
        rotate_left
        try simp only [Act.put, List.setIfInBounds_toArray, List.set_cons_zero, List.set_cons_succ]
        refine' Flow.not _ 6 (some 111) (Op.call { callee := Callee.value (Operand.func 29), args := #[Operand.const (Value.slice none 0 0), Operand.tmp 110], argTypes := #[50, 65] }) 50 (some (3, true)) rfl (by kernel_rfl) (by kernel_rfl) (by rfl) ?_
        rotate_left
        try simp only [Act.put, List.setIfInBounds_toArray, List.set_cons_zero, List.set_cons_succ]
        refine' Flow.not _ 7 (some 112) (Op.convert 50 9 (Operand.tmp 111)) 9 (some (3, true)) rfl (by kernel_rfl) (by kernel_rfl) (by rfl) ?_
        rotate_left
        try simp only [Act.put, List.setIfInBounds_toArray, List.set_cons_zero, List.set_cons_succ]
        refine' Flow.not _ 8 (some 113) (Op.move (Operand.tmp 0)) 50 (some (3, true)) rfl (by kernel_rfl) (by kernel_rfl) (by rfl) ?_
        rotate_left
        try simp only [Act.put, List.setIfInBounds_toArray, List.set_cons_zero, List.set_cons_succ]
        refine' Flow.not _ 9 (some 114) (Op.move (Operand.tmp 9)) 53 (some (3, true)) rfl (by kernel_rfl) (by kernel_rfl) (by rfl) ?_
        rotate_left
        try simp only [Act.put, List.setIfInBounds_toArray, List.set_cons_zero, List.set_cons_succ]
        refine' Flow.not _ 10 (some 115) (Op.call { callee := Callee.value (Operand.func 35), args := #[Operand.tmp 114], argTypes := #[53] }) 3 (some (3, true)) rfl (by kernel_rfl) (by kernel_rfl) (by rfl) ?_
        rotate_left
        try simp only [Act.put, List.setIfInBounds_toArray, List.set_cons_zero, List.set_cons_succ]
        refine' Flow.not _ 11 (some 116) (Op.slice 50 (Operand.tmp 113) none (some (Operand.tmp 115)) none) 50 (some (3, true)) rfl (by kernel_rfl) (by kernel_rfl) (by rfl) ?_
        rotate_left
        try simp only [Act.put, List.setIfInBounds_toArray, List.set_cons_zero, List.set_cons_succ]
        refine' Flow.not _ 12 (some 117) (Op.convert 50 9 (Operand.tmp 116)) 9 (some (3, true)) rfl (by kernel_rfl) (by kernel_rfl) (by rfl) ?_
        rotate_left
        try simp only [Act.put, List.setIfInBounds_toArray, List.set_cons_zero, List.set_cons_succ]
        refine' Flow.not _ 13 (some 118) (Op.binOp BinOp.neq 9 (Operand.tmp 112) (Operand.tmp 117) 9) 4 (some (3, true)) rfl (by kernel_rfl) (by kernel_rfl) (by rfl) ?_
        rotate_left
        try simp only [Act.put, List.setIfInBounds_toArray, List.set_cons_zero, List.set_cons_succ]
        refine' Flow.val _ 14 (some 119) (Op.pick (Operand.tmp 108) (Operand.tmp 118) (Operand.const (Value.bool false))) 4 (none) [] _ rfl (by kernel_rfl) (by kernel_rfl) (by kernel_rfl) (by rfl) ?_ ?_ HRF.out
        rotate_left 2
        · (intro W hW hK; go_simp; first | done | with_reducible rfl)
        try simp only [Act.put, List.setIfInBounds_toArray, List.set_cons_zero, List.set_cons_succ]
        refine' Flow.val _ 15 (some 120) (Op.move (Operand.tmp 119)) 4 (none) [] _ rfl (by kernel_rfl) (by kernel_rfl) (by kernel_rfl) (by rfl) ?_ ?_ HRF.out
        rotate_left 2
        · (intro W hW hK; go_simp; first | done | with_reducible rfl)
        try simp only [Act.put, List.setIfInBounds_toArray, List.set_cons_zero, List.set_cons_succ]
        refine' Flow.val _ 16 (some 121) (Op.move (Operand.tmp 15)) 32 (some (15, false)) [] _ rfl (by kernel_rfl) (by kernel_rfl) (by kernel_rfl) (by rfl) ?_ ?_ HRF.out
        rotate_left 2
        · (intro W hW hK; go_simp; first | done | with_reducible rfl)
        try simp only [Act.put, List.setIfInBounds_toArray, List.set_cons_zero, List.set_cons_succ]
        refine' Flow.call _ 17 (some 122) (Op.call { callee := Callee.value (Operand.func 34), args := #[Operand.tmp 121], argTypes := #[32] }) 3 (some (15, false)) [] _ 34 _ rfl (by kernel_rfl) (by kernel_rfl) (by kernel_rfl) (by rfl) ?_ ?_ ?_
        rotate_left 3
        · (intro W; go_simp; first | done | with_reducible rfl)
        · (intro W hW hK; refine (TE2.out W hW).mono ?_; intro e w' h; exact h)
        try simp only [Act.put, List.setIfInBounds_toArray, List.set_cons_zero, List.set_cons_succ]
        refine' Flow.val _ 18 (some 123) (Op.binOp BinOp.eql 3 (Operand.tmp 122) (Operand.const (Value.int IntKind.i64 0)) 3) 4 (some (15, false)) [] _ rfl (by kernel_rfl) (by kernel_rfl) (by kernel_rfl) (by rfl) ?_ ?_ HRF.out
        rotate_left 2
        · (intro W hW hK; go_simp; first | done | with_reducible rfl)
        try simp only [Act.put, List.setIfInBounds_toArray, List.set_cons_zero, List.set_cons_succ]
        refine' Flow.val _ 19 (some 124) (Op.move (Operand.tmp 123)) 4 (some (15, false)) [] _ rfl (by kernel_rfl) (by kernel_rfl) (by kernel_rfl) (by rfl) ?_ ?_ HRF.out
        rotate_left 2
        · (intro W hW hK; go_simp; first | done | with_reducible rfl)
        try simp only [Act.put, List.setIfInBounds_toArray, List.set_cons_zero, List.set_cons_succ]
        refine' Flow.val _ 20 (some 125) (Op.move (Operand.tmp 14)) 2 (some (19, true)) [] _ rfl (by kernel_rfl) (by kernel_rfl) (by kernel_rfl) (by rfl) ?_ ?_ HRF.out
        rotate_left 2
        · (intro W hW hK; go_simp; first | done | with_reducible rfl)
        try simp only [Act.put, List.setIfInBounds_toArray, List.set_cons_zero, List.set_cons_succ]
        refine' Flow.op [(22, (fun v => ∃ (B : Option Addr) (k : Nat), v = .slice B (sdig v2).length k), fun v W => ∃ (B : Option Addr) (k : Nat), v = .slice B (sdig v2).length k ∧ Kd.C (Kd.int .u8) W B (sdig v2).length (sdig v2)), (23, (fun u => u = (.string (strOfNums (sdig v2)) : Value)), fun _ _ => True), (24, (fun u => u = (.slice A p.length c : Value)), fun _ _ => True), (25, (fun u => u = (.pointer (some ⟨g2, 0, none⟩) : Value)), fun _ _ => True), (26, (fun u => u = (.int .i64 (u2 : Int) : Value)), fun _ _ => True), (27, (fun u => u = (.slice A u2 c : Value)), fun _ _ => True), (28, (fun u => u = (.string (strOfNums (sdig v2)) : Value)), fun _ _ => True), (29, (fun u => u = (.bool false : Value)), fun _ _ => True), (30, (fun u => u = (.bool false : Value)), fun _ _ => True), (31, (fun u => u = (.bool false : Value)), fun _ _ => True)] 21 (some 126) (Op.buildSlice 41 1 #[(0, Operand.tmp 125)]) 41 (some (19, true)) [] (fun v => ∃ g : Nat, v = .slice (some ⟨g, 0, none⟩) 1 1) (fun v W => ∃ g : Nat, v = .slice (some ⟨g, 0, none⟩) 1 1 ∧ Kd.C (Kd.int .i64) W (some ⟨g, 0, none⟩) 1 [v2]) rfl (by kernel_rfl) (by kernel_rfl) (by kernel_rfl) ⟨_, 0, rfl⟩ (fun v W W' hb ⟨g, e, h⟩ => ⟨g, e, Kd.C_below h hb⟩) (by rfl) ?_ ?_
        · intro W hW hK
          refine .inl ⟨.slice (some ⟨W.heap.size, 0, none⟩) 1 1, W.alloc (.cells #[.int .i64 v2] 2), ⟨_, rfl⟩, IB.out _ _ hW (below_alloc (Below.refl _ _) _), below_alloc (Below.refl _ _) _, ⟨_, rfl, lit1 W .i64 2 v2⟩, ?_⟩
          go_simp
        rintro v ⟨q21, rfl⟩
        try simp only [Act.put, List.setIfInBounds_toArray, List.set_cons_zero, List.set_cons_succ]
        refine' Flow.op _ 22 (some 127) (Op.call { callee := Callee.value (Operand.func 36), args := #[Operand.const (Value.slice none 0 0), Operand.tmp 126], argTypes := #[50, 41] }) 50 (some (19, true)) [21] (fun v => ∃ (B : Option Addr) (k : Nat), v = .slice B (sdig v2).length k) (fun v W => ∃ (B : Option Addr) (k : Nat), v = .slice B (sdig v2).length k ∧ Kd.C (Kd.int .u8) W B (sdig v2).length (sdig v2)) rfl (by kernel_rfl) (by kernel_rfl) (by kernel_rfl) ⟨_, none, 0, rfl⟩ (fun v W W' hb ⟨B, k, e, h⟩ => ⟨B, k, e, Kd.C_below h hb⟩) (by rfl) ?_ ?_
        · intro W hW hK
          have h5 := hK 21 (by simp)
          simp only [updK, if_true, if_false, reduceIte] at h5
          obtain ⟨g', e, hC⟩ := h5
          obtain rfl : q21 = g' := by simpa using e
          refine .inr ⟨36, #[.slice none 0 0, .slice (some ⟨q21, 0, none⟩) 1 1], by go_simp, (signed_one v2 V2.out q21 W hC).mono ?_⟩
          rintro e w' ⟨B, k, rfl, _, hC', hb⟩
          exact ⟨_, rfl, ⟨_, _, rfl⟩, IB.out _ _ hW hb, hb, ⟨B, k, rfl, hC'⟩⟩
        rintro v ⟨B22, k22, rfl⟩
        try simp only [Act.put, List.setIfInBounds_toArray, List.set_cons_zero, List.set_cons_succ]
        refine' Flow.val _ 23 (some 128) (Op.convert 50 9 (Operand.tmp 127)) 9 (some (19, true)) [22] _ rfl (by kernel_rfl) (by kernel_rfl) (by kernel_rfl) (by rfl) ?_ ?_ HRF.out
        · intro W hW hK
          have h5 := hK 22 (by simp)
          simp only [updK, if_true, if_false, reduceIte] at h5
          obtain ⟨B', k', e, hC⟩ := h5
          obtain ⟨rfl, rfl⟩ : B22 = B' ∧ k22 = k' := by simpa using e
          have hcv := Kd.C_string (c := k22) Try.underlying50 Try.underlying5 Try.underlying9 hC
          clear hC e hK hW
          go_simp
          first | done | with_reducible rfl
        try simp only [Act.put, List.setIfInBounds_toArray, List.set_cons_zero, List.set_cons_succ]
        refine' Flow.val _ 24 (some 129) (Op.move (Operand.tmp 0)) 50 (some (19, true)) [] _ rfl (by kernel_rfl) (by kernel_rfl) (by kernel_rfl) (by rfl) ?_ ?_ HRF.out
        · (intro W hW hK; go_simp; first | done | with_reducible rfl)
        try simp only [Act.put, List.setIfInBounds_toArray, List.set_cons_zero, List.set_cons_succ]
        refine' Flow.val _ 25 (some 130) (Op.move (Operand.tmp 10)) 53 (some (19, true)) [] _ rfl (by kernel_rfl) (by kernel_rfl) (by kernel_rfl) (by rfl) ?_ ?_ HRF.out
        · (intro W hW hK; go_simp; first | done | with_reducible rfl)
        try simp only [Act.put, List.setIfInBounds_toArray, List.set_cons_zero, List.set_cons_succ]
        refine' Flow.call _ 26 (some 131) (Op.call { callee := Callee.value (Operand.func 35), args := #[Operand.tmp 130], argTypes := #[53] }) 3 (some (19, true)) [] _ 35 _ rfl (by kernel_rfl) (by kernel_rfl) (by kernel_rfl) (by rfl) ?_ ?_ ?_
        rotate_left
        · (intro W; go_simp; first | done | with_reducible rfl)
        · (intro W hW hK; refine (TW2.out W hW).mono ?_; intro e w' h; exact h)
        try simp only [Act.put, List.setIfInBounds_toArray, List.set_cons_zero, List.set_cons_succ]
        refine' Flow.val _ 27 (some 132) (Op.slice 50 (Operand.tmp 129) none (some (Operand.tmp 131)) none) 50 (some (19, true)) [] _ rfl (by kernel_rfl) (by kernel_rfl) (by kernel_rfl) (by rfl) ?_ ?_ HRF.out
        · (intro W hW hK; have hF := SF.out W hW; go_simp; first | done | with_reducible rfl)
        try simp only [Act.put, List.setIfInBounds_toArray, List.set_cons_zero, List.set_cons_succ]
        refine' Flow.val _ 28 (some 133) (Op.convert 50 9 (Operand.tmp 132)) 9 (some (19, true)) [] _ rfl (by kernel_rfl) (by kernel_rfl) (by kernel_rfl) (by rfl) ?_ ?_ HRF.out
        · (intro W hW hK; have hF := SF.out W hW; go_simp; first | done | with_reducible rfl)
        try simp only [Act.put, List.setIfInBounds_toArray, List.set_cons_zero, List.set_cons_succ]
        refine' Flow.val _ 29 (some 134) (Op.binOp BinOp.neq 9 (Operand.tmp 128) (Operand.tmp 133) 9) 4 (some (19, true)) [] _ rfl (by kernel_rfl) (by kernel_rfl) (by kernel_rfl) (by rfl) ?_ ?_ HRF.out
        · (intro W hW hK; go_simp; first | done | with_reducible rfl)
        try simp only [Act.put, List.setIfInBounds_toArray, List.set_cons_zero, List.set_cons_succ]
        refine' Flow.val _ 30 (some 135) (Op.pick (Operand.tmp 124) (Operand.tmp 134) (Operand.const (Value.bool false))) 4 (some (15, false)) [] _ rfl (by kernel_rfl) (by kernel_rfl) (by kernel_rfl) (by rfl) ?_ ?_ HRF.out
        · (intro W hW hK; go_simp; first | done | with_reducible rfl)
        try simp only [Act.put, List.setIfInBounds_toArray, List.set_cons_zero, List.set_cons_succ]
        refine' Flow.val _ 31 (some 136) (Op.pick (Operand.tmp 120) (Operand.const (Value.bool true)) (Operand.tmp 135)) 4 (none) [] _ rfl (by kernel_rfl) (by kernel_rfl) (by kernel_rfl) (by rfl) ?_ ?_ HRF.out
        · (intro W hW hK; go_simp; first | done | with_reducible rfl)
        try simp only [Act.put, List.setIfInBounds_toArray, List.set_cons_zero, List.set_cons_succ]
        refine' Flow.done _ (by kernel_rfl) ?_
        intro W hW hK
        clear hK
        go_wp2_with fail
        refine (klaxonlaw01_live.calls true _ rfl).mono ?_
        rintro e w11 ⟨rfl, hb⟩
        have HB := Aside0.mk (below_step (IW.out _ hW) hb)
        clear hb
        go_wp2_with fail
        go_ret
        exact ⟨rfl, HB.out⟩
    · have V1 := Aside0.mk V1_; have D1 := Aside0.mk D1_; have hcu1 : u1 ≤ c := Nat.le_trans hu1 hc; have hcv1 : (u1 : Int) ≤ (c : Int) := (by omega); clear V1_ D1_
      rcases N2 with ⟨hne2, rfl, rfl⟩ | ⟨rfl, u2, rfl, hu2, V2_, D2_⟩
      · skip
        have ne2 : (e2 != 0) = true := bne_iff_ne.mpr (by omega)
        have ee2 : (e2 == 0) = false := beq_eq_false_iff_ne.mpr (by omega)
        go_wp2_with fail
        refine (klaxonlaw01_num.calls 0 0 _ rfl).mono ?_
        rintro e w9 ⟨rfl, hd⟩
        have HI1 := Aside0.mk (IsS91.below HI1.out (Drawn0.below hd)); have HI2 := Aside0.mk (IsS91.below HI2.out (Drawn0.below hd)); have HB := Aside0.mk (below_step HB.out (Drawn0.below hd)); clear hd
        go_wp2_with fail
        refine (klaxonlaw01_num.calls e2 e2 _ rfl).mono ?_
        rintro e w9 ⟨rfl, hd⟩
        have HI1 := Aside0.mk (IsS91.below HI1.out (Drawn0.below hd)); have HI2 := Aside0.mk (IsS91.below HI2.out (Drawn0.below hd)); have HB := Aside0.mk (below_step HB.out (Drawn0.below hd)); clear hd
        go_wp2_with fail
        refine (where_calls g2 p 0 e2 s2 w _ HI2.out).mono ?_
        rintro e w10 ⟨rfl, hd⟩
        have HI1 := Aside0.mk (IsS91.below HI1.out (Drawn0.below hd)); have HI2 := Aside0.mk (IsS91.below HI2.out (Drawn0.below hd)); have HB := Aside0.mk (below_step HB.out (Drawn0.below hd)); clear hd
        go_upto_region 15 with (fail)
        have HRF := Aside0.mk (fun W : World => Below.refl W.heap.size W)
        obtain ⟨Inv, hInv⟩ : ∃ I : World → Prop, I = fun W => IsS91 w W g1 p u1 0 s1 ∧ IsS91 w W g2 p 0 e2 s2 ∧ Below w.heap.size w W := ⟨_, rfl⟩
        have HI9 := Aside0.mk (show Inv _ by rw [hInv]; exact ⟨HI1.out, HI2.out, HB.out⟩)
        have IB : ∀ W W', Inv W → Below W.heap.size W W' → Inv W' := by rw [hInv]; exact fun W W' ⟨b1, b2, b3⟩ hb => ⟨IsS91.below b1 hb, IsS91.below b2 hb, below_step b3 hb⟩
        have IW : ∀ W, Inv W → Below w.heap.size w W := by rw [hInv]; exact fun W h => h.2.2
        have TE1 : ∀ W, Inv W → Calls Try.prog 34 #[.int .i64 (0)] W fun e w' => e = .returned (.int .i64 (0)) ∧ Inv w' ∧ Below W.heap.size W w' := fun W h => (klaxonlaw01_num.calls _ _ W rfl).mono fun e w' ⟨he, hd⟩ => ⟨he, IB _ _ h (Drawn0.below hd), Drawn0.below hd⟩
        have TE2 : ∀ W, Inv W → Calls Try.prog 34 #[.int .i64 (e2)] W fun e w' => e = .returned (.int .i64 (e2)) ∧ Inv w' ∧ Below W.heap.size W w' := fun W h => (klaxonlaw01_num.calls _ _ W rfl).mono fun e w' ⟨he, hd⟩ => ⟨he, IB _ _ h (Drawn0.below hd), Drawn0.below hd⟩
        have TW1 : ∀ W, Inv W → Calls Try.prog 35 #[.pointer (some ⟨g1, 0, none⟩)] W fun e w' => e = .returned (.int .i64 (u1)) ∧ Inv w' ∧ Below W.heap.size W w' := fun W h => (where_calls g1 p _ _ _ w W (by have h := h; rw [hInv] at h; exact h.1)).mono fun e w' ⟨he, hd⟩ => ⟨he, IB _ _ h (Drawn0.below hd), Drawn0.below hd⟩
        have TW2 : ∀ W, Inv W → Calls Try.prog 35 #[.pointer (some ⟨g2, 0, none⟩)] W fun e w' => e = .returned (.int .i64 (0)) ∧ Inv w' ∧ Below W.heap.size W w' := fun W h => (where_calls g2 p _ _ _ w W (by have h := h; rw [hInv] at h; exact h.2.1)).mono fun e w' ⟨he, hd⟩ => ⟨he, IB _ _ h (Drawn0.below hd), Drawn0.below hd⟩
        have SF : ∀ W, Inv W → ((convert 50 9 (.slice A u1 c)).run Try.prog W = .ok (.string (strOfNums (dig v1))) W) := fun W hW => (by have h := Kd.C_take (m := u1) (Kd.C_below HR.out (IW W hW)) (by omega); rw [show (p.take u1).length = u1 by rw [List.length_take]; omega] at h; rw [D1.out]; exact Kd.C_string (c := c) Try.underlying50 Try.underlying5 Try.underlying9 h)
        have IB := Aside0.mk IB; have IW := Aside0.mk IW; have TE1 := Aside0.mk TE1; have TE2 := Aside0.mk TE2; have TW1 := Aside0.mk TW1; have TW2 := Aside0.mk TW2; have SF := Aside0.mk SF
        clear hInv
        refine' wp_region_flow (by kernel_rfl) (by kernel_rfl) Inv (fun W W' => Below W.heap.size W W') HRF.out (IB.out _ _ HI9.out (below_drew1 (Below.refl _ _))) _ ?_
        rotate_left
        refine' Flow.val _ 0 (some 105) (Op.move (Operand.tmp 12)) 32 (none) [] _ rfl (by kernel_rfl) (by kernel_rfl) (by kernel_rfl) (by rfl) ?_ ?_ HRF.out
        rotate_left 2
        · (intro W hW hK; go_simp; first | done | with_reducible rfl)
        try simp only [Act.put, List.setIfInBounds_toArray, List.set_cons_zero, List.set_cons_succ]
        refine' Flow.call _ 1 (some 106) (Op.call { callee := Callee.value (Operand.func 34), args := #[Operand.tmp 105], argTypes := #[32] }) 3 (none) [] _ 34 _ rfl (by kernel_rfl) (by kernel_rfl) (by kernel_rfl) (by rfl) ?_ ?_ ?_
        rotate_left 3
        · (intro W; go_simp; first | done | with_reducible rfl)
        · (intro W hW hK; refine (TE1.out W hW).mono ?_; intro e w' h; exact h)
        try simp only [Act.put, List.setIfInBounds_toArray, List.set_cons_zero, List.set_cons_succ]
        refine' Flow.val _ 2 (some 107) (Op.binOp BinOp.eql 3 (Operand.tmp 106) (Operand.const (Value.int IntKind.i64 0)) 3) 4 (none) [] _ rfl (by kernel_rfl) (by kernel_rfl) (by kernel_rfl) (by rfl) ?_ ?_ HRF.out
        rotate_left 2
        · (intro W hW hK; go_simp; first | done | with_reducible rfl)
        try simp only [Act.put, List.setIfInBounds_toArray, List.set_cons_zero, List.set_cons_succ]
        refine' Flow.val _ 3 (some 108) (Op.move (Operand.tmp 107)) 4 (none) [] _ rfl (by kernel_rfl) (by kernel_rfl) (by kernel_rfl) (by rfl) ?_ ?_ HRF.out
        rotate_left 2
        · (intro W hW hK; go_simp; first | done | with_reducible rfl)
        try simp only [Act.put, List.setIfInBounds_toArray, List.set_cons_zero, List.set_cons_succ]
        refine' Flow.val _ 4 (some 109) (Op.move (Operand.tmp 11)) 51 (some (3, true)) [] _ rfl (by kernel_rfl) (by kernel_rfl) (by kernel_rfl) (by rfl) ?_ ?_ HRF.out
        rotate_left 2
        · (intro W hW hK; go_simp; first | done | with_reducible rfl)
        try simp only [Act.put, List.setIfInBounds_toArray, List.set_cons_zero, List.set_cons_succ]
        refine' Flow.op [(6, (fun v => ∃ (B : Option Addr) (k : Nat), v = .slice B (dig v1).length k), fun v W => ∃ (B : Option Addr) (k : Nat), v = .slice B (dig v1).length k ∧ Kd.C (Kd.int .u8) W B (dig v1).length (dig v1)), (7, (fun u => u = (.string (strOfNums (dig v1)) : Value)), fun _ _ => True), (8, (fun u => u = (.slice A p.length c : Value)), fun _ _ => True), (9, (fun u => u = (.pointer (some ⟨g1, 0, none⟩) : Value)), fun _ _ => True), (10, (fun u => u = (.int .i64 (u1 : Int) : Value)), fun _ _ => True), (11, (fun u => u = (.slice A u1 c : Value)), fun _ _ => True), (12, (fun u => u = (.string (strOfNums (dig v1)) : Value)), fun _ _ => True), (13, (fun u => u = (.bool false : Value)), fun _ _ => True), (14, (fun u => u = (.bool false : Value)), fun _ _ => True), (15, (fun u => u = (.bool false : Value)), fun _ _ => True), (16, (fun u => u = (.int .i64 e2 : Value)), fun _ _ => True), (17, (fun u => u = (.int .i64 e2 : Value)), fun _ _ => True), (18, (fun u => u = (.bool false : Value)), fun _ _ => True), (19, (fun u => u = (.bool false : Value)), fun _ _ => True), (20, (fun u => u = (undef : Value)), fun _ _ => True), (21, (fun u => u = (undef : Value)), fun _ _ => True), (22, (fun u => u = (undef : Value)), fun _ _ => True), (23, (fun u => u = (undef : Value)), fun _ _ => True), (24, (fun u => u = (undef : Value)), fun _ _ => True), (25, (fun u => u = (undef : Value)), fun _ _ => True), (26, (fun u => u = (undef : Value)), fun _ _ => True), (27, (fun u => u = (undef : Value)), fun _ _ => True), (28, (fun u => u = (undef : Value)), fun _ _ => True), (29, (fun u => u = (undef : Value)), fun _ _ => True), (30, (fun u => u = (.bool false : Value)), fun _ _ => True), (31, (fun u => u = (.bool false : Value)), fun _ _ => True)] 5 (some 110) (Op.buildSlice 65 1 #[(0, Operand.tmp 109)]) 65 (some (3, true)) [] (fun v => ∃ g : Nat, v = .slice (some ⟨g, 0, none⟩) 1 1) (fun v W => ∃ g : Nat, v = .slice (some ⟨g, 0, none⟩) 1 1 ∧ Kd.C (Kd.int .u64) W (some ⟨g, 0, none⟩) 1 [v1]) rfl (by kernel_rfl) (by kernel_rfl) (by kernel_rfl) ⟨_, 0, rfl⟩ (fun v W W' hb ⟨g, e, h⟩ => ⟨g, e, Kd.C_below h hb⟩) (by rfl) ?_ ?_
        · intro W hW hK
          refine .inl ⟨.slice (some ⟨W.heap.size, 0, none⟩) 1 1, W.alloc (.cells #[.int .u64 v1] 51), ⟨_, rfl⟩, IB.out _ _ hW (below_alloc (Below.refl _ _) _), below_alloc (Below.refl _ _) _, ⟨_, rfl, lit1 W .u64 51 v1⟩, ?_⟩
          go_simp
        rintro v ⟨q5, rfl⟩
        try simp only [Act.put, List.setIfInBounds_toArray, List.set_cons_zero, List.set_cons_succ]
        refine' Flow.op _ 6 (some 111) (Op.call { callee := Callee.value (Operand.func 29), args := #[Operand.const (Value.slice none 0 0), Operand.tmp 110], argTypes := #[50, 65] }) 50 (some (3, true)) [5] (fun v => ∃ (B : Option Addr) (k : Nat), v = .slice B (dig v1).length k) (fun v W => ∃ (B : Option Addr) (k : Nat), v = .slice B (dig v1).length k ∧ Kd.C (Kd.int .u8) W B (dig v1).length (dig v1)) rfl (by kernel_rfl) (by kernel_rfl) (by kernel_rfl) ⟨_, none, 0, rfl⟩ (fun v W W' hb ⟨B, k, e, h⟩ => ⟨B, k, e, Kd.C_below h hb⟩) (by rfl) ?_ ?_
        · intro W hW hK
          have h5 := hK 5 (by simp)
          simp only [updK, if_true, if_false, reduceIte] at h5
          obtain ⟨g', e, hC⟩ := h5
          obtain rfl : q5 = g' := by simpa using e
          refine .inr ⟨29, #[.slice none 0 0, .slice (some ⟨q5, 0, none⟩) 1 1], by go_simp, (number_one v1 V1.out q5 W hC).mono ?_⟩
          rintro e w' ⟨B, k, rfl, _, hC', hb⟩
          exact ⟨_, rfl, ⟨_, _, rfl⟩, IB.out _ _ hW hb, hb, ⟨B, k, rfl, hC'⟩⟩
        rintro v ⟨B6, k6, rfl⟩
        try simp only [Act.put, List.setIfInBounds_toArray, List.set_cons_zero, List.set_cons_succ]
        refine' Flow.val _ 7 (some 112) (Op.convert 50 9 (Operand.tmp 111)) 9 (some (3, true)) [6] _ rfl (by kernel_rfl) (by kernel_rfl) (by kernel_rfl) (by rfl) ?_ ?_ HRF.out
        · intro W hW hK
          have h5 := hK 6 (by simp)
          simp only [updK, if_true, if_false, reduceIte] at h5
          obtain ⟨B', k', e, hC⟩ := h5
          obtain ⟨rfl, rfl⟩ : B6 = B' ∧ k6 = k' := by simpa using e
          have hcv := Kd.C_string (c := k6) Try.underlying50 Try.underlying5 Try.underlying9 hC
          clear hC e hK hW
          go_simp
          first | done | with_reducible rfl
        try simp only [Act.put, List.setIfInBounds_toArray, List.set_cons_zero, List.set_cons_succ]
        refine' Flow.val _ 8 (some 113) (Op.move (Operand.tmp 0)) 50 (some (3, true)) [] _ rfl (by kernel_rfl) (by kernel_rfl) (by kernel_rfl) (by rfl) ?_ ?_ HRF.out
        · (intro W hW hK; go_simp; first | done | with_reducible rfl)
        try simp only [Act.put, List.setIfInBounds_toArray, List.set_cons_zero, List.set_cons_succ]
        refine' Flow.val _ 9 (some 114) (Op.move (Operand.tmp 9)) 53 (some (3, true)) [] _ rfl (by kernel_rfl) (by kernel_rfl) (by kernel_rfl) (by rfl) ?_ ?_ HRF.out
        · (intro W hW hK; go_simp; first | done | with_reducible rfl)
        try simp only [Act.put, List.setIfInBounds_toArray, List.set_cons_zero, List.set_cons_succ]
        refine' Flow.call _ 10 (some 115) (Op.call { callee := Callee.value (Operand.func 35), args := #[Operand.tmp 114], argTypes := #[53] }) 3 (some (3, true)) [] _ 35 _ rfl (by kernel_rfl) (by kernel_rfl) (by kernel_rfl) (by rfl) ?_ ?_ ?_
        rotate_left
        · (intro W; go_simp; first | done | with_reducible rfl)
        · (intro W hW hK; refine (TW1.out W hW).mono ?_; intro e w' h; exact h)
        try simp only [Act.put, List.setIfInBounds_toArray, List.set_cons_zero, List.set_cons_succ]
        refine' Flow.val _ 11 (some 116) (Op.slice 50 (Operand.tmp 113) none (some (Operand.tmp 115)) none) 50 (some (3, true)) [] _ rfl (by kernel_rfl) (by kernel_rfl) (by kernel_rfl) (by rfl) ?_ ?_ HRF.out
        · (intro W hW hK; have hF := SF.out W hW; go_simp; first | done | with_reducible rfl)
        try simp only [Act.put, List.setIfInBounds_toArray, List.set_cons_zero, List.set_cons_succ]
        refine' Flow.val _ 12 (some 117) (Op.convert 50 9 (Operand.tmp 116)) 9 (some (3, true)) [] _ rfl (by kernel_rfl) (by kernel_rfl) (by kernel_rfl) (by rfl) ?_ ?_ HRF.out
        · (intro W hW hK; have hF := SF.out W hW; go_simp; first | done | with_reducible rfl)
        try simp only [Act.put, List.setIfInBounds_toArray, List.set_cons_zero, List.set_cons_succ]
        refine' Flow.val _ 13 (some 118) (Op.binOp BinOp.neq 9 (Operand.tmp 112) (Operand.tmp 117) 9) 4 (some (3, true)) [] _ rfl (by kernel_rfl) (by kernel_rfl) (by kernel_rfl) (by rfl) ?_ ?_ HRF.out
        · (intro W hW hK; go_simp; first | done | with_reducible rfl)
        try simp only [Act.put, List.setIfInBounds_toArray, List.set_cons_zero, List.set_cons_succ]
        refine' Flow.val _ 14 (some 119) (Op.pick (Operand.tmp 108) (Operand.tmp 118) (Operand.const (Value.bool false))) 4 (none) [] _ rfl (by kernel_rfl) (by kernel_rfl) (by kernel_rfl) (by rfl) ?_ ?_ HRF.out
        · (intro W hW hK; go_simp; first | done | with_reducible rfl)
        try simp only [Act.put, List.setIfInBounds_toArray, List.set_cons_zero, List.set_cons_succ]
        refine' Flow.val _ 15 (some 120) (Op.move (Operand.tmp 119)) 4 (none) [] _ rfl (by kernel_rfl) (by kernel_rfl) (by kernel_rfl) (by rfl) ?_ ?_ HRF.out
        · (intro W hW hK; go_simp; first | done | with_reducible rfl)
        try simp only [Act.put, List.setIfInBounds_toArray, List.set_cons_zero, List.set_cons_succ]
        refine' Flow.val _ 16 (some 121) (Op.move (Operand.tmp 15)) 32 (some (15, false)) [] _ rfl (by kernel_rfl) (by kernel_rfl) (by kernel_rfl) (by rfl) ?_ ?_ HRF.out
        · (intro W hW hK; go_simp; first | done | with_reducible rfl)
        try simp only [Act.put, List.setIfInBounds_toArray, List.set_cons_zero, List.set_cons_succ]
        refine' Flow.call _ 17 (some 122) (Op.call { callee := Callee.value (Operand.func 34), args := #[Operand.tmp 121], argTypes := #[32] }) 3 (some (15, false)) [] _ 34 _ rfl (by kernel_rfl) (by kernel_rfl) (by kernel_rfl) (by rfl) ?_ ?_ ?_
        rotate_left
        · (intro W; go_simp; first | done | with_reducible rfl)
        · (intro W hW hK; refine (TE2.out W hW).mono ?_; intro e w' h; exact h)
        try simp only [Act.put, List.setIfInBounds_toArray, List.set_cons_zero, List.set_cons_succ]
        refine' Flow.val _ 18 (some 123) (Op.binOp BinOp.eql 3 (Operand.tmp 122) (Operand.const (Value.int IntKind.i64 0)) 3) 4 (some (15, false)) [] _ rfl (by kernel_rfl) (by kernel_rfl) (by kernel_rfl) (by rfl) ?_ ?_ HRF.out
        · (intro W hW hK; go_simp; first | done | with_reducible rfl)
        try simp only [Act.put, List.setIfInBounds_toArray, List.set_cons_zero, List.set_cons_succ]
        refine' Flow.val _ 19 (some 124) (Op.move (Operand.tmp 123)) 4 (some (15, false)) [] _ rfl (by kernel_rfl) (by kernel_rfl) (by kernel_rfl) (by rfl) ?_ ?_ HRF.out
        · (intro W hW hK; go_simp; first | done | with_reducible rfl)
        try simp only [Act.put, List.setIfInBounds_toArray, List.set_cons_zero, List.set_cons_succ]
        refine' Flow.not _ 20 (some 125) (Op.move (Operand.tmp 14)) 2 (some (19, true)) rfl (by kernel_rfl) (by kernel_rfl) (by rfl) ?_
        try simp only [Act.put, List.setIfInBounds_toArray, List.set_cons_zero, List.set_cons_succ]
        refine' Flow.not _ 21 (some 126) (Op.buildSlice 41 1 #[(0, Operand.tmp 125)]) 41 (some (19, true)) rfl (by kernel_rfl) (by kernel_rfl) (by rfl) ?_
        try simp only [Act.put, List.setIfInBounds_toArray, List.set_cons_zero, List.set_cons_succ]
        refine' Flow.not _ 22 (some 127) (Op.call { callee := Callee.value (Operand.func 36), args := #[Operand.const (Value.slice none 0 0), Operand.tmp 126], argTypes := #[50, 41] }) 50 (some (19, true)) rfl (by kernel_rfl) (by kernel_rfl) (by rfl) ?_
        try simp only [Act.put, List.setIfInBounds_toArray, List.set_cons_zero, List.set_cons_succ]
        refine' Flow.not _ 23 (some 128) (Op.convert 50 9 (Operand.tmp 127)) 9 (some (19, true)) rfl (by kernel_rfl) (by kernel_rfl) (by rfl) ?_
        try simp only [Act.put, List.setIfInBounds_toArray, List.set_cons_zero, List.set_cons_succ]
        refine' Flow.not _ 24 (some 129) (Op.move (Operand.tmp 0)) 50 (some (19, true)) rfl (by kernel_rfl) (by kernel_rfl) (by rfl) ?_
        try simp only [Act.put, List.setIfInBounds_toArray, List.set_cons_zero, List.set_cons_succ]
        refine' Flow.not _ 25 (some 130) (Op.move (Operand.tmp 10)) 53 (some (19, true)) rfl (by kernel_rfl) (by kernel_rfl) (by rfl) ?_
        try simp only [Act.put, List.setIfInBounds_toArray, List.set_cons_zero, List.set_cons_succ]
        refine' Flow.not _ 26 (some 131) (Op.call { callee := Callee.value (Operand.func 35), args := #[Operand.tmp 130], argTypes := #[53] }) 3 (some (19, true)) rfl (by kernel_rfl) (by kernel_rfl) (by rfl) ?_
        try simp only [Act.put, List.setIfInBounds_toArray, List.set_cons_zero, List.set_cons_succ]
        refine' Flow.not _ 27 (some 132) (Op.slice 50 (Operand.tmp 129) none (some (Operand.tmp 131)) none) 50 (some (19, true)) rfl (by kernel_rfl) (by kernel_rfl) (by rfl) ?_
        try simp only [Act.put, List.setIfInBounds_toArray, List.set_cons_zero, List.set_cons_succ]
        refine' Flow.not _ 28 (some 133) (Op.convert 50 9 (Operand.tmp 132)) 9 (some (19, true)) rfl (by kernel_rfl) (by kernel_rfl) (by rfl) ?_
        try simp only [Act.put, List.setIfInBounds_toArray, List.set_cons_zero, List.set_cons_succ]
        refine' Flow.not _ 29 (some 134) (Op.binOp BinOp.neq 9 (Operand.tmp 128) (Operand.tmp 133) 9) 4 (some (19, true)) rfl (by kernel_rfl) (by kernel_rfl) (by rfl) ?_
        try simp only [Act.put, List.setIfInBounds_toArray, List.set_cons_zero, List.set_cons_succ]
        refine' Flow.val _ 30 (some 135) (Op.pick (Operand.tmp 124) (Operand.tmp 134) (Operand.const (Value.bool false))) 4 (some (15, false)) [] _ rfl (by kernel_rfl) (by kernel_rfl) (by kernel_rfl) (by rfl) ?_ ?_ HRF.out
        · (intro W hW hK; go_simp; first | done | with_reducible rfl)
        try simp only [Act.put, List.setIfInBounds_toArray, List.set_cons_zero, List.set_cons_succ]
        refine' Flow.val _ 31 (some 136) (Op.pick (Operand.tmp 120) (Operand.const (Value.bool true)) (Operand.tmp 135)) 4 (none) [] _ rfl (by kernel_rfl) (by kernel_rfl) (by kernel_rfl) (by rfl) ?_ ?_ HRF.out
        · (intro W hW hK; go_simp; first | done | with_reducible rfl)
        try simp only [Act.put, List.setIfInBounds_toArray, List.set_cons_zero, List.set_cons_succ]
        refine' Flow.done _ (by kernel_rfl) ?_
        intro W hW hK
        clear hK
        go_wp2_with fail
        refine (klaxonlaw01_live.calls true _ rfl).mono ?_
        rintro e w11 ⟨rfl, hb⟩
        have HB := Aside0.mk (below_step (IW.out _ hW) hb)
        clear hb
        go_wp2_with fail
        go_ret
        exact ⟨rfl, HB.out⟩
      · have V2 := Aside0.mk V2_; have D2 := Aside0.mk D2_; have hcu2 : u2 ≤ c := Nat.le_trans hu2 hc; have hcv2 : (u2 : Int) ≤ (c : Int) := (by omega); clear V2_ D2_
        go_wp2_with fail
        refine (klaxonlaw01_num.calls 0 0 _ rfl).mono ?_
        rintro e w9 ⟨rfl, hd⟩
        have HI1 := Aside0.mk (IsS91.below HI1.out (Drawn0.below hd)); have HI2 := Aside0.mk (IsS91.below HI2.out (Drawn0.below hd)); have HB := Aside0.mk (below_step HB.out (Drawn0.below hd)); clear hd
        go_wp2_with fail
        refine (klaxonlaw01_num.calls 0 0 _ rfl).mono ?_
        rintro e w9 ⟨rfl, hd⟩
        have HI1 := Aside0.mk (IsS91.below HI1.out (Drawn0.below hd)); have HI2 := Aside0.mk (IsS91.below HI2.out (Drawn0.below hd)); have HB := Aside0.mk (below_step HB.out (Drawn0.below hd)); clear hd
        go_upto_region 15 with (fail)
        have HRF := Aside0.mk (fun W : World => Below.refl W.heap.size W)
        obtain ⟨Inv, hInv⟩ : ∃ I : World → Prop, I = fun W => IsS91 w W g1 p u1 0 s1 ∧ IsS91 w W g2 p u2 0 s2 ∧ Below w.heap.size w W := ⟨_, rfl⟩
        have HI9 := Aside0.mk (show Inv _ by rw [hInv]; exact ⟨HI1.out, HI2.out, HB.out⟩)
        have IB : ∀ W W', Inv W → Below W.heap.size W W' → Inv W' := by rw [hInv]; exact fun W W' ⟨b1, b2, b3⟩ hb => ⟨IsS91.below b1 hb, IsS91.below b2 hb, below_step b3 hb⟩
        have IW : ∀ W, Inv W → Below w.heap.size w W := by rw [hInv]; exact fun W h => h.2.2
        have TE1 : ∀ W, Inv W → Calls Try.prog 34 #[.int .i64 (0)] W fun e w' => e = .returned (.int .i64 (0)) ∧ Inv w' ∧ Below W.heap.size W w' := fun W h => (klaxonlaw01_num.calls _ _ W rfl).mono fun e w' ⟨he, hd⟩ => ⟨he, IB _ _ h (Drawn0.below hd), Drawn0.below hd⟩
        have TE2 : ∀ W, Inv W → Calls Try.prog 34 #[.int .i64 (0)] W fun e w' => e = .returned (.int .i64 (0)) ∧ Inv w' ∧ Below W.heap.size W w' := fun W h => (klaxonlaw01_num.calls _ _ W rfl).mono fun e w' ⟨he, hd⟩ => ⟨he, IB _ _ h (Drawn0.below hd), Drawn0.below hd⟩
        have TW1 : ∀ W, Inv W → Calls Try.prog 35 #[.pointer (some ⟨g1, 0, none⟩)] W fun e w' => e = .returned (.int .i64 (u1)) ∧ Inv w' ∧ Below W.heap.size W w' := fun W h => (where_calls g1 p _ _ _ w W (by have h := h; rw [hInv] at h; exact h.1)).mono fun e w' ⟨he, hd⟩ => ⟨he, IB _ _ h (Drawn0.below hd), Drawn0.below hd⟩
        have TW2 : ∀ W, Inv W → Calls Try.prog 35 #[.pointer (some ⟨g2, 0, none⟩)] W fun e w' => e = .returned (.int .i64 (u2)) ∧ Inv w' ∧ Below W.heap.size W w' := fun W h => (where_calls g2 p _ _ _ w W (by have h := h; rw [hInv] at h; exact h.2.1)).mono fun e w' ⟨he, hd⟩ => ⟨he, IB _ _ h (Drawn0.below hd), Drawn0.below hd⟩
        have SF : ∀ W, Inv W → ((convert 50 9 (.slice A u1 c)).run Try.prog W = .ok (.string (strOfNums (dig v1))) W ∧ (convert 50 9 (.slice A u2 c)).run Try.prog W = .ok (.string (strOfNums (sdig v2))) W) := fun W hW => ⟨(by have h := Kd.C_take (m := u1) (Kd.C_below HR.out (IW W hW)) (by omega); rw [show (p.take u1).length = u1 by rw [List.length_take]; omega] at h; rw [D1.out]; exact Kd.C_string (c := c) Try.underlying50 Try.underlying5 Try.underlying9 h), (by have h := Kd.C_take (m := u2) (Kd.C_below HR.out (IW W hW)) (by omega); rw [show (p.take u2).length = u2 by rw [List.length_take]; omega] at h; rw [D2.out]; exact Kd.C_string (c := c) Try.underlying50 Try.underlying5 Try.underlying9 h)⟩
        have IB := Aside0.mk IB; have IW := Aside0.mk IW; have TE1 := Aside0.mk TE1; have TE2 := Aside0.mk TE2; have TW1 := Aside0.mk TW1; have TW2 := Aside0.mk TW2; have SF := Aside0.mk SF
        clear hInv
        refine' wp_region_flow (by kernel_rfl) (by kernel_rfl) Inv (fun W W' => Below W.heap.size W W') HRF.out (IB.out _ _ HI9.out (below_drew1 (Below.refl _ _))) _ ?_
        rotate_left
        refine' Flow.val _ 0 (some 105) (Op.move (Operand.tmp 12)) 32 (none) [] _ rfl (by kernel_rfl) (by kernel_rfl) (by kernel_rfl) (by rfl) ?_ ?_ HRF.out
        rotate_left 2
        · (intro W hW hK; go_simp; first | done | with_reducible rfl)
        try simp only [Act.put, List.setIfInBounds_toArray, List.set_cons_zero, List.set_cons_succ]
        refine' Flow.call _ 1 (some 106) (Op.call { callee := Callee.value (Operand.func 34), args := #[Operand.tmp 105], argTypes := #[32] }) 3 (none) [] _ 34 _ rfl (by kernel_rfl) (by kernel_rfl) (by kernel_rfl) (by rfl) ?_ ?_ ?_
        rotate_left 3
        · (intro W; go_simp; first | done | with_reducible rfl)
        · (intro W hW hK; refine (TE1.out W hW).mono ?_; intro e w' h; exact h)
        try simp only [Act.put, List.setIfInBounds_toArray, List.set_cons_zero, List.set_cons_succ]
        refine' Flow.val _ 2 (some 107) (Op.binOp BinOp.eql 3 (Operand.tmp 106) (Operand.const (Value.int IntKind.i64 0)) 3) 4 (none) [] _ rfl (by kernel_rfl) (by kernel_rfl) (by kernel_rfl) (by rfl) ?_ ?_ HRF.out
        rotate_left 2
        · (intro W hW hK; go_simp; first | done | with_reducible rfl)
        try simp only [Act.put, List.setIfInBounds_toArray, List.set_cons_zero, List.set_cons_succ]
        refine' Flow.val _ 3 (some 108) (Op.move (Operand.tmp 107)) 4 (none) [] _ rfl (by kernel_rfl) (by kernel_rfl) (by kernel_rfl) (by rfl) ?_ ?_ HRF.out
        rotate_left 2
        · (intro W hW hK; go_simp; first | done | with_reducible rfl)
        try simp only [Act.put, List.setIfInBounds_toArray, List.set_cons_zero, List.set_cons_succ]
        refine' Flow.val _ 4 (some 109) (Op.move (Operand.tmp 11)) 51 (some (3, true)) [] _ rfl (by kernel_rfl) (by kernel_rfl) (by kernel_rfl) (by rfl) ?_ ?_ HRF.out
        rotate_left 2
        · (intro W hW hK; go_simp; first | done | with_reducible rfl)
        try simp only [Act.put, List.setIfInBounds_toArray, List.set_cons_zero, List.set_cons_succ]
        refine' Flow.op [(6, (fun v => ∃ (B : Option Addr) (k : Nat), v = .slice B (dig v1).length k), fun v W => ∃ (B : Option Addr) (k : Nat), v = .slice B (dig v1).length k ∧ Kd.C (Kd.int .u8) W B (dig v1).length (dig v1)), (7, (fun u => u = (.string (strOfNums (dig v1)) : Value)), fun _ _ => True), (8, (fun u => u = (.slice A p.length c : Value)), fun _ _ => True), (9, (fun u => u = (.pointer (some ⟨g1, 0, none⟩) : Value)), fun _ _ => True), (10, (fun u => u = (.int .i64 (u1 : Int) : Value)), fun _ _ => True), (11, (fun u => u = (.slice A u1 c : Value)), fun _ _ => True), (12, (fun u => u = (.string (strOfNums (dig v1)) : Value)), fun _ _ => True), (13, (fun u => u = (.bool false : Value)), fun _ _ => True), (14, (fun u => u = (.bool false : Value)), fun _ _ => True), (15, (fun u => u = (.bool false : Value)), fun _ _ => True), (16, (fun u => u = (.int .i64 0 : Value)), fun _ _ => True), (17, (fun u => u = (.int .i64 0 : Value)), fun _ _ => True), (18, (fun u => u = (.bool true : Value)), fun _ _ => True), (19, (fun u => u = (.bool true : Value)), fun _ _ => True), (20, (fun u => u = (.int .i64 v2 : Value)), fun _ _ => True), (21, (fun v => ∃ g : Nat, v = .slice (some ⟨g, 0, none⟩) 1 1), fun v W => ∃ g : Nat, v = .slice (some ⟨g, 0, none⟩) 1 1 ∧ Kd.C (Kd.int .i64) W (some ⟨g, 0, none⟩) 1 [v2]), (22, (fun v => ∃ (B : Option Addr) (k : Nat), v = .slice B (sdig v2).length k), fun v W => ∃ (B : Option Addr) (k : Nat), v = .slice B (sdig v2).length k ∧ Kd.C (Kd.int .u8) W B (sdig v2).length (sdig v2)), (23, (fun u => u = (.string (strOfNums (sdig v2)) : Value)), fun _ _ => True), (24, (fun u => u = (.slice A p.length c : Value)), fun _ _ => True), (25, (fun u => u = (.pointer (some ⟨g2, 0, none⟩) : Value)), fun _ _ => True), (26, (fun u => u = (.int .i64 (u2 : Int) : Value)), fun _ _ => True), (27, (fun u => u = (.slice A u2 c : Value)), fun _ _ => True), (28, (fun u => u = (.string (strOfNums (sdig v2)) : Value)), fun _ _ => True), (29, (fun u => u = (.bool false : Value)), fun _ _ => True), (30, (fun u => u = (.bool false : Value)), fun _ _ => True), (31, (fun u => u = (.bool false : Value)), fun _ _ => True)] 5 (some 110) (Op.buildSlice 65 1 #[(0, Operand.tmp 109)]) 65 (some (3, true)) [] (fun v => ∃ g : Nat, v = .slice (some ⟨g, 0, none⟩) 1 1) (fun v W => ∃ g : Nat, v = .slice (some ⟨g, 0, none⟩) 1 1 ∧ Kd.C (Kd.int .u64) W (some ⟨g, 0, none⟩) 1 [v1]) rfl (by kernel_rfl) (by kernel_rfl) (by kernel_rfl) ⟨_, 0, rfl⟩ (fun v W W' hb ⟨g, e, h⟩ => ⟨g, e, Kd.C_below h hb⟩) (by rfl) ?_ ?_
        · intro W hW hK
          refine .inl ⟨.slice (some ⟨W.heap.size, 0, none⟩) 1 1, W.alloc (.cells #[.int .u64 v1] 51), ⟨_, rfl⟩, IB.out _ _ hW (below_alloc (Below.refl _ _) _), below_alloc (Below.refl _ _) _, ⟨_, rfl, lit1 W .u64 51 v1⟩, ?_⟩
          go_simp
        rintro v ⟨q5, rfl⟩
        try simp only [Act.put, List.setIfInBounds_toArray, List.set_cons_zero, List.set_cons_succ]
        refine' Flow.op _ 6 (some 111) (Op.call { callee := Callee.value (Operand.func 29), args := #[Operand.const (Value.slice none 0 0), Operand.tmp 110], argTypes := #[50, 65] }) 50 (some (3, true)) [5] (fun v => ∃ (B : Option Addr) (k : Nat), v = .slice B (dig v1).length k) (fun v W => ∃ (B : Option Addr) (k : Nat), v = .slice B (dig v1).length k ∧ Kd.C (Kd.int .u8) W B (dig v1).length (dig v1)) rfl (by kernel_rfl) (by kernel_rfl) (by kernel_rfl) ⟨_, none, 0, rfl⟩ (fun v W W' hb ⟨B, k, e, h⟩ => ⟨B, k, e, Kd.C_below h hb⟩) (by rfl) ?_ ?_
        · intro W hW hK
          have h5 := hK 5 (by simp)
          simp only [updK, if_true, if_false, reduceIte] at h5
          obtain ⟨g', e, hC⟩ := h5
          obtain rfl : q5 = g' := by simpa using e
          refine .inr ⟨29, #[.slice none 0 0, .slice (some ⟨q5, 0, none⟩) 1 1], by go_simp, (number_one v1 V1.out q5 W hC).mono ?_⟩
          rintro e w' ⟨B, k, rfl, _, hC', hb⟩
          exact ⟨_, rfl, ⟨_, _, rfl⟩, IB.out _ _ hW hb, hb, ⟨B, k, rfl, hC'⟩⟩
        rintro v ⟨B6, k6, rfl⟩
        try simp only [Act.put, List.setIfInBounds_toArray, List.set_cons_zero, List.set_cons_succ]
        refine' Flow.val _ 7 (some 112) (Op.convert 50 9 (Operand.tmp 111)) 9 (some (3, true)) [6] _ rfl (by kernel_rfl) (by kernel_rfl) (by kernel_rfl) (by rfl) ?_ ?_ HRF.out
        · intro W hW hK
          have h5 := hK 6 (by simp)
          simp only [updK, if_true, if_false, reduceIte] at h5
          obtain ⟨B', k', e, hC⟩ := h5
          obtain ⟨rfl, rfl⟩ : B6 = B' ∧ k6 = k' := by simpa using e
          have hcv := Kd.C_string (c := k6) Try.underlying50 Try.underlying5 Try.underlying9 hC
          clear hC e hK hW
          go_simp
          first | done | with_reducible rfl
        try simp only [Act.put, List.setIfInBounds_toArray, List.set_cons_zero, List.set_cons_succ]
        refine' Flow.val _ 8 (some 113) (Op.move (Operand.tmp 0)) 50 (some (3, true)) [] _ rfl (by kernel_rfl) (by kernel_rfl) (by kernel_rfl) (by rfl) ?_ ?_ HRF.out
        · (intro W hW hK; go_simp; first | done | with_reducible rfl)
        try simp only [Act.put, List.setIfInBounds_toArray, List.set_cons_zero, List.set_cons_succ]
        refine' Flow.val _ 9 (some 114) (Op.move (Operand.tmp 9)) 53 (some (3, true)) [] _ rfl (by kernel_rfl) (by kernel_rfl) (by kernel_rfl) (by rfl) ?_ ?_ HRF.out
        · (intro W hW hK; go_simp; first | done | with_reducible rfl)
        try simp only [Act.put, List.setIfInBounds_toArray, List.set_cons_zero, List.set_cons_succ]
        refine' Flow.call _ 10 (some 115) (Op.call { callee := Callee.value (Operand.func 35), args := #[Operand.tmp 114], argTypes := #[53] }) 3 (some (3, true)) [] _ 35 _ rfl (by kernel_rfl) (by kernel_rfl) (by kernel_rfl) (by rfl) ?_ ?_ ?_
        rotate_left
        · (intro W; go_simp; first | done | with_reducible rfl)
        · (intro W hW hK; refine (TW1.out W hW).mono ?_; intro e w' h; exact h)
        try simp only [Act.put, List.setIfInBounds_toArray, List.set_cons_zero, List.set_cons_succ]
        refine' Flow.val _ 11 (some 116) (Op.slice 50 (Operand.tmp 113) none (some (Operand.tmp 115)) none) 50 (some (3, true)) [] _ rfl (by kernel_rfl) (by kernel_rfl) (by kernel_rfl) (by rfl) ?_ ?_ HRF.out
        · (intro W hW hK; have hF := SF.out W hW; go_simp; first | done | with_reducible rfl)
        try simp only [Act.put, List.setIfInBounds_toArray, List.set_cons_zero, List.set_cons_succ]
        refine' Flow.val _ 12 (some 117) (Op.convert 50 9 (Operand.tmp 116)) 9 (some (3, true)) [] _ rfl (by kernel_rfl) (by kernel_rfl) (by kernel_rfl) (by rfl) ?_ ?_ HRF.out
        · (intro W hW hK; have hF := SF.out W hW; go_simp; first | done | with_reducible rfl)
        try simp only [Act.put, List.setIfInBounds_toArray, List.set_cons_zero, List.set_cons_succ]
        refine' Flow.val _ 13 (some 118) (Op.binOp BinOp.neq 9 (Operand.tmp 112) (Operand.tmp 117) 9) 4 (some (3, true)) [] _ rfl (by kernel_rfl) (by kernel_rfl) (by kernel_rfl) (by rfl) ?_ ?_ HRF.out
        · (intro W hW hK; go_simp; first | done | with_reducible rfl)
        try simp only [Act.put, List.setIfInBounds_toArray, List.set_cons_zero, List.set_cons_succ]
        refine' Flow.val _ 14 (some 119) (Op.pick (Operand.tmp 108) (Operand.tmp 118) (Operand.const (Value.bool false))) 4 (none) [] _ rfl (by kernel_rfl) (by kernel_rfl) (by kernel_rfl) (by rfl) ?_ ?_ HRF.out
        · (intro W hW hK; go_simp; first | done | with_reducible rfl)
        try simp only [Act.put, List.setIfInBounds_toArray, List.set_cons_zero, List.set_cons_succ]
        refine' Flow.val _ 15 (some 120) (Op.move (Operand.tmp 119)) 4 (none) [] _ rfl (by kernel_rfl) (by kernel_rfl) (by kernel_rfl) (by rfl) ?_ ?_ HRF.out
        · (intro W hW hK; go_simp; first | done | with_reducible rfl)
        try simp only [Act.put, List.setIfInBounds_toArray, List.set_cons_zero, List.set_cons_succ]
        refine' Flow.val _ 16 (some 121) (Op.move (Operand.tmp 15)) 32 (some (15, false)) [] _ rfl (by kernel_rfl) (by kernel_rfl) (by kernel_rfl) (by rfl) ?_ ?_ HRF.out
        · (intro W hW hK; go_simp; first | done | with_reducible rfl)
        try simp only [Act.put, List.setIfInBounds_toArray, List.set_cons_zero, List.set_cons_succ]
        refine' Flow.call _ 17 (some 122) (Op.call { callee := Callee.value (Operand.func 34), args := #[Operand.tmp 121], argTypes := #[32] }) 3 (some (15, false)) [] _ 34 _ rfl (by kernel_rfl) (by kernel_rfl) (by kernel_rfl) (by rfl) ?_ ?_ ?_
        rotate_left
        · (intro W; go_simp; first | done | with_reducible rfl)
        · (intro W hW hK; refine (TE2.out W hW).mono ?_; intro e w' h; exact h)
        try simp only [Act.put, List.setIfInBounds_toArray, List.set_cons_zero, List.set_cons_succ]
        refine' Flow.val _ 18 (some 123) (Op.binOp BinOp.eql 3 (Operand.tmp 122) (Operand.const (Value.int IntKind.i64 0)) 3) 4 (some (15, false)) [] _ rfl (by kernel_rfl) (by kernel_rfl) (by kernel_rfl) (by rfl) ?_ ?_ HRF.out
        · (intro W hW hK; go_simp; first | done | with_reducible rfl)
        try simp only [Act.put, List.setIfInBounds_toArray, List.set_cons_zero, List.set_cons_succ]
        refine' Flow.val _ 19 (some 124) (Op.move (Operand.tmp 123)) 4 (some (15, false)) [] _ rfl (by kernel_rfl) (by kernel_rfl) (by kernel_rfl) (by rfl) ?_ ?_ HRF.out
        · (intro W hW hK; go_simp; first | done | with_reducible rfl)
        try simp only [Act.put, List.setIfInBounds_toArray, List.set_cons_zero, List.set_cons_succ]
        refine' Flow.val _ 20 (some 125) (Op.move (Operand.tmp 14)) 2 (some (19, true)) [] _ rfl (by kernel_rfl) (by kernel_rfl) (by kernel_rfl) (by rfl) ?_ ?_ HRF.out
        · (intro W hW hK; go_simp; first | done | with_reducible rfl)
        try simp only [Act.put, List.setIfInBounds_toArray, List.set_cons_zero, List.set_cons_succ]
        refine' Flow.op _ 21 (some 126) (Op.buildSlice 41 1 #[(0, Operand.tmp 125)]) 41 (some (19, true)) [] (fun v => ∃ g : Nat, v = .slice (some ⟨g, 0, none⟩) 1 1) (fun v W => ∃ g : Nat, v = .slice (some ⟨g, 0, none⟩) 1 1 ∧ Kd.C (Kd.int .i64) W (some ⟨g, 0, none⟩) 1 [v2]) rfl (by kernel_rfl) (by kernel_rfl) (by kernel_rfl) ⟨_, 0, rfl⟩ (fun v W W' hb ⟨g, e, h⟩ => ⟨g, e, Kd.C_below h hb⟩) (by rfl) ?_ ?_
        · intro W hW hK
          refine .inl ⟨.slice (some ⟨W.heap.size, 0, none⟩) 1 1, W.alloc (.cells #[.int .i64 v2] 2), ⟨_, rfl⟩, IB.out _ _ hW (below_alloc (Below.refl _ _) _), below_alloc (Below.refl _ _) _, ⟨_, rfl, lit1 W .i64 2 v2⟩, ?_⟩
          go_simp
        rintro v ⟨q21, rfl⟩
        try simp only [Act.put, List.setIfInBounds_toArray, List.set_cons_zero, List.set_cons_succ]
        refine' Flow.op _ 22 (some 127) (Op.call { callee := Callee.value (Operand.func 36), args := #[Operand.const (Value.slice none 0 0), Operand.tmp 126], argTypes := #[50, 41] }) 50 (some (19, true)) [21] (fun v => ∃ (B : Option Addr) (k : Nat), v = .slice B (sdig v2).length k) (fun v W => ∃ (B : Option Addr) (k : Nat), v = .slice B (sdig v2).length k ∧ Kd.C (Kd.int .u8) W B (sdig v2).length (sdig v2)) rfl (by kernel_rfl) (by kernel_rfl) (by kernel_rfl) ⟨_, none, 0, rfl⟩ (fun v W W' hb ⟨B, k, e, h⟩ => ⟨B, k, e, Kd.C_below h hb⟩) (by rfl) ?_ ?_
        · intro W hW hK
          have h5 := hK 21 (by simp)
          simp only [updK, if_true, if_false, reduceIte] at h5
          obtain ⟨g', e, hC⟩ := h5
          obtain rfl : q21 = g' := by simpa using e
          refine .inr ⟨36, #[.slice none 0 0, .slice (some ⟨q21, 0, none⟩) 1 1], by go_simp, (signed_one v2 V2.out q21 W hC).mono ?_⟩
          rintro e w' ⟨B, k, rfl, _, hC', hb⟩
          exact ⟨_, rfl, ⟨_, _, rfl⟩, IB.out _ _ hW hb, hb, ⟨B, k, rfl, hC'⟩⟩
        rintro v ⟨B22, k22, rfl⟩
        try simp only [Act.put, List.setIfInBounds_toArray, List.set_cons_zero, List.set_cons_succ]
        refine' Flow.val _ 23 (some 128) (Op.convert 50 9 (Operand.tmp 127)) 9 (some (19, true)) [22] _ rfl (by kernel_rfl) (by kernel_rfl) (by kernel_rfl) (by rfl) ?_ ?_ HRF.out
        · intro W hW hK
          have h5 := hK 22 (by simp)
          simp only [updK, if_true, if_false, reduceIte] at h5
          obtain ⟨B', k', e, hC⟩ := h5
          obtain ⟨rfl, rfl⟩ : B22 = B' ∧ k22 = k' := by simpa using e
          have hcv := Kd.C_string (c := k22) Try.underlying50 Try.underlying5 Try.underlying9 hC
          clear hC e hK hW
          go_simp
          first | done | with_reducible rfl
        try simp only [Act.put, List.setIfInBounds_toArray, List.set_cons_zero, List.set_cons_succ]
        refine' Flow.val _ 24 (some 129) (Op.move (Operand.tmp 0)) 50 (some (19, true)) [] _ rfl (by kernel_rfl) (by kernel_rfl) (by kernel_rfl) (by rfl) ?_ ?_ HRF.out
        · (intro W hW hK; go_simp; first | done | with_reducible rfl)
        try simp only [Act.put, List.setIfInBounds_toArray, List.set_cons_zero, List.set_cons_succ]
        refine' Flow.val _ 25 (some 130) (Op.move (Operand.tmp 10)) 53 (some (19, true)) [] _ rfl (by kernel_rfl) (by kernel_rfl) (by kernel_rfl) (by rfl) ?_ ?_ HRF.out
        · (intro W hW hK; go_simp; first | done | with_reducible rfl)
        try simp only [Act.put, List.setIfInBounds_toArray, List.set_cons_zero, List.set_cons_succ]
        refine' Flow.call _ 26 (some 131) (Op.call { callee := Callee.value (Operand.func 35), args := #[Operand.tmp 130], argTypes := #[53] }) 3 (some (19, true)) [] _ 35 _ rfl (by kernel_rfl) (by kernel_rfl) (by kernel_rfl) (by rfl) ?_ ?_ ?_
        rotate_left
        · (intro W; go_simp; first | done | with_reducible rfl)
        · (intro W hW hK; refine (TW2.out W hW).mono ?_; intro e w' h; exact h)
        try simp only [Act.put, List.setIfInBounds_toArray, List.set_cons_zero, List.set_cons_succ]
        refine' Flow.val _ 27 (some 132) (Op.slice 50 (Operand.tmp 129) none (some (Operand.tmp 131)) none) 50 (some (19, true)) [] _ rfl (by kernel_rfl) (by kernel_rfl) (by kernel_rfl) (by rfl) ?_ ?_ HRF.out
        · (intro W hW hK; have hF := SF.out W hW; go_simp; first | done | with_reducible rfl)
        try simp only [Act.put, List.setIfInBounds_toArray, List.set_cons_zero, List.set_cons_succ]
        refine' Flow.val _ 28 (some 133) (Op.convert 50 9 (Operand.tmp 132)) 9 (some (19, true)) [] _ rfl (by kernel_rfl) (by kernel_rfl) (by kernel_rfl) (by rfl) ?_ ?_ HRF.out
        · (intro W hW hK; have hF := SF.out W hW; go_simp; first | done | with_reducible rfl)
        try simp only [Act.put, List.setIfInBounds_toArray, List.set_cons_zero, List.set_cons_succ]
        refine' Flow.val _ 29 (some 134) (Op.binOp BinOp.neq 9 (Operand.tmp 128) (Operand.tmp 133) 9) 4 (some (19, true)) [] _ rfl (by kernel_rfl) (by kernel_rfl) (by kernel_rfl) (by rfl) ?_ ?_ HRF.out
        · (intro W hW hK; go_simp; first | done | with_reducible rfl)
        try simp only [Act.put, List.setIfInBounds_toArray, List.set_cons_zero, List.set_cons_succ]
        refine' Flow.val _ 30 (some 135) (Op.pick (Operand.tmp 124) (Operand.tmp 134) (Operand.const (Value.bool false))) 4 (some (15, false)) [] _ rfl (by kernel_rfl) (by kernel_rfl) (by kernel_rfl) (by rfl) ?_ ?_ HRF.out
        · (intro W hW hK; go_simp; first | done | with_reducible rfl)
        try simp only [Act.put, List.setIfInBounds_toArray, List.set_cons_zero, List.set_cons_succ]
        refine' Flow.val _ 31 (some 136) (Op.pick (Operand.tmp 120) (Operand.const (Value.bool true)) (Operand.tmp 135)) 4 (none) [] _ rfl (by kernel_rfl) (by kernel_rfl) (by kernel_rfl) (by rfl) ?_ ?_ HRF.out
        · (intro W hW hK; go_simp; first | done | with_reducible rfl)
        try simp only [Act.put, List.setIfInBounds_toArray, List.set_cons_zero, List.set_cons_succ]
        refine' Flow.done _ (by kernel_rfl) ?_
        intro W hW hK
        clear hK
        go_wp2_with fail
        refine (klaxonlaw01_live.calls true _ rfl).mono ?_
        rintro e w11 ⟨rfl, hb⟩
        have HB := Aside0.mk (below_step (IW.out _ hW) hb)
        clear hb
        go_wp2_with fail
        go_ret
        exact ⟨rfl, HB.out⟩
end Least
def klaxonlaw01_QuillLeast.f (l0 : List Int) (a1 : Int) (a2 : Int) : Option Bool := if l0.all byteB = true ∧ (0 ≤ a1 ∧ a1 < 18446744073709551616) ∧ (0 ≤ a2 ∧ a2 < 18446744073709551616) then some true else none
theorem klaxonlaw01_QuillLeast.calls (A0 : Option Addr) (c0 : Nat) (l0 : List Int) (a1 : Int) (a2 : Int) (r : Bool) (w : World) (hr0 : Kd.C (Kd.int .u8) w A0 l0.length l0) (hc0 : l0.length ≤ c0) (h : klaxonlaw01_QuillLeast.f l0 a1 a2 = some r) :
    Calls Try.prog 8 #[.slice A0 l0.length c0, .int .u64 a1, .int .u64 a2] w fun e w' => e = .returned (.bool r) ∧ Below w.heap.size w w' := by
  unfold klaxonlaw01_QuillLeast.f at h
  by_cases hc : l0.all byteB = true ∧ (0 ≤ a1 ∧ a1 < 18446744073709551616) ∧ (0 ≤ a2 ∧ a2 < 18446744073709551616)
  · rw [if_pos hc] at h
    obtain rfl : true = r := Option.some.inj h
    exact Least.least_law A0 c0 l0 a1 a2 w hr0 hc0 (fun x hx => of_decide_eq_true (List.all_eq_true.mp hc.1 x hx)) hc.2.1 hc.2.2
  · rw [if_neg hc] at h; cases h

end Go.Proofs.Ytmcnipjfigbkeaa.PLeast
