import Derived.Laws.BitsAllLaws
namespace Go.Crc
/-- The polynomial. -/
def poly : Nat := 3945912366
/-- A bit's step. -/
def stp (m : Nat) : Nat := if m % 2 = 1 then (m / 2) ^^^ poly else m / 2
theorem xor_lt {a b : Nat} (ha : a < 4294967296) (hb : b < 4294967296) : a ^^^ b < 4294967296 := Nat.xor_lt_two_pow (n := 32) ha hb
theorem stp_lt {m : Nat} (h : m < 4294967296) : stp m < 4294967296 := by
  unfold stp; split
  · exact xor_lt (by omega) (by decide)
  · omega
theorem xor_top {a : Nat} (h : a < 2147483648) : ¬ (a ^^^ poly < 2147483648) := by
  intro hx
  have h1 : (a ^^^ poly).testBit 31 = true := by
    rw [Nat.testBit_xor, Nat.testBit_lt_two_pow (i := 31) (by omega)]; decide
  rw [Nat.testBit_lt_two_pow (i := 31) (by omega)] at h1; cases h1
theorem xor_cancel {a b c : Nat} (h : a ^^^ c = b ^^^ c) : a = b := by
  have : (a ^^^ c) ^^^ c = (b ^^^ c) ^^^ c := by rw [h]
  simpa [Nat.xor_assoc] using this
theorem stp_inj {a b : Nat} (ha : a < 4294967296) (hb : b < 4294967296) (h : stp a = stp b) : a = b := by
  unfold stp at h
  by_cases h1 : a % 2 = 1 <;> by_cases h2 : b % 2 = 1
  · rw [if_pos h1, if_pos h2] at h
    have := xor_cancel h; omega
  · rw [if_pos h1, if_neg h2] at h
    exact absurd (h ▸ (by omega : b / 2 < 2147483648)) (xor_top (by omega))
  · rw [if_neg h1, if_pos h2] at h
    exact absurd (h ▸ (by omega : a / 2 < 2147483648)) (xor_top (by omega))
  · rw [if_neg h1, if_neg h2] at h; omega
/-- Bits, one behind the other. -/
def run (m : Nat) : List Nat → Nat
  | [] => m
  | b :: t => run (stp (m ^^^ b)) t
theorem run_append (s t : List Nat) : ∀ m, run m (s ++ t) = run (run m s) t := by
  induction s with
  | nil => intro m; rfl
  | cons b s ih => intro m; exact ih _
theorem run_lt (s : List Nat) : ∀ m, m < 4294967296 → (∀ b ∈ s, b < 2) → run m s < 4294967296 := by
  induction s with
  | nil => intro m h _; exact h
  | cons b s ih =>
    intro m h hb
    have := hb b (by simp)
    exact ih _ (stp_lt (xor_lt h (by omega))) (fun c hc => hb c (by simp [hc]))
theorem run_inj (s : List Nat) : ∀ a b, a < 4294967296 → b < 4294967296 → (∀ x ∈ s, x < 2) → run a s = run b s → a = b := by
  induction s with
  | nil => intro a b _ _ _ h; exact h
  | cons x s ih =>
    intro a b ha hb hs h
    have hx := hs x (by simp)
    have := ih _ _ (stp_lt (xor_lt ha (by omega))) (stp_lt (xor_lt hb (by omega))) (fun c hc => hs c (by simp [hc])) h
    exact xor_cancel (stp_inj (xor_lt ha (by omega)) (xor_lt hb (by omega)) this)
/-- The step, so many times. -/
def steps : Nat → Nat → Nat
  | 0, m => m
  | n + 1, m => steps n (stp m)
theorem steps_inj (n : Nat) : ∀ a b, a < 4294967296 → b < 4294967296 → steps n a = steps n b → a = b := by
  induction n with
  | zero => intro a b _ _ h; exact h
  | succ n ih => intro a b ha hb h; exact stp_inj ha hb (ih _ _ (stp_lt ha) (stp_lt hb) h)
theorem steps_lt (n : Nat) : ∀ a, a < 4294967296 → steps n a < 4294967296 := by
  induction n with
  | zero => intro a h; exact h
  | succ n ih => intro a h; exact ih _ (stp_lt h)
/-- The bits of a number, the lowest one first. -/
def bitsOf (n : Nat) (c : Nat) : List Nat := match n with
  | 0 => []
  | n + 1 => c % 2 :: bitsOf n (c / 2)
theorem bits_lt (n : Nat) : ∀ c, ∀ b ∈ bitsOf n c, b < 2 := by
  induction n with
  | zero => intro c b h; simp [bitsOf] at h
  | succ n ih =>
    intro c b h
    rw [bitsOf] at h
    rcases List.mem_cons.mp h with rfl | h
    · omega
    · exact ih _ b h
theorem bits_length (n : Nat) : ∀ c, (bitsOf n c).length = n := by
  induction n with
  | zero => intro c; rfl
  | succ n ih => intro c; rw [bitsOf, List.length_cons, ih]
theorem xor_mod2 (a b : Nat) : (a ^^^ b) % 2 = (a + b) % 2 := by
  have h := Nat.xor_mod_two_pow (a := a) (b := b) (n := 1)
  rw [show 2 ^ 1 = 2 from rfl] at h
  rw [h]
  rcases Nat.mod_two_eq_zero_or_one a with h1 | h1 <;> rcases Nat.mod_two_eq_zero_or_one b with h2 | h2 <;> rw [h1, h2] <;> simp <;> omega
theorem stp_xor (m c : Nat) : stp (m ^^^ c) = stp (m ^^^ (c % 2)) ^^^ (c / 2) := by
  have e1 : (m ^^^ c) % 2 = (m ^^^ (c % 2)) % 2 := by rw [xor_mod2, xor_mod2]; omega
  have e2 : (m ^^^ c) / 2 = m / 2 ^^^ c / 2 := Nat.xor_div_two
  have e3 : (m ^^^ (c % 2)) / 2 = m / 2 := by rw [Nat.xor_div_two, show c % 2 / 2 = 0 by omega, Nat.xor_zero]
  unfold stp
  rw [e1, e2, e3]
  split
  · rw [Nat.xor_assoc, Nat.xor_assoc, Nat.xor_comm (c / 2) poly]
  · rfl
theorem run_bits (n : Nat) : ∀ m c, c < 2 ^ n → run m (bitsOf n c) = steps n (m ^^^ c) := by
  induction n with
  | zero => intro m c h; have : c = 0 := by omega
            subst this; simp [bitsOf, run, steps]
  | succ n ih =>
    intro m c h
    rw [bitsOf, run, steps, ih _ (c / 2) (by rw [Nat.pow_succ] at h; omega), stp_xor m c]
/-- The number of bits. -/
def pack : List Nat → Nat
  | [] => 0
  | b :: t => b + 2 * pack t
theorem pack_lt (s : List Nat) (h : ∀ b ∈ s, b < 2) : pack s < 2 ^ s.length := by
  induction s with
  | nil => simp [pack]
  | cons b s ih =>
    have := h b (by simp)
    have := ih (fun c hc => h c (by simp [hc]))
    rw [pack, List.length_cons, Nat.pow_succ]; omega
theorem bits_pack (s : List Nat) (h : ∀ b ∈ s, b < 2) : bitsOf s.length (pack s) = s := by
  induction s with
  | nil => rfl
  | cons b s ih =>
    have hb := h b (by simp)
    have := ih (fun c hc => h c (by simp [hc]))
    rw [pack, List.length_cons, bitsOf, show (b + 2 * pack s) % 2 = b by omega, show (b + 2 * pack s) / 2 = pack s by omega, this]
theorem two_pow_le (n : Nat) (h : n ≤ 32) : 2 ^ n ≤ 4294967296 := Nat.pow_le_pow_right (n := 2) (by decide) h
theorem run_burst (m : Nat) (s t : List Nat) (hm : m < 4294967296) (hl : s.length = t.length) (h32 : s.length ≤ 32) (hs : ∀ b ∈ s, b < 2) (ht : ∀ b ∈ t, b < 2) (h : run m s = run m t) : s = t := by
  have ps := pack_lt s hs
  have pt := pack_lt t ht
  have a := run_bits s.length m (pack s) ps
  have b := run_bits t.length m (pack t) pt
  rw [bits_pack s hs] at a
  rw [bits_pack t ht, ← hl] at b
  have h2 := two_pow_le s.length h32
  rw [← hl] at pt
  have c := steps_inj s.length _ _ (xor_lt hm (by omega)) (xor_lt hm (by omega)) (a.symm.trans (h.trans b))
  rw [Nat.xor_comm m, Nat.xor_comm m] at c
  have d := xor_cancel c
  rw [← bits_pack s hs, ← bits_pack t ht, d, hl]
/-- The sum of bytes. -/
def sum (l : List Nat) : Nat := run 4294967295 (l.flatMap (bitsOf 8))
theorem flat_lt (l : List Nat) : ∀ b ∈ l.flatMap (bitsOf 8), b < 2 := by
  intro b h
  obtain ⟨c, _, hc⟩ := List.mem_flatMap.mp h
  exact bits_lt _ _ _ hc
theorem sum_lt (l : List Nat) : sum l < 4294967296 := run_lt _ _ (by decide) (flat_lt l)
theorem bits_inj (n : Nat) : ∀ a b, a < 2 ^ n → b < 2 ^ n → bitsOf n a = bitsOf n b → a = b := by
  induction n with
  | zero => intro a b ha hb _; omega
  | succ n ih =>
    intro a b ha hb h
    rw [bitsOf, bitsOf] at h
    injection h with h1 h2
    rw [Nat.pow_succ] at ha hb
    have := ih _ _ (by omega) (by omega) h2
    omega
/-- Sums of bits that are other ones within 32 neighbouring ones are other ones. -/
theorem burst (pre s t post : List Nat) (hp : ∀ b ∈ pre, b < 2) (hq : ∀ b ∈ post, b < 2) (hl : s.length = t.length) (h32 : s.length ≤ 32) (hs : ∀ b ∈ s, b < 2) (ht : ∀ b ∈ t, b < 2) (h : run 4294967295 (pre ++ (s ++ post)) = run 4294967295 (pre ++ (t ++ post))) : s = t := by
  have h0 : run 4294967295 pre < 4294967296 := run_lt _ _ (by decide) hp
  rw [run_append, run_append, run_append, run_append] at h
  exact run_burst _ s t h0 hl h32 hs ht (run_inj post _ _ (run_lt _ _ h0 hs) (run_lt _ _ h0 ht) hq h)
/-- A byte that is another one has another sum. -/
theorem sum_other (a b : List Nat) (x y : Nat) (hx : x < 256) (hy : y < 256) (h : sum (a ++ x :: b) = sum (a ++ y :: b)) : x = y := by
  unfold sum at h
  rw [List.flatMap_append, List.flatMap_append, List.flatMap_cons, List.flatMap_cons] at h
  have := burst (a.flatMap (bitsOf 8)) (bitsOf 8 x) (bitsOf 8 y) (b.flatMap (bitsOf 8)) (flat_lt a) (flat_lt b) (by rw [bits_length, bits_length]) (by rw [bits_length]; decide) (bits_lt 8 x) (bits_lt 8 y) h
  exact bits_inj 8 x y hx hy this
theorem run_byte (m c : Nat) (hc : c < 256) : run m (bitsOf 8 c) = steps 8 (m ^^^ c) := run_bits 8 m c hc
/-- Are they bytes? -/
def Bytes (l : List Int) : Prop := ∀ x ∈ l, 0 ≤ x ∧ x < 256
/-- The same, as a test. -/
def bytesB (l : List Int) : Bool := l.all fun x => decide (0 ≤ x ∧ x < 256)
theorem bytesB_ok {l : List Int} (h : bytesB l = true) : Bytes l := fun x hx => of_decide_eq_true (List.all_eq_true.mp h x hx)
theorem bytesB_of {l : List Int} (h : Bytes l) : bytesB l = true := List.all_eq_true.mpr fun x hx => decide_eq_true (h x hx)
/-- Bytes as natural numbers. -/
def nat (l : List Int) : List Nat := l.map Int.toNat
/-- The sum of bytes, from a state. -/
def from_ (m : Nat) (l : List Int) : Nat := run m ((nat l).flatMap (bitsOf 8))
theorem from_append (m : Nat) (s t : List Int) : from_ m (s ++ t) = from_ (from_ m s) t := by
  unfold from_ nat; rw [List.map_append, List.flatMap_append, run_append]
theorem from_lt (m : Nat) (s : List Int) (h : m < 4294967296) : from_ m s < 4294967296 := run_lt _ _ h (flat_lt _)
theorem steps_succ (n : Nat) : ∀ m, steps (n + 1) m = stp (steps n m) := by
  induction n with
  | zero => intro m; rfl
  | succ n ih => intro m; rw [steps, ih, steps]
theorem from_one (m : Nat) (x : Int) (h0 : 0 ≤ x) (h1 : x < 256) : from_ m [x] = steps 8 (m ^^^ x.toNat) := by
  unfold from_ nat
  rw [List.map_cons, List.map_nil, List.flatMap_cons, List.flatMap_nil, List.append_nil, run_byte _ _ (by omega)]
theorem and1 (m : Nat) (h : m < 4294967296) : Go.bits .and .u32 (m : Int) 1 = ((m % 2 : Nat) : Int) := by
  have := u32_and_nat m 1 h (by decide)
  rw [show ((1 : Nat) : Int) = 1 from rfl] at this
  rw [this, Nat.and_one_is_mod]
theorem xorP (m : Nat) (h : m < 4294967296) : Go.bits .xor .u32 (m : Int) 3945912366 = ((m ^^^ poly : Nat) : Int) := u32_xor_nat m poly h (by decide)
theorem getD_take (rows : List (List Int)) (i : Nat) (h : i < rows.length) : (rows.take (i + 1)).flatten = (rows.take i).flatten ++ rows.getD i [] := by
  rw [List.take_add_one, List.flatten_append]
  congr 1
  simp [h, List.getD]
theorem getD_mem (rows : List (List Int)) (i : Nat) (h : i < rows.length) : rows.getD i [] ∈ rows := by
  have : rows.getD i [] = rows[i] := by simp [h, List.getD]
  rw [this]; exact List.getElem_mem h
/-- The sum of a row of numbers. -/
def crc (l : List Int) : Int := (from_ 4294967295 l : Nat)
end Go.Crc
