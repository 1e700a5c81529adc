/- meta: fields, lay, told, Put, walked. -/
import Derived.Test.YteimienhaodfcaaKDiskE
import Derived.Test.YteimienhaodfcaaKClone
import Derived.Deep.QuietTactic
import Derived.BigQuiet
import Derived.Deep.RegionHeld3
import Derived.Lib.AppendZerosOnto
import Derived.Lib.SliceRun
import Derived.Lib.Walk
namespace Go.Proofs.YteimienhaodfcaaK
open Go.RowKit Go.Proofs.YteimienhaodfcaaW.PrintWords Go.Proofs.YteimienhaodfcaaW.PrintLast Go.Proofs.YteimienhaodfcaaW.PrintMore Go.Crc
open Go.ChangeMaps (setBlock)
attribute [local go_sem] max2_int min2_int max_two min_two
set_option linter.unusedVariables false
set_option linter.unusedSimpArgs false
variable {w w' : World} {X X' S : Nat → Prop} {d sb mb clock : Nat} {es : Array MapEntry} {safe : List Int} {D : Dk}
def fldsV : Value := .agg #[.int .i64 0, .int .i64 8, .int .i64 8, .int .i64 12, .int .i64 12, .int .i64 20, .int .i64 20, .int .i64 24, .int .i64 24, .int .i64 28, .int .i64 28, .int .i64 36]
set_option maxHeartbeats 1000000 in
set_option maxRecDepth 100000 in
theorem fields_calls (w : World) : Calls Try.prog 68 #[] w fun e w' => e = .returned (.agg #[.int .i64 0, .int .i64 8, .int .i64 8, .int .i64 12, .int .i64 12, .int .i64 20, .int .i64 20, .int .i64 24, .int .i64 24, .int .i64 28, .int .i64 28, .int .i64 36]) ∧ Below w.heap.size w w' := by
  go_enter Try.func68, Try.ntmps68
  go_wp2
  refine bodyPost_ret (v := .agg #[.int .i64 0, .int .i64 8, .int .i64 8, .int .i64 12, .int .i64 12, .int .i64 20, .int .i64 20, .int .i64 24, .int .i64 24, .int .i64 28, .int .i64 28, .int .i64 36]) (by simp [results, Try.results68, go_sem]) rfl ⟨rfl, ?_⟩
  repeat (first | (with_reducible first | exact Below.refl _ _ | apply below_alloc | apply pw_below_drewN | apply below_drew1) | exact Below.refl _ _)
set_option maxHeartbeats 1000000 in
set_option maxRecDepth 100000 in
theorem flay_arr (g o n c : Nat) (v : Int) (cs : Array Value) (w : World) (hb : w.heap[g]? = some (.cells cs 5 (0, 0))) (hn : o + n ≤ cs.size) (hs : cs.size < 100000) (hv : 0 ≤ v) (hv2 : v < 18446744073709551616) :
    Calls Try.prog 71 #[.agg #[.int .i64 (o : Int), .int .i64 ((o + n : Nat) : Int)], .slice (some ⟨g, 0, none⟩) cs.size c, .int .u64 v] w fun e w' => ∃ cs' : Array Value, e = .returned (.tuple #[]) ∧ w'.heap[g]? = some (.cells cs' 5 (0, 0)) ∧ cs'.toList = cs.toList.take o ++ ((be n v).map (.int .u8) ++ cs.toList.drop (o + n)) ∧ Frm (fun k => k = g) w w' := by
  have hglt := blk_lt hb
  have hne : ¬ g = w.heap.size := by omega
  obtain ⟨m, hm⟩ : ∃ m, o + n = m := ⟨_, rfl⟩
  rw [hm] at hn ⊢
  have hom : o ≤ m := by omega
  have HM := Aside0.mk hm
  clear hm
  go_enter Try.func71, Try.ntmps71
  go_wp2
  have HB0 := Aside0.mk ((Frm.refl (fun k => k = g) w).alloc (.cells #[.int .i64 (o : Int), .int .i64 (m : Int)] 117))
  have HX0 := Aside0.mk (blk_new w (.cells #[.int .i64 (o : Int), .int .i64 (m : Int)] 117))
  go_loopg [2, 6] n (fun kq v2 v6 w' => ∃ (i : Nat) (x y : Int) (cs1 : Array Value), v2 = .int .u64 x ∧ v6 = .int .i64 y ∧ w'.heap[g]? = some (.cells cs1 5 (0, 0)) ∧ cs1.size = cs.size ∧ w'.heap[w.heap.size]? = some (.cells #[.int .i64 (o : Int), .int .i64 (m : Int)] 117 (0, 0)) ∧ Aside0 (y = (m : Int) - 1 - i ∧ 0 ≤ x ∧ x < 18446744073709551616 ∧ x = v / 256 ^ i ∧ i ≤ n ∧ kq = n - i ∧ cs1.toList = cs.toList.take (m - i) ++ ((be i v).map (.int .u8) ++ cs.toList.drop m) ∧ Frm (fun k => k = g) w w'))
  case atStart => exact ⟨0, v, _, cs, rfl, rfl, blk_alloc hb _, rfl, HX0.out, ⟨by omega, hv, hv2, by simp, by omega, by omega, by simp [be], HB0.out⟩⟩
  case round =>
    obtain ⟨i, x, y, cs1, rfl, rfl, hb1, hsz, hx1, HI⟩ := hrel
    have hy := HI.out.1
    have hi0 : i ≤ n := HI.out.2.2.2.2.1
    have hx0 := blk_cell hx1 0; have hx1c := blk_cell hx1 1
    simp only [List.getElem?_toArray, List.getElem?_cons_zero, List.getElem?_cons_succ] at hx0 hx1c
    by_cases hi : i < n
    · obtain ⟨j, hj, hjo⟩ : ∃ j : Nat, y = j ∧ j = m - 1 - i := ⟨m - 1 - i, by have := HM.out; omega, rfl⟩
      subst hj
      have HJ := Aside0.mk hjo
      have hd : decide (o ≤ j) = true := decide_eq_true (by have := HM.out; omega)
      have hjlt : j < cs1.size := by have := HM.out; omega
      have hf := blk_frozen hb1 j
      obtain ⟨u, hu⟩ : ∃ u, cs1[j]? = some u := ⟨_, Array.getElem?_eq_getElem hjlt⟩
      have hc := (blk_cell hb1 j).trans hu
      have hjc : j < cs.size := by omega
      clear hy hjo hu hjlt
      go_wp2
      go_roundg (n - (i + 1))
      case measure => have := HI.out.2.2.2.2.2.1; omega
      case rel =>
        obtain ⟨h1, h2, h3, h4, h5, h6, h7, h8⟩ := HI.out
        have hmo := HM.out; have hjo := HJ.out
        refine ⟨i + 1, x / 256, _, _, by first | rfl | simp, rfl, blk_set hb1 _ _, by simpa using hsz, blk_far hx1 (by simp; omega) _, ⟨by omega, by omega, by omega, ?_, by omega, by omega, ?_, h8.set (.inl rfl) _⟩⟩
        · rw [h4, Int.pow_succ, Int.ediv_ediv_of_nonneg (Int.le_of_lt (Int.pow_pos (by decide)))]
        · have := set_step cs cs1 o n i v x (by omega) hi h4 (by rw [hmo]; exact h7)
          rw [hmo, show o + (n - 1 - i) = j by omega] at this
          exact this
    · obtain rfl : i = n := by omega
      have hd : decide ((o : Int) ≤ y) = false := decide_eq_false (by have := HM.out; omega)
      clear hy
      go_wp2
      first | go_end0 | ((try simp only [Exit.inBlock, Exit.then]); refine bodyPost_ret (results_none rfl _ _ _) rfl ?_)
      obtain ⟨h1, h2, h3, h4, h5, h6, h7, h8⟩ := HI.out
      exact ⟨cs1, rfl, hb1, by rw [show m - i = o by have := HM.out; omega] at h7; exact h7, h8⟩
set_option maxHeartbeats 400000 in
theorem flay_calls (g o n c : Nat) (v : Int) (l : List Int) (w : World) (hb : Blk w g l) (hn : o + n ≤ l.length) (hs : l.length < 100000) (hv : 0 ≤ v) (hv2 : v < 18446744073709551616) :
    Calls Try.prog 71 #[.agg #[.int .i64 (o : Int), .int .i64 ((o + n : Nat) : Int)], .slice (some ⟨g, 0, none⟩) l.length c, .int .u64 v] w fun e w' => e = .returned (.tuple #[]) ∧ Blk w' g (layL l o n v) ∧ Frm (fun k => k = g) w w' := by
  have h := flay_arr g o n c v (l.map (Value.int .u8)).toArray w hb (by simpa using hn) (by simpa using hs) hv hv2
  rw [show (l.map (Value.int .u8)).toArray.size = l.length by simp] at h
  refine h.mono ?_
  rintro e w' ⟨cs', rfl, h1, h2, h3⟩
  refine ⟨rfl, ?_, h3⟩
  unfold Blk
  rw [h1]
  congr 2
  apply Array.ext'
  rw [h2]
  simp [layL, List.map_take, List.map_drop]
/-- The number of bytes. -/
def tolL (l : List Int) : Int := l.foldl (fun n c => n * 256 + c) 0
theorem tolL_snoc (l : List Int) (c : Int) : tolL (l ++ [c]) = tolL l * 256 + c := by unfold tolL; rw [List.foldl_append]; rfl
theorem tolL_lt_ (l : List Int) (h : Bytes l) : ∀ n : Int, 0 ≤ n → 0 ≤ l.foldl (fun n c => n * 256 + c) n ∧ l.foldl (fun n c => n * 256 + c) n < (n + 1) * 256 ^ l.length := by
  induction l with
  | nil => intro n hn; simp; omega
  | cons a l ih =>
    intro n hn
    have ha := h a (by simp)
    obtain ⟨i1, i2⟩ := ih (fun x hx => h x (by simp [hx])) (n * 256 + a) (by omega)
    refine ⟨i1, Int.lt_of_lt_of_le i2 ?_⟩
    rw [List.length_cons, Int.pow_succ, Int.mul_comm (256 ^ l.length) 256, ← Int.mul_assoc]
    exact Int.mul_le_mul_of_nonneg_right (by omega) (Int.le_of_lt (Int.pow_pos (by decide)))
theorem tolL_lt (l : List Int) (h : Bytes l) : 0 ≤ tolL l ∧ tolL l < 256 ^ l.length := by
  have := tolL_lt_ l h 0 (by omega)
  rwa [Int.zero_add, Int.one_mul] at this
theorem pow256_le (k : Nat) (h : k ≤ 7) : (256 : Int) ^ k ≤ 72057594037927936 := by
  have : (256 : Nat) ^ k ≤ 256 ^ 7 := Nat.pow_le_pow_right (by decide) h
  have h2 : (((256 ^ k : Nat)) : Int) ≤ ((256 ^ 7 : Nat) : Int) := by omega
  simpa [Int.natCast_pow] using h2
theorem or_low8 (n c : Int) (h0 : 0 ≤ n) (h1 : n < 72057594037927936) (hc : 0 ≤ c) (hc2 : c < 256) : Go.bits .or .u64 (n * 256) c = n * 256 + c := by
  have := u64_or_nat (n.toNat * 256) c.toNat (by omega) (by omega)
  have e3 : ((n.toNat * 256 : Nat) : Int) = n * 256 := by omega
  have e4 : ((c.toNat : Nat) : Int) = c := by omega
  rw [e3, e4] at this
  rw [this]
  have h := Nat.two_pow_add_eq_or_of_lt (i := 8) (b := c.toNat) (by omega) n.toNat
  have e5 : n.toNat * 256 = 2 ^ 8 * n.toNat := by omega
  rw [e5, ← h]
  omega
set_option maxHeartbeats 1000000 in
set_option maxRecDepth 100000 in
theorem ftold_calls (lo hi c : Nat) (A : Option Addr) (l : List Int) (w : World) (hr : Kd.C (Kd.int .u8) w A l.length l) (hc : l.length ≤ c) (h1 : lo < hi) (h2 : hi ≤ l.length) (h8 : hi ≤ lo + 8) (hby : Bytes l) :
    Calls Try.prog 69 #[.agg #[.int .i64 (lo : Int), .int .i64 (hi : Int)], .slice A l.length c] w fun e w' => e = .returned (.int .u64 (tolL ((l.take hi).drop lo))) ∧ Below w.heap.size w w' := by
  have hlm := hr.2.1
  have hmid := Kd.C_mid hr (Nat.le_of_lt h1) h2 hc
  obtain ⟨S, hS⟩ : ∃ S, (l.take hi).drop lo = S := ⟨_, rfl⟩
  have hSl : S.length = hi - lo := by rw [← hS, List.length_drop, List.length_take]; omega
  have hSb : Bytes S := fun x hx => hby x (List.mem_of_mem_take (List.mem_of_mem_drop (hS ▸ hx)))
  rw [hS] at hmid ⊢
  rw [if_neg (by omega)] at hmid
  obtain ⟨ad, rfl, _⟩ := hr.2.2 (by omega)
  have HM := Aside0.mk hmid; have HSB := Aside0.mk hSb; have HSL := Aside0.mk hSl
  clear hmid hSb hS hr hSl
  have hcl : ¬ c = lo := by omega
  have hb1 : Below w.heap.size w (w.alloc (.cells #[.int .i64 (lo : Int), .int .i64 (hi : Int)] 117)) := below_alloc (Below.refl _ _) _
  have HB1 := Aside0.mk hb1
  clear hb1
  have hc1 : hi ≤ c := by omega
  go_enter Try.func69, Try.ntmps69
  go_wp2
  have HBy := Aside0.mk (hby : Bytes l)
  clear hby
  go_loop [4, 14] (fun n i => ∃ k : Nat, k ≤ hi - lo ∧ i = .int .i64 k ∧ n = .int .u64 (tolL (S.take k))) (fun _ i => (hi - lo) - (intOf i).toNat)
  case atStart => exact ⟨0, Nat.zero_le _, rfl, by simp [tolL]⟩
  case round =>
    obtain ⟨k, hk, rfl, rfl⟩ := hrel
    by_cases hlt : k < hi - lo
    · have hkS : k < S.length := by rw [HSL.out]; exact hlt
      obtain ⟨ad1, cs, hA, _, hK, hcell⟩ := Kd.C_get (Kd.C_below HM.out HB1.out) 0 (k : Int) (by omega) (by rw [HSL.out]; omega)
      obtain rfl : ad.add lo = ad1 := by
        have := Option.some.inj hA
        rw [← this]
        congr 1
        exact (Nat.mul_one lo).symm
      have hx : S.getD k 0 = S[k] := by simp [List.getD_eq_getElem?_getD, List.getElem?_eq_getElem hkS]
      have hcell' : (w.alloc (.cells #[.int .i64 (lo : Int), .int .i64 (hi : Int)] 117)).cell? ((ad.add lo).add k) = some (.int .u8 S[k]) := by
        have := hcell 0 (.int .u8 (S.getD (k : Int).toNat 0)) (by rw [show cs = _ from hK]; rfl)
        rw [show ((k : Int).toNat) = k by omega, hx, show k * (Kd.int .u8).sz + 0 = k from Nat.mul_one k] at this
        exact this
      have hy := HSB.out _ (List.getElem_mem hkS)
      have HT : Aside0 (S.take (k + 1) = S.take k ++ [S[k]]) := ⟨List.take_succ_eq_append_getElem hkS⟩
      have hb := tolL_lt (S.take k) fun x hx => HSB.out x (List.mem_of_mem_take hx)
      rw [List.length_take, show min k S.length = k by omega] at hb
      have hp := pow256_le k (by omega)
      have HO := Aside0.mk (or_low8 (tolL (S.take k)) S[k] hb.1 (by omega) hy.1 hy.2)
      obtain ⟨y, hyy⟩ : ∃ y, y = S[k] := ⟨_, rfl⟩
      obtain ⟨t, htt⟩ : ∃ t, t = tolL (S.take k) := ⟨_, rfl⟩
      rw [← hyy] at hcell' hy HT HO; rw [← htt] at hb HO ⊢
      have HTT := Aside0.mk htt
      obtain ⟨t0, t1⟩ := hb
      have t2 : t < 72057594037927936 := by omega
      clear hyy htt hx hcell hK hA hp t1 hkS
      go_wp2

      go_round
      case rel => exact ⟨k + 1, by omega, by go_num, by rw [HT.out, tolL_snoc, ← HTT.out, ← HO.out]⟩
      case measure => simp [intOf]; omega
    · obtain rfl : k = hi - lo := by omega
      go_wp2
      go_ret
      exact ⟨by rw [← HSL.out, List.take_length]; rfl, HB1.out⟩
def body24 (s r k d : Int) : List Int := layL (layL (layL (layL (zeros 36) 0 8 s) 8 4 r) 12 8 k) 20 4 d
def metaB (s r k d : Int) : List Int := layL (layL (body24 s r k d) 24 4 (crc ((body24 s r k d).take 24))) 28 8 s
def stageL (s r k d : Int) : Nat → List Int
  | 0 => zeros 36
  | 1 => layL (zeros 36) 0 8 s
  | 2 => layL (layL (zeros 36) 0 8 s) 8 4 r
  | 3 => layL (layL (layL (zeros 36) 0 8 s) 8 4 r) 12 8 k
  | _ => body24 s r k d
theorem stageL_length (s r k d : Int) (j : Nat) : (stageL s r k d j).length = 36 := by
  have h0 : (zeros 36).length = 36 := rfl
  have h1 := layL_length (zeros 36) 0 8 s (by decide)
  have h2 := layL_length (layL (zeros 36) 0 8 s) 8 4 r (by rw [h1]; decide)
  have h3 := layL_length (layL (layL (zeros 36) 0 8 s) 8 4 r) 12 8 k (by rw [h2, h1]; decide)
  have h4 := layL_length (layL (layL (layL (zeros 36) 0 8 s) 8 4 r) 12 8 k) 20 4 d (by rw [h3, h2, h1]; decide)
  match j with
  | 0 => exact h0
  | 1 => exact h1.trans h0
  | 2 => exact h2.trans (h1.trans h0)
  | 3 => exact h3.trans (h2.trans (h1.trans h0))
  | n + 4 => exact h4.trans (h3.trans (h2.trans (h1.trans h0)))
theorem flay' (g o n c len : Nat) (oi mi : Int) (v : Int) (l : List Int) (w : World) (hb : Blk w g l) (ho : oi = o) (hm : mi = ((o + n : Nat) : Int)) (hl : l.length = len) (hn : o + n ≤ len) (hs : len < 100000) (hv : 0 ≤ v ∧ v < 18446744073709551616) :
    Calls Try.prog 71 #[.agg #[.int .i64 oi, .int .i64 mi], .slice (some ⟨g, 0, none⟩) len c, .int .u64 v] w fun e w' => e = .returned (.tuple #[]) ∧ Blk w' g (layL l o n v) ∧ Frm (fun k => k = g) w w' := by
  subst ho; subst hm; subst hl
  exact flay_calls g o n c v l w hb hn hs hv.1 hv.2
theorem u64_range (x : Int) : 0 ≤ IntKind.u64.wrap x ∧ IntKind.u64.wrap x < 18446744073709551616 := by rw [IntKind.wrap_u64]; omega
set_option maxHeartbeats 4000000 in
set_option maxRecDepth 100000 in
theorem mput_calls (s r k d : Int) (w : World) (hs : 0 ≤ s ∧ s < 18446744073709551616) :
    Calls Try.prog 31 #[.agg #[.int .u64 s, .int .i64 r, .int .i64 k, .int .i64 d]] w fun e w' => ∃ g, e = .returned (.slice (some ⟨g, 0, none⟩) 36 36) ∧ w.heap.size ≤ g ∧ Blk w' g (metaB s (IntKind.u64.wrap r) (IntKind.u64.wrap k) (IntKind.u64.wrap d)) ∧ Below w.heap.size w w' := by
  have hmk := fun W => make_bytes W 36 (by decide)
  simp only [Int.cast_ofNat_Int] at hmk
  go_enter Try.func31, Try.ntmps31
  go_wp2_with fail
  refine (fields_calls _).mono ?_
  rintro e w1 ⟨rfl, hb1⟩
  obtain ⟨W0, hW0⟩ : ∃ W, W = ((w.alloc (Obj.cells #[.int .u64 s, .int .i64 r, .int .i64 k, .int .i64 d] 52)).alloc (Obj.cells (List.map (Value.int .u8) (zeros 36)).toArray 5)) := ⟨_, rfl⟩
  rw [← hW0] at hb1
  have x0 : W0.heap[w.heap.size]? = some (.cells #[.int .u64 s, .int .i64 r, .int .i64 k, .int .i64 d] 52) := by rw [hW0]; exact blk_alloc (blk_new w _) _
  have x1 : Blk W0 (w.heap.size + 1) (zeros 36) := by
    have := blk_new (w.alloc (Obj.cells #[.int .u64 s, .int .i64 r, .int .i64 k, .int .i64 d] 52)) (Obj.cells (List.map (Value.int .u8) (zeros 36)).toArray 5)
    rw [World.size_alloc] at this; rw [hW0]; exact this
  have hB0 : Below w.heap.size w W0 := by rw [hW0]; exact below_alloc (below_alloc (Below.refl _ _) _) _
  clear hW0 hmk
  have y0 := blk_below x0 hb1
  have y1 : Blk w1 (w.heap.size + 1) (zeros 36) := blk_below x1 hb1
  have hlt0 : w.heap.size + 1 < w1.heap.size := blk_lt y1
  have hlt1 : ¬ w.heap.size = w1.heap.size := by omega
  obtain ⟨W2, hW2⟩ : ∃ W, W = w1.alloc (Obj.cells #[.int .i64 0, .int .i64 8, .int .i64 8, .int .i64 12, .int .i64 12, .int .i64 20, .int .i64 20, .int .i64 24, .int .i64 24, .int .i64 28, .int .i64 28, .int .i64 36] 118) := ⟨_, rfl⟩
  have u0 : W2.heap[w.heap.size]? = some (.cells #[.int .u64 s, .int .i64 r, .int .i64 k, .int .i64 d] 52) := by rw [hW2]; exact blk_alloc y0 _
  have u1 : Blk W2 (w.heap.size + 1) (zeros 36) := by rw [hW2]; exact blk_alloc y1 _
  obtain ⟨fb, hfb⟩ : ∃ n, n = w1.heap.size := ⟨_, rfl⟩
  have u2 : W2.heap[fb]? = some (.cells #[.int .i64 0, .int .i64 8, .int .i64 8, .int .i64 12, .int .i64 12, .int .i64 20, .int .i64 20, .int .i64 24, .int .i64 24, .int .i64 28, .int .i64 28, .int .i64 36] 118) := by rw [hW2, hfb]; exact blk_new w1 _
  have hB2 : Below w.heap.size w W2 := by rw [hW2]; exact below_alloc (below_step hB0 hb1) _
  have z0 := blk_cell u0 0; have z1 := blk_cell u0 1; have z2 := blk_cell u0 2; have z3 := blk_cell u0 3
  simp only [List.getElem?_toArray, List.getElem?_cons_zero, List.getElem?_cons_succ] at z0 z1 z2 z3
  rw [hW2] at z0 z1 z2 z3
  have HU := Aside0.mk (And.intro u0 (And.intro u1 (And.intro u2 hB2)))
  clear hb1 x0 x1 y0 y1 hB0 u0 u1 u2 hB2
  have hflt : ¬ w.heap.size = fb := by omega
  have hglt : ¬ w.heap.size + 1 = fb := by omega
  have HFL := Aside0.mk (And.intro hflt hglt)
  clear hflt hglt
  go_wp2_with fail
  rw [← hW2, ← hfb]
  have hR := u64_range r; have hK := u64_range k; have hD := u64_range d
  obtain ⟨R, hR'⟩ : ∃ x, x = IntKind.u64.wrap r := ⟨_, rfl⟩
  obtain ⟨K, hK'⟩ : ∃ x, x = IntKind.u64.wrap k := ⟨_, rfl⟩
  obtain ⟨D, hD'⟩ : ∃ x, x = IntKind.u64.wrap d := ⟨_, rfl⟩
  rw [← hR', ← hK', ← hD']
  rw [← hR'] at hR; rw [← hK'] at hK; rw [← hD'] at hD
  have HR := Aside0.mk hR; have HK := Aside0.mk hK; have HD := Aside0.mk hD; have HS := Aside0.mk hs
  have HE := Aside0.mk (And.intro hR' (And.intro hK' hD'))
  clear hR' hK' hD' hW2 z0 z1 z2 z3 hR hK hD hs
  clear hfb hlt0 hlt1
  go_loopw [21] (fun i wr => ∃ j : Nat, j ≤ 4 ∧ i = .int .i64 j ∧ Aside0 (wr.heap[w.heap.size]? = some (.cells #[.int .u64 s, .int .i64 r, .int .i64 k, .int .i64 d] 52) ∧ Blk wr (w.heap.size + 1) (stageL s R K D j) ∧ wr.heap[fb]? = some (.cells #[.int .i64 0, .int .i64 8, .int .i64 8, .int .i64 12, .int .i64 12, .int .i64 20, .int .i64 20, .int .i64 24, .int .i64 24, .int .i64 28, .int .i64 28, .int .i64 36] 118) ∧ Below w.heap.size w wr)) (fun i _ => 4 - (intOf i).toNat)
  case atStart => exact ⟨0, by decide, rfl, HU⟩
  case round =>
    obtain ⟨j, hj, rfl, HJ⟩ := hrel
    obtain ⟨u0, u1, u2, u3⟩ := HJ.out
    have hstep : ∀ W4, Frm (fun k => k = w.heap.size + 1) wr W4 → W4.heap[w.heap.size]? = some (.cells #[.int .u64 s, .int .i64 r, .int .i64 k, .int .i64 d] 52) ∧ W4.heap[fb]? = some (.cells #[.int .i64 0, .int .i64 8, .int .i64 8, .int .i64 12, .int .i64 12, .int .i64 20, .int .i64 20, .int .i64 24, .int .i64 24, .int .i64 28, .int .i64 28, .int .i64 36] 118) ∧ Below w.heap.size w W4 := fun W4 hF => ⟨hF.blk u0 (by simp), hF.blk u2 (fun e => HFL.out.2 e.symm), u3.trans (hF.below (fun k hk => by omega) u3.size)⟩
    have HST := Aside0.mk hstep
    have hlen := stageL_length s R K D j
    have HL := Aside0.mk hlen
    clear hstep hlen u0 u3
    match j, hj with
    | 0, _ =>
      have hidx : ∀ W, (Instr.index 122 (.agg #[.int .u64 s, .int .u64 R, .int .u64 K, .int .u64 D]) (.int .i64 0)).run Try.prog W = .ok (.int .u64 s) W := fun _ => by kernel_rfl
      have c0 := blk_cell u2 0; have c1 := blk_cell u2 1
      simp only [List.getElem?_toArray, List.getElem?_cons_zero, List.getElem?_cons_succ] at c0 c1
      have HU1 := Aside0.mk u1
      clear u1 u2
      go_wp2_with fail
      refine (flay' (w.heap.size + 1) 0 8 36 36 0 8 s _ wr HU1.out rfl rfl HL.out (by decide) (by decide) HS.out).mono ?_
      rintro e w4 ⟨rfl, hb4, hf4⟩
      have H4 := Aside0.mk (And.intro hb4 hf4)
      clear hb4 hf4
      go_wp2_with fail
      go_roundw
      case rel => exact ⟨1, by decide, rfl, ⟨(HST.out _ H4.out.2).1, H4.out.1, (HST.out _ H4.out.2).2⟩⟩
      case measure => decide
    | 1, _ =>
      have hidx : ∀ W, (Instr.index 122 (.agg #[.int .u64 s, .int .u64 R, .int .u64 K, .int .u64 D]) (.int .i64 1)).run Try.prog W = .ok (.int .u64 R) W := fun _ => by kernel_rfl
      have c0 := blk_cell u2 2; have c1 := blk_cell u2 3
      simp only [List.getElem?_toArray, List.getElem?_cons_zero, List.getElem?_cons_succ] at c0 c1
      have HU1 := Aside0.mk u1
      clear u1 u2
      go_wp2_with fail
      refine (flay' (w.heap.size + 1) 8 4 36 36 8 12 R _ wr HU1.out rfl rfl HL.out (by decide) (by decide) HR.out).mono ?_
      rintro e w4 ⟨rfl, hb4, hf4⟩
      have H4 := Aside0.mk (And.intro hb4 hf4)
      clear hb4 hf4
      go_wp2_with fail
      go_roundw
      case rel => exact ⟨2, by decide, rfl, ⟨(HST.out _ H4.out.2).1, H4.out.1, (HST.out _ H4.out.2).2⟩⟩
      case measure => decide
    | 2, _ =>
      have hidx : ∀ W, (Instr.index 122 (.agg #[.int .u64 s, .int .u64 R, .int .u64 K, .int .u64 D]) (.int .i64 2)).run Try.prog W = .ok (.int .u64 K) W := fun _ => by kernel_rfl
      have c0 := blk_cell u2 4; have c1 := blk_cell u2 5
      simp only [List.getElem?_toArray, List.getElem?_cons_zero, List.getElem?_cons_succ] at c0 c1
      have HU1 := Aside0.mk u1
      clear u1 u2
      go_wp2_with fail
      refine (flay' (w.heap.size + 1) 12 8 36 36 12 20 K _ wr HU1.out rfl rfl HL.out (by decide) (by decide) HK.out).mono ?_
      rintro e w4 ⟨rfl, hb4, hf4⟩
      have H4 := Aside0.mk (And.intro hb4 hf4)
      clear hb4 hf4
      go_wp2_with fail
      go_roundw
      case rel => exact ⟨3, by decide, rfl, ⟨(HST.out _ H4.out.2).1, H4.out.1, (HST.out _ H4.out.2).2⟩⟩
      case measure => decide
    | 3, _ =>
      have hidx : ∀ W, (Instr.index 122 (.agg #[.int .u64 s, .int .u64 R, .int .u64 K, .int .u64 D]) (.int .i64 3)).run Try.prog W = .ok (.int .u64 D) W := fun _ => by kernel_rfl
      have c0 := blk_cell u2 6; have c1 := blk_cell u2 7
      simp only [List.getElem?_toArray, List.getElem?_cons_zero, List.getElem?_cons_succ] at c0 c1
      have HU1 := Aside0.mk u1
      clear u1 u2
      go_wp2_with fail
      refine (flay' (w.heap.size + 1) 20 4 36 36 20 24 D _ wr HU1.out rfl rfl HL.out (by decide) (by decide) HD.out).mono ?_
      rintro e w4 ⟨rfl, hb4, hf4⟩
      have H4 := Aside0.mk (And.intro hb4 hf4)
      clear hb4 hf4
      go_wp2_with fail
      go_roundw
      case rel => exact ⟨4, by decide, rfl, ⟨(HST.out _ H4.out.2).1, H4.out.1, (HST.out _ H4.out.2).2⟩⟩
      case measure => decide
    | 4, _ =>
      have HU1 := Aside0.mk u1
      have c8 := blk_cell u2 8; have c9 := blk_cell u2 9
      simp only [List.getElem?_toArray, List.getElem?_cons_zero, List.getElem?_cons_succ] at c8 c9
      have HU2 := Aside0.mk u2
      clear u1 u2
      have hrd := blk_reads HU1.out .u8 (body24 s R K D) (by simp [stageL]) (by rw [show (body24 s R K D).length = 36 from HL.out]; decide) 0 24 (by rw [show (body24 s R K D).length = 36 from HL.out]; decide)
      rw [List.drop_zero] at hrd
      have HRD := Aside0.mk hrd
      have hmk : Kd.C (Kd.slice 5 (Kd.int .u8)) (wr.alloc (Obj.cells #[Value.slice (some ⟨w.heap.size + 1, 0, none⟩) 24 36] 33)).drew (some ⟨wr.heap.size, 0, none⟩) 1 [(body24 s R K D).take 24] := lit_row1 wr 33 _ 24 36 _ hrd (by decide)
      have HMK := Aside0.mk hmk
      clear hrd hmk
      have hcr : ∀ l : List Int, 0 ≤ crc l ∧ crc l < 4294967296 := fun l => by have := from_lt 4294967295 l (by decide); unfold crc; omega
      obtain ⟨q, hq⟩ : ∃ q, q = crc ((body24 s R K D).take 24) := ⟨_, rfl⟩
      have HQ := Aside0.mk hq
      have hq2 := hcr ((body24 s R K D).take 24)
      rw [← hq] at hq2
      have hqw : IntKind.u64.wrap q = q := by rw [IntKind.wrap_u64]; omega
      have HQ2 := Aside0.mk hq2
      have hby : Bytes (body24 s R K D) := layL_bytes _ _ _ _ (layL_bytes _ _ _ _ (layL_bytes _ _ _ _ (layL_bytes _ _ _ _ (zeros_bytes _))))
      have hby1 : ∀ l ∈ [(body24 s R K D).take 24], Bytes l := by
        intro l hl
        obtain rfl : l = _ := by simpa using hl
        exact fun x hx => hby x (List.mem_of_mem_take hx)
      have HBY := Aside0.mk hby1
      clear hby hby1 hcr hq2 hq
      have hU := World.new_ne wr ⟨fb, 8, none⟩ c8; have hU9 := World.new_ne wr ⟨fb, 9, none⟩ c9
      go_wp2_with fail
      go_region_held3 (fun w' => w'.cell? ⟨fb, 8, none⟩ = some (.int .i64 24) ∧ w'.cell? ⟨fb, 9, none⟩ = some (.int .i64 28)) (go_keep)
        (first | (go_at_call 72; refine (mark_calls _ 1 1 _ _ HMK.out (by decide) rfl HBY.out).mono ?_; rintro e w2 ⟨rfl, ⟨nd, rfl⟩⟩; simp only [List.flatten_cons, List.flatten_nil, List.append_nil, ← HQ.out]) | (go_at_call 71; refine (flay' (w.heap.size + 1) 24 4 36 36 24 28 q (body24 s R K D) _ (blk_drewN (blk_alloc HU1.out _) _) rfl rfl HL.out (by decide) (by decide) ⟨HQ2.out.1, by have := HQ2.out.2; omega⟩).mono ?_; rintro e w2 ⟨rfl, hg2, hb2⟩; have hz := hb2.blk (blk_drewN (blk_alloc HU2.out _) _) (fun e => HFL.out.2 e.symm); have e8 : w2.cell? ⟨fb, 8, none⟩ = some (.int .i64 24) := (blk_cell hz 8).trans rfl; have e9 : w2.cell? ⟨fb, 9, none⟩ = some (.int .i64 28) := (blk_cell hz 9).trans rfl))
      have hF2 : Frm (fun k => k = w.heap.size + 1) wr w2 := Frm.then_ (by first | exact ((Frm.refl _ wr).alloc _).drewN _ | exact ((Frm.refl _ wr).alloc _).drew) hb2 fun k hk => .inl hk
      obtain ⟨t0, t2, t3⟩ := HST.out _ hF2
      have d0 := blk_cell t0 0; have d10 := blk_cell t2 10; have d11 := blk_cell t2 11
      simp only [List.getElem?_toArray, List.getElem?_cons_zero, List.getElem?_cons_succ] at d0 d10 d11
      have HG2 := Aside0.mk hg2; have HT := Aside0.mk (And.intro t0 t3)
      have HL2 : Aside0 ((layL (body24 s R K D) 24 4 q).length = 36) := ⟨by rw [layL_length _ _ _ _ (by rw [show (body24 s R K D).length = 36 from HL.out]; decide)]; exact HL.out⟩
      clear hz hb2 hg2 e8 e9 t0 t2 t3 hF2
      go_wp2_with fail
      refine (flay' (w.heap.size + 1) 28 8 36 36 28 36 s _ w2 HG2.out rfl rfl HL2.out (by decide) (by decide) HS.out).mono ?_
      rintro e w5 ⟨rfl, hb5, hf5⟩
      have H5 := Aside0.mk (And.intro hb5 hf5)
      clear hb5 hf5
      go_wp2_with fail
      go_ret
      refine ⟨w.heap.size + 1, rfl, by omega, ?_, HT.out.2.trans (H5.out.2.below (fun k hk => by omega) HT.out.2.size)⟩
      have := H5.out.1
      rw [HQ.out] at this
      rw [← HE.out.1, ← HE.out.2.1, ← HE.out.2.2]
      exact this
    | n + 5, h => omega
end Go.Proofs.YteimienhaodfcaaK
