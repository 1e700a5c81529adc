/- DiskTorn, walked. -/
import Derived.Test.YteimienhaodfcaaKLive2
import Derived.Test.YteimienhaodfcaaKLX
import Derived.Test.YteimienhaodfcaaKMetaP
import Derived.Test.YteimienhaodfcaaKMetaT
import Derived.Test.YteimienhaodfcaaKFlow
import Derived.Test.YteimienhaodfcaaKClone
import Derived.Deep.QuietTactic
import Derived.BigQuiet
import Derived.Deep.RegionHeld3
import Derived.Lib.AppendZerosOnto
import Derived.Lib.SliceRun
import Derived.Lib.Walk
namespace Go.Proofs.YteimienhaodfcaaK
open Go.RowKit Go.Proofs.YteimienhaodfcaaW.PrintWords Go.Proofs.YteimienhaodfcaaW.PrintLast Go.Proofs.YteimienhaodfcaaW.PrintMore Go.Crc
open Go.ChangeMaps (setBlock)
attribute [local go_sem] max2_int min2_int max_two min_two
set_option linter.unusedVariables false
set_option linter.unusedSimpArgs false
variable {w w' : World} {X X' S : Nat → Prop} {d sb mb clock : Nat} {es : Array MapEntry} {safe : List Int} {D : Dk}
namespace L2T
/-- A sector's bytes of what was given. -/
def pad (l : List Int) : List Int := l ++ zeros (64 - l.length)
structure StT (D : Dk) : Prop where
  sec : D.sectors = 4
  siz : D.size = 64
  dead : D.dead = false
  left : D.left = -1
theorem StT.start : StT (Dk.made 4 64) := ⟨rfl, rfl, rfl, rfl⟩
theorem StT.may {D : Dk} (h : StT D) : ¬ (D.dead = true ∨ D.left = 0) := by rw [h.dead, h.left]; simp
theorem StT.begE {D : Dk} (h : StT D) : D.beginE = 0 := by unfold Dk.beginE; rw [if_neg h.may]
theorem StT.beg {D : Dk} (h : StT D) : StT D.begun ∧ D.begun.sec = D.sec ∧ D.begun.fresh = D.fresh := by
  unfold Dk.begun; rw [if_neg h.may]
  refine ⟨⟨h.sec, h.siz, h.dead, ?_⟩, rfl, rfl⟩
  show (if 0 < D.left then D.left - 1 else D.left) = _
  rw [h.left]; rfl
theorem StT.write {D : Dk} (h : StT D) (l : List Int) (hl : l.length ≤ 64) : D.writeE 2 l = 0 ∧ StT (D.written 2 l) ∧ (D.written 2 l).fresh 2 = some (pad l) ∧ (D.written 2 l).sec = D.sec := by
  have hh : D.has 2 = true := by unfold Dk.has; rw [h.sec]; decide
  have hs : ¬ D.size < l.length := by rw [h.siz]; omega
  unfold Dk.writeE Dk.written
  rw [hh, if_neg (by decide), if_neg hs, if_neg (by decide), if_neg hs, if_pos h.begE]
  refine ⟨h.begE, ⟨h.beg.1.sec, h.beg.1.siz, h.beg.1.dead, h.beg.1.left⟩, ?_, h.beg.2.1⟩
  show (if (2 : Nat) = Int.toNat 2 then some (l ++ zeros (D.size - l.length)) else D.begun.fresh 2) = _
  rw [if_pos (by decide)]; unfold pad; rw [h.siz]
theorem StT.sync {D : Dk} (h : StT D) (l : List Int) (hf : D.fresh 2 = some l) (hl : l.length = 64) (hs : (D.sec 2).length = 64) : D.beginE = 0 ∧ StT D.synced ∧ D.synced.sec 2 = l := by
  unfold Dk.synced
  rw [if_pos h.begE]
  refine ⟨h.begE, ⟨h.beg.1.sec, h.beg.1.siz, h.beg.1.dead, h.beg.1.left⟩, ?_⟩
  have e : (D.begun.settle fun _ => D.size).sec 2 = l.take D.size ++ (D.begun.sec 2).drop D.size := by
    show (match D.begun.fresh 2 with | some l => l.take D.size ++ (D.begun.sec 2).drop D.size | none => D.begun.sec 2) = _
    rw [h.beg.2.2, hf]
  rw [e, h.beg.2.1, h.siz, List.take_of_length_le (by omega), List.drop_eq_nil_of_le (by omega), List.append_nil]
theorem StT.crash {D : Dk} (h : StT D) (l : List Int) (hf : D.fresh 2 = some l) (at_ second : Int) (kept : Bool) :
    (D.crashed (if kept = true then [1, 2] else [1]) [(2, at_), (2, second)]).readE 2 = 0 ∧
    (D.crashed (if kept = true then [1, 2] else [1]) [(2, at_), (2, second)]).readB 2 = l.take (if kept = true then 64 else min at_.toNat 64) ++ (D.sec 2).drop (if kept = true then 64 else min at_.toNat 64) := by
  obtain ⟨E, hE⟩ : ∃ E, E = D.crashed (if kept = true then [1, 2] else [1]) [(2, at_), (2, second)] := ⟨_, rfl⟩
  have hr : E.readE 2 = 0 := by
    unfold Dk.readE
    have hh : E.has 2 = true := by rw [hE]; unfold Dk.has; show (decide (0 ≤ (2 : Int)) && decide ((2 : Int) < D.sectors)) = true; rw [h.sec]; decide
    have hd : E.dead = false := by rw [hE]; rfl
    rw [hh, hd]; rfl
  have hk : keptOf (if kept = true then [1, 2] else [1]) [(2, at_), (2, second)] 64 2 = if kept = true then 64 else min at_.toNat 64 := by
    cases kept <;> simp [keptOf]
  have hn : E.now 2 = l.take (if kept = true then 64 else min at_.toNat 64) ++ (D.sec 2).drop (if kept = true then 64 else min at_.toNat 64) := by
    rw [hE, ← hk]
    show (match D.fresh 2 with | some l => l.take (keptOf _ _ D.size 2) ++ (D.sec 2).drop (keptOf _ _ D.size 2) | none => D.sec 2) = _
    rw [hf, h.siz]
  rw [← hE]
  refine ⟨hr, ?_⟩
  unfold Dk.readB
  rw [if_pos hr]; exact hn
end L2T
theorem strNums_size (a : List Int) : (strOfNums a).size = a.length := by
  simp [strOfNums, ByteArray.size]
theorem strNums_append (a b : List Int) : strOfNums (a ++ b) = strOfNums a ++ strOfNums b := by
  apply ByteArray.ext
  simp [strOfNums]
theorem ints_lit {w : World} {g t : Nat} {fr : Nat × Nat} (l : List Int) (hl : l.length ≤ 9223372036854775807) (hb : w.heap[g]? = some (.cells (l.map (Value.int .i64)).toArray t fr)) : Kd.C (Kd.int .i64) w (some ⟨g, 0, none⟩) l.length l := by
  refine ⟨rfl, hl, fun _ => ⟨_, rfl, fun j p hj => ⟨[.int .i64 p], rfl, rfl, fun i u hu => ?_⟩⟩⟩
  obtain ⟨rfl, rfl⟩ : i = 0 ∧ u = .int .i64 p := by
    rcases i with _ | i
    · exact ⟨rfl, by simpa using hu.symm⟩
    · simp at hu
  rw [add_plain, cell_of_row w g _ _ t fr hb]
  show (l.map (Value.int .i64)).toArray[j * 1 + 0]? = _
  simp [hj]
/-- A row of one row that came in. -/
theorem rows1_in {W : World} {A : Option Addr} {c b2 : Nat} {l : List Int} (hC : Kd.C (Kd.int .u8) W A l.length l) (hc : l.length ≤ c) (h2 : W.heap[b2]? = some (.cells #[.slice A l.length c] 33 (0, 0))) : Kd.C (Kd.slice 5 (Kd.int .u8)) W (some ⟨b2, 0, none⟩) 1 [l] := by
  refine ⟨rfl, by decide, fun _ => ⟨_, rfl, fun j p hj => ?_⟩⟩
  match j, hj with
  | 0, hj =>
    obtain rfl : l = p := by simpa using hj
    refine ⟨[.slice A l.length c], rfl, ⟨_, _, rfl, hc, hC⟩, fun i u hu => ?_⟩
    obtain ⟨rfl, rfl⟩ : i = 0 ∧ u = .slice A l.length c := by
      rcases i with _ | i
      · exact ⟨rfl, by simpa using hu.symm⟩
      · simp at hu
    rw [add_plain, blk_cell h2]; rfl
  | j + 1, hj => simp at hj
set_option maxHeartbeats 4000000 in
set_option maxRecDepth 100000 in
theorem torn2_good (A Bk : Option Addr) (ca cb : Nat) (l k : List Int) (at_ second : Int) (kept : Bool) (w : World) (hra : Kd.C (Kd.int .u8) w A l.length l) (hca : l.length ≤ ca) (hrb : Kd.C (Kd.int .u8) w Bk k.length k) (hcb : k.length ≤ cb) (hl : l.length ≤ 64) (hk : k.length ≤ 64) (hbl : Bytes l) (hbk : Bytes k)
    (ha : -9223372036854775808 ≤ at_ ∧ at_ ≤ 9223372036854775807) (hs : -9223372036854775808 ≤ second ∧ second ≤ 9223372036854775807) :
    Calls Try.prog 4 #[.slice A l.length ca, .slice Bk k.length cb, .int .i64 at_, .int .i64 second, .bool kept] w fun e w' => e = .returned (.bool true) ∧ Below w.heap.size w w' := by
  have d1 : decide (64 < (l.length : Int)) = false := decide_eq_false (by omega)
  have d2 : decide (64 < (k.length : Int)) = false := decide_eq_false (by omega)
  have HRA := Aside0.mk (And.intro hra hca); have HRB := Aside0.mk (And.intro hrb hcb)
  have HBY := Aside0.mk (And.intro hbl hbk); have HAT := Aside0.mk (And.intro ha hs)
  have HLE := Aside0.mk (And.intro hl hk)
  clear hra hrb hbl hbk ha hs hca hcb
  go_enter Try.func4, Try.ntmps4
  go_wp2_with fail
  refine (LS.new w 4 64 (by decide) (by decide) (by decide) (by decide)).mono ?_
  rintro e w1 ⟨d, rfl, h1⟩
  have H1 := Aside0.mk (show LS w w1 d (Dk.made 4 64) from h1)
  clear h1
  go_wp2_with fail
  refine (num2_calls 0 w1).mono ?_
  rintro e w2 ⟨rfl, hd2⟩
  have H2 := Aside0.mk (H1.out.step hd2.below)
  clear hd2
  obtain ⟨b2, hb2⟩ : ∃ b, b = w2.heap.size := ⟨_, rfl⟩
  obtain ⟨W3, hW3⟩ : ∃ W, W = w2.alloc (.cells #[.slice A l.length ca] 33) := ⟨_, rfl⟩
  have hbl3 : Below w2.heap.size w2 W3 := by rw [hW3]; exact below_alloc (Below.refl _ _) _
  have H3 := Aside0.mk (H2.out.step hbl3)
  have HR3 := Aside0.mk (rows1_in (Kd.C_below HRA.out.1 H3.out.bel) HRA.out.2 (by rw [hW3, hb2]; exact blk_new w2 _ : W3.heap[b2]? = _))
  clear hbl3
  go_wp2_with fail
  rw [← hW3, ← hb2]
  clear hW3 hb2
  refine (H3.out.write 2 (some ⟨b2, 0, none⟩) 1 [l] HR3.out (by simp; omega) (by simpa using HBY.out.1)).mono ?_
  rintro e w4 ⟨rfl, h4, _⟩
  have hfl : ([l] : List (List Int)).flatten = l := by simp
  rw [hfl] at h4 ⊢
  have hw1 := L2T.StT.start.write l HLE.out.1
  rw [hw1.1]
  have H4 := Aside0.mk h4
  have HW1 := Aside0.mk hw1.2
  clear h4 hw1 hfl
  go_wp2_with fail
  refine (num2_calls 0 w4).mono ?_
  rintro e w5 ⟨rfl, hd5⟩
  have H5 := Aside0.mk (H4.out.step hd5.below)
  clear hd5
  go_wp2_with fail
  refine (H5.out.sync).mono ?_
  rintro e w6 ⟨rfl, h6, _⟩
  have hpl : ∀ l : List Int, l.length ≤ 64 → (L2T.pad l).length = 64 := fun l h => by unfold L2T.pad; rw [List.length_append, zeros, List.length_replicate]; omega
  have hs6 := HW1.out.1.sync _ HW1.out.2.1 (hpl l HLE.out.1) (by rw [HW1.out.2.2]; rfl)
  rw [hs6.1]
  have H6 := Aside0.mk h6
  have HW2 := Aside0.mk hs6.2
  have HPL := Aside0.mk hpl
  clear h6 hs6 hpl
  go_wp2_with fail
  refine (num2_calls 0 w6).mono ?_
  rintro e w7 ⟨rfl, hd7⟩
  have H7 := Aside0.mk (H6.out.step hd7.below)
  clear hd7
  obtain ⟨b3, hb3⟩ : ∃ b, b = w7.heap.size := ⟨_, rfl⟩
  obtain ⟨W8, hW8⟩ : ∃ W, W = w7.alloc (.cells #[.slice Bk k.length cb] 33) := ⟨_, rfl⟩
  have hbl8 : Below w7.heap.size w7 W8 := by rw [hW8]; exact below_alloc (Below.refl _ _) _
  have H8 := Aside0.mk (H7.out.step hbl8)
  have HR8 := Aside0.mk (rows1_in (Kd.C_below HRB.out.1 H8.out.bel) HRB.out.2 (by rw [hW8, hb3]; exact blk_new w7 _ : W8.heap[b3]? = _))
  clear hbl8
  go_wp2_with fail
  rw [← hW8, ← hb3]
  clear hW8 hb3
  refine (H8.out.write 2 (some ⟨b3, 0, none⟩) 1 [k] HR8.out (by simp; omega) (by simpa using HBY.out.2)).mono ?_
  rintro e w9 ⟨rfl, h9, _⟩
  have hfl : ([k] : List (List Int)).flatten = k := by simp
  rw [hfl] at h9 ⊢
  have hw3 := HW2.out.1.write k HLE.out.2
  rw [hw3.1]
  obtain ⟨D9, hD9⟩ : ∃ D, D = (((Dk.made 4 64).written 2 l).synced).written 2 k := ⟨_, rfl⟩
  have HD9 : Aside0 (L2T.StT D9 ∧ D9.fresh 2 = some (L2T.pad k) ∧ D9.sec 2 = L2T.pad l) := ⟨by rw [hD9]; exact ⟨hw3.2.1, hw3.2.2.1, by rw [hw3.2.2.2]; exact HW2.out.2⟩⟩
  rw [← hD9] at h9
  have H9 := Aside0.mk h9
  clear h9 hw3 hfl hD9
  go_wp2_with fail
  refine (num2_calls 0 w9).mono ?_
  rintro e w10 ⟨rfl, hd10⟩
  have H10 := Aside0.mk (H9.out.step hd10.below)
  clear hd10
  cases kept
  · obtain ⟨W11, hW11⟩ : ∃ W, W = (w10.alloc (.cells #[.int .i64 1] 3)).alloc (.cells #[.int .i64 2, .int .i64 at_, .int .i64 2, .int .i64 second] 44) := ⟨_, rfl⟩
    have hb11 : Below w10.heap.size w10 W11 := by rw [hW11]; exact below_alloc (below_alloc (Below.refl _ _) _) _
    obtain ⟨g1, hg1⟩ : ∃ g, g = w10.heap.size := ⟨_, rfl⟩
    obtain ⟨g2, hg2⟩ : ∃ g, g = w10.heap.size + 1 := ⟨_, rfl⟩
    have hk11 : W11.heap[g1]? = some (.cells (([1] : List Int).map (Value.int .i64)).toArray 3 (0, 0)) := by
      rw [hW11, hg1]; exact blk_alloc (blk_new w10 _) _
    have ht11 : W11.heap[g2]? = some (.cells (flat2 [(2, at_), (2, second)]).toArray 44 (0, 0)) := by
      rw [hW11, hg2]
      have := blk_new (w10.alloc (.cells #[.int .i64 1] 3)) (.cells #[.int .i64 2, .int .i64 at_, .int .i64 2, .int .i64 second] 44)
      rw [World.size_alloc] at this
      exact this
    have hs11 : ¬ g1 < w10.heap.size ∧ ¬ g2 < w10.heap.size := by omega
    go_wp2_with fail
    rw [← hW11, ← hg2]
    rw [← hg1]
    clear hW11 hg1 hg2
    refine (LS.crash H10.out hb11 [1] [(2, at_), (2, second)] (some ⟨g1, 0, none⟩) (some ⟨g2, 0, none⟩) 1 2 (fun W' hk => ints_lit [1] (by decide) (blk_kept hk11 hk (fun h => hs11.1 h.2))) (fun W' hk => torn_lit _ (by show 2 ≤ 9223372036854775807; decide) (blk_kept ht11 hk (fun h => hs11.2 h.2))) (by intro t ht; have ht' : t = (2, at_) ∨ t = (2, second) := (by simpa using ht); rcases ht' with rfl | rfl; exact HAT.out.1; exact HAT.out.2)).mono ?_
    rintro e w12 ⟨rfl, h12, _⟩
    obtain ⟨K, hK⟩ : ∃ K : Nat, K = min at_.toNat 64 := ⟨_, rfl⟩
    have HK := Aside0.mk hK
    have hK64 : K ≤ 64 := by omega
    have hcr : (D9.crashed [1] [(2, at_), (2, second)]).readE 2 = 0 ∧ (D9.crashed [1] [(2, at_), (2, second)]).readB 2 = (L2T.pad k).take K ++ (D9.sec 2).drop K := by
      rw [hK]; exact HD9.out.1.crash (L2T.pad k) HD9.out.2.1 at_ second false
    rw [HD9.out.2.2] at hcr
    have H12 := Aside0.mk h12
    have HCR := Aside0.mk hcr
    clear h12 hcr hK hb11 hk11 ht11 hs11
    go_wp2_with fail
    refine (H12.out.read 2).mono ?_
    rintro e w13 ⟨v, rfl, hR13, h13, _⟩
    rw [HCR.out.1]
    rw [HCR.out.2] at hR13
    obtain ⟨B, hB⟩ : ∃ B, B = (L2T.pad k).take K ++ (L2T.pad l).drop K := ⟨_, rfl⟩
    rw [← hB] at hR13
    obtain ⟨Ab, cb2, rfl, hcb2, hC13⟩ := Kd.R_reads hR13
    have HB13 := Aside0.mk h13.bel
    have HC13 := Aside0.mk hC13
    have HCB := Aside0.mk hcb2
    have HBQ := Aside0.mk hB
    clear hR13 h13 hC13 hcb2 hB
    have HO14 : Aside0 (Kd.R (Kd.int .u8) 5 (w13.alloc (.cells #[] 5)) w13.heap.size (fun _ => True) (.slice (some ⟨w13.heap.size, 0, none⟩) 0 0) []) := ⟨empty_R (blk_new w13 _) (Nat.le_refl _)⟩
    have HR14 := Aside0.mk (Kd.C_below (Kd.C_below HRA.out.1 HB13.out) (below_alloc (Below.refl w13.heap.size w13) (.cells #[] 5)))
    have HQ14 := Aside0.mk (below_alloc (Below.refl w13.heap.size w13) (.cells #[] 5))
    have e64l : IntKind.i64.wrap (64 - (l.length : Int)) = 64 - (l.length : Int) := IntWalk.i64_in _ (by have := HLE.out.1; omega)
    have e64k : IntKind.i64.wrap (64 - (k.length : Int)) = 64 - (k.length : Int) := IntWalk.i64_in _ (by have := HLE.out.2; omega)
    go_upto_region 13 with (first
      | ((with_reducible refine gate_builtin (b := .append) (xs := #[.tmp 77, .tmp 78]) rfl ?_); at_builtin; refine Kd.R_append_rows (Kd.int .u8) (Rr := fun (x : Int) (c : List Value) => c = [.int .u8 x]) (w0 := w13) w13.heap.size rfl (.tmp 77) (.tmp 78) 33 5 (.int .u8 0) 1 rfl Try.underlying33 infoByte rfl (by decide) (by omega) (.slice (some ⟨w13.heap.size, 0, none⟩) 0 0) [] l A l.length ca (fun _ => True) (fun _ => False) rfl rfl HO14.out HR14.out (fun _ _ h => h) (fun _ hk => hk.elim) (fun _ _ => trivial) HQ14.out HQ14.out.size (by have := HLE.out.1; show (0 + l.length) * 1 ≤ 140737488355328; omega) ?_; intro v14 w14 hr hb hg hat; have HO15 := Aside0.mk hr; have HQ15 := Aside0.mk hb; clear hr hb hg hat)
      | ((with_reducible refine gate_builtin (b := .append) (xs := #[.tmp 79, .tmp 82]) rfl ?_); at_builtin; refine Kd.R_append_zeros (Kd.int .u8) (w0 := w13) w13.heap.size rfl (.tmp 79) (.tmp 82) 33 3 5 (.int .u8 0) 1 rfl Try.underlying33 Try.underlying3 infoByte rfl (by decide) (by decide) v14 ([] ++ l) 0 (64 - (l.length : Int)) (fun _ => True) rfl rfl rfl (fun _ _ => trivial) HO15.out (by have := HLE.out.1; omega) HQ15.out HQ15.out.size (by have := HLE.out.1; rw [List.nil_append]; omega) ?_; intro v15 w15 hr hb hg hat; have HO16 := Aside0.mk (show Kd.R (Kd.int .u8) 5 w15 w13.heap.size (fun _ => True) v15 (L2T.pad l) by have e : ([] ++ l) ++ List.replicate (64 - (l.length : Int)).toNat 0 = L2T.pad l := (by unfold L2T.pad zeros; rw [List.nil_append, show (64 - (l.length : Int)).toNat = 64 - l.length by omega]); rw [← e]; exact hr); have HQ16 := Aside0.mk hb; clear hr hb hg hat)
      | ((with_reducible refine gate_builtin (b := .append) (xs := #[.tmp 84, .tmp 85]) rfl ?_); at_builtin; refine Kd.R_append_rows (Kd.int .u8) (Rr := fun (x : Int) (c : List Value) => c = [.int .u8 x]) (w0 := w15) w15.heap.size rfl (.tmp 84) (.tmp 85) 33 5 (.int .u8 0) 1 rfl Try.underlying33 infoByte rfl (by decide) (by omega) (.slice (some ⟨w15.heap.size, 0, none⟩) 0 0) [] k Bk k.length cb (fun _ => True) (fun _ => False) rfl rfl (empty_R (blk_new w15 _) (Nat.le_refl _)) (Kd.C_below (Kd.C_below HRB.out.1 (below_step HB13.out HQ16.out)) (below_alloc (Below.refl w15.heap.size w15) (.cells #[] 5))) (fun _ _ h => h) (fun _ hk => hk.elim) (fun _ _ => trivial) (below_alloc (Below.refl w15.heap.size w15) (.cells #[] 5)) (below_alloc (Below.refl w15.heap.size w15) (.cells #[] 5)).size (by have := HLE.out.2; show (0 + k.length) * 1 ≤ 140737488355328; omega) ?_; intro v16 w16 hr hb hg hat; have HO17 := Aside0.mk hr; have HQ17 := Aside0.mk hb; clear hr hb hg hat)
      | ((with_reducible refine gate_builtin (b := .append) (xs := #[.tmp 86, .tmp 89]) rfl ?_); at_builtin; refine Kd.R_append_zeros (Kd.int .u8) (w0 := w15) w15.heap.size rfl (.tmp 86) (.tmp 89) 33 3 5 (.int .u8 0) 1 rfl Try.underlying33 Try.underlying3 infoByte rfl (by decide) (by decide) v16 ([] ++ k) 0 (64 - (k.length : Int)) (fun _ => True) rfl rfl rfl (fun _ _ => trivial) HO17.out (by have := HLE.out.2; omega) HQ17.out HQ17.out.size (by have := HLE.out.2; rw [List.nil_append]; omega) ?_; intro v17 w17 hr hb hg hat; have HO18 := Aside0.mk (show Kd.R (Kd.int .u8) 5 w17 w15.heap.size (fun _ => True) v17 (L2T.pad k) by have e : ([] ++ k) ++ List.replicate (64 - (k.length : Int)).toNat 0 = L2T.pad k := (by unfold L2T.pad zeros; rw [List.nil_append, show (64 - (k.length : Int)).toNat = 64 - k.length by omega]); rw [← e]; exact hr); have HQ18 := Aside0.mk hb; clear hr hb hg hat)
      | fail)
    clear e64l e64k HO14 HR14 HQ14 HO15 HQ15 HO17 HQ17
    go_cut [18] from 91 (fun s18 wx => s18 = .int .i64 (K : Int) ∧ wx = w17)
    case first =>
      go_wp2_with fail
      all_goals go_meet
      all_goals (have hK := HK.out; exact ⟨by rw [Value.int.injEq]; exact ⟨rfl, by omega⟩, rfl⟩)
    case rest =>
    obtain ⟨rfl, hwx⟩ := hcut
    have hwx := hwx.symm
    subst hwx
    have hpl := HPL.out l HLE.out.1
    have hpk := HPL.out k HLE.out.2
    obtain ⟨A15, c15, hv15, hc15, hC15⟩ := Kd.R_reads HO16.out
    obtain ⟨A17, c17, hv17, hc17, hC17⟩ := Kd.R_reads HO18.out
    have hBl : B.length = 64 := by rw [HBQ.out, List.length_append, List.length_take, List.length_drop, hpl, hpk]; omega
    have HLB := Aside0.mk (And.intro hBl (And.intro hpl hpk))
    rw [hpl] at hv15 hc15 hC15
    rw [hpk] at hv17 hc17 hC17
    subst hv15; subst hv17
    have hC13 := HC13.out
    have hcb2 := HCB.out
    rw [hBl] at hC13 hcb2 ⊢
    obtain ⟨iU, hiU, hiS⟩ := Option.map_eq_some_iff.1 sizeByte
    obtain ⟨A1, hcut, hA1⟩ := print_cut (P := Try.prog) 33 5 .i64 Try.underlying33 hiU hiS A15 64 c15 K hK64
    have hKc : (K : Int) ≤ (c17 : Int) := by omega
    have hlt : ((L2T.pad k).take K).length = K := by rw [List.length_take, hpk]; omega
    have hld : ((L2T.pad l).drop K).length = 64 - K := by rw [List.length_drop, hpl]
    have hbp : ∀ x : List Int, Bytes x → Bytes (L2T.pad x) := fun x hx => Bytes.append hx (zeros_bytes _)
    have hcmp : ((strOfNums B).toList == (strOfNums ((L2T.pad k).take K) ++ strOfNums ((L2T.pad l).drop K)).toList) = true := by
      rw [HBQ.out, strNums_append]; simp
    have hsz : ¬ (9223372036854775807 < (strOfNums ((L2T.pad k).take K)).size + (strOfNums ((L2T.pad l).drop K)).size) := by
      rw [strNums_size, strNums_size, hlt, hld]; omega
    obtain ⟨Inv, hInv⟩ : ∃ I : World → Prop, I = fun W => Below w17.heap.size w17 W := ⟨_, rfl⟩
    have HI := Aside0.mk (show Inv w17.drew by rw [hInv]; exact below_drew (Below.refl _ _))
    have IB : ∀ W W', Inv W → Below W.heap.size W W' → Inv W' := by rw [hInv]; exact fun W W' h hb => below_step h hb
    have IW := Aside0.mk (show ∀ W, Inv W → Below w.heap.size w W by rw [hInv]; exact fun W h => below_step (below_step (below_step HB13.out HQ16.out) HQ18.out) h)
    have SF0 : ∀ W, Inv W → (convert 33 9 (.slice Ab 64 cb2)).run Try.prog W = .ok (.string (strOfNums B)) W ∧ (convert 33 9 (.slice A17 K c17)).run Try.prog W = .ok (.string (strOfNums ((L2T.pad k).take K))) W ∧ (convert 33 9 (.slice A1 (64 - K) (c15 - K))).run Try.prog W = .ok (.string (strOfNums ((L2T.pad l).drop K))) W := by
      rw [hInv]
      intro W hW
      refine ⟨Kd.C_string (c := cb2) Try.underlying33 Try.underlying5 Try.underlying9 (Kd.C_below (Kd.C_below (Kd.C_below hC13 HQ16.out) HQ18.out) hW), ?_, ?_⟩
      · have h3 := Kd.C_take (m := K) (by rw [hpk]; exact Kd.C_below hC17 hW) (by omega : K ≤ (L2T.pad k).length)
        rw [hlt] at h3
        exact Kd.C_string (c := c17) Try.underlying33 Try.underlying5 Try.underlying9 h3
      · have h3 : Kd.C (Kd.int .u8) W A1 (64 - K) ((L2T.pad l).drop K) := Kd.C_of_reads (enc := Value.int .u8) (d := 0) (hA1 W .u8 (L2T.pad l) hc15 (C_int (Kd.C_below (Kd.C_below hC15 HQ18.out) hW)))
        exact Kd.C_string (c := c15 - K) Try.underlying33 Try.underlying5 Try.underlying9 h3
    have SF := Aside0.mk SF0
    have N0 := Aside0.mk (show ∀ W, Inv W → Calls Try.prog 17 #[.int .i64 0] W fun e w' => e = .returned (.int .i64 0) ∧ Inv w' from fun W h => (num2_calls 0 W).mono fun e w' ⟨he, hd⟩ => ⟨he, IB _ _ h hd.below⟩)
    have L0 := Aside0.mk (show ∀ W, Inv W → Calls Try.prog 15 #[] W fun e w' => e = .returned (.bool true) ∧ Inv w' from fun W h => (live2_calls W).mono fun e w' ⟨he, hd⟩ => ⟨he, IB _ _ h hd⟩)
    clear SF0 IB hInv hA1 hC13 hC15 hC17 hc15 hc17 hcb2 HQ16 HQ18 HC13 HO16 HO18 hlt hld hbp hpl hpk hBl HBQ
    go_upto_region 16 with (fail)
    refine wp_region_plan (by kernel_rfl) (by kernel_rfl) Inv HI.out ?_
    refine Plan.take 0 (some 95) (Op.move (Operand.tmp 15)) 28 (none) ?_ rfl (by kernel_rfl) (by kernel_rfl) (Tells.val (by rfl) ?_) ?_
    rotate_left
    · (intro W hW; go_simp; first | done | with_reducible rfl)
    try simp only [Act.put, List.setIfInBounds_toArray, List.set_cons_zero, List.set_cons_succ]
    refine Plan.take 1 (some 96) (Op.call { callee := Callee.value (Operand.func 17), args := #[Operand.tmp 95], argTypes := #[28] }) 3 (none) ?_ rfl (by kernel_rfl) (by kernel_rfl) (Tells.call 17 ?_ (by rfl) ?_ ?_) ?_
    rotate_left 2
    · (intro W; go_simp; first | done | with_reducible rfl)
    · exact N0.out
    try simp only [Act.put, List.setIfInBounds_toArray, List.set_cons_zero, List.set_cons_succ]
    refine Plan.take 2 (some 97) (Op.binOp BinOp.eql 3 (Operand.tmp 96) (Operand.const (Value.int IntKind.i64 0)) 3) 4 (none) ?_ rfl (by kernel_rfl) (by kernel_rfl) (Tells.val (by rfl) ?_) ?_
    rotate_left
    · (intro W hW; go_simp; first | done | with_reducible rfl)
    try simp only [Act.put, List.setIfInBounds_toArray, List.set_cons_zero, List.set_cons_succ]
    refine Plan.take 3 (some 98) (Op.move (Operand.tmp 97)) 4 (none) ?_ rfl (by kernel_rfl) (by kernel_rfl) (Tells.val (by rfl) ?_) ?_
    rotate_left
    · (intro W hW; go_simp; first | done | with_reducible rfl)
    try simp only [Act.put, List.setIfInBounds_toArray, List.set_cons_zero, List.set_cons_succ]
    refine Plan.take 4 (some 99) (Op.move (Operand.tmp 14)) 33 (some (3, true)) ?_ rfl (by kernel_rfl) (by kernel_rfl) (Tells.val (by rfl) ?_) ?_
    rotate_left
    · (intro W hW; go_simp; first | done | with_reducible rfl)
    try simp only [Act.put, List.setIfInBounds_toArray, List.set_cons_zero, List.set_cons_succ]
    refine Plan.take 5 (some 100) (Op.convert 33 9 (Operand.tmp 99)) 9 (some (3, true)) ?_ rfl (by kernel_rfl) (by kernel_rfl) (Tells.val (by rfl) ?_) ?_
    rotate_left
    · (intro W hW; have hF := SF.out W hW; go_simp; first | done | with_reducible rfl)
    try simp only [Act.put, List.setIfInBounds_toArray, List.set_cons_zero, List.set_cons_succ]
    refine Plan.take 6 (some 101) (Op.move (Operand.tmp 17)) 33 (some (3, true)) ?_ rfl (by kernel_rfl) (by kernel_rfl) (Tells.val (by rfl) ?_) ?_
    rotate_left
    · (intro W hW; go_simp; first | done | with_reducible rfl)
    try simp only [Act.put, List.setIfInBounds_toArray, List.set_cons_zero, List.set_cons_succ]
    refine Plan.take 7 (some 102) (Op.move (Operand.tmp 18)) 3 (some (3, true)) ?_ rfl (by kernel_rfl) (by kernel_rfl) (Tells.val (by rfl) ?_) ?_
    rotate_left
    · (intro W hW; go_simp; first | done | with_reducible rfl)
    try simp only [Act.put, List.setIfInBounds_toArray, List.set_cons_zero, List.set_cons_succ]
    refine Plan.take 8 (some 103) (Op.slice 33 (Operand.tmp 101) none (some (Operand.tmp 102)) none) 33 (some (3, true)) ?_ rfl (by kernel_rfl) (by kernel_rfl) (Tells.val (by rfl) ?_) ?_
    rotate_left
    · (intro W hW; have hF := SF.out W hW; go_simp; first | done | with_reducible rfl)
    try simp only [Act.put, List.setIfInBounds_toArray, List.set_cons_zero, List.set_cons_succ]
    refine Plan.take 9 (some 104) (Op.convert 33 9 (Operand.tmp 103)) 9 (some (3, true)) ?_ rfl (by kernel_rfl) (by kernel_rfl) (Tells.val (by rfl) ?_) ?_
    rotate_left
    · (intro W hW; have hF := SF.out W hW; go_simp; first | done | with_reducible rfl)
    try simp only [Act.put, List.setIfInBounds_toArray, List.set_cons_zero, List.set_cons_succ]
    refine Plan.take 10 (some 105) (Op.move (Operand.tmp 16)) 33 (some (3, true)) ?_ rfl (by kernel_rfl) (by kernel_rfl) (Tells.val (by rfl) ?_) ?_
    rotate_left
    · (intro W hW; go_simp; first | done | with_reducible rfl)
    try simp only [Act.put, List.setIfInBounds_toArray, List.set_cons_zero, List.set_cons_succ]
    refine Plan.take 11 (some 106) (Op.move (Operand.tmp 18)) 3 (some (3, true)) ?_ rfl (by kernel_rfl) (by kernel_rfl) (Tells.val (by rfl) ?_) ?_
    rotate_left
    · (intro W hW; go_simp; first | done | with_reducible rfl)
    try simp only [Act.put, List.setIfInBounds_toArray, List.set_cons_zero, List.set_cons_succ]
    refine Plan.take 12 (some 107) (Op.slice 33 (Operand.tmp 105) (some (Operand.tmp 106)) none none) 33 (some (3, true)) ?_ rfl (by kernel_rfl) (by kernel_rfl) (Tells.val (by rfl) ?_) ?_
    rotate_left
    · (intro W hW; have hF := SF.out W hW; go_simp; first | done | with_reducible rfl)
    try simp only [Act.put, List.setIfInBounds_toArray, List.set_cons_zero, List.set_cons_succ]
    refine Plan.take 13 (some 108) (Op.convert 33 9 (Operand.tmp 107)) 9 (some (3, true)) ?_ rfl (by kernel_rfl) (by kernel_rfl) (Tells.val (by rfl) ?_) ?_
    rotate_left
    · (intro W hW; have hF := SF.out W hW; go_simp; first | done | with_reducible rfl)
    try simp only [Act.put, List.setIfInBounds_toArray, List.set_cons_zero, List.set_cons_succ]
    refine Plan.take 14 (some 109) (Op.binOp BinOp.add 9 (Operand.tmp 104) (Operand.tmp 108) 9) 9 (some (3, true)) ?_ rfl (by kernel_rfl) (by kernel_rfl) (Tells.val (by rfl) ?_) ?_
    rotate_left
    · (intro W hW; go_simp; first | done | with_reducible rfl)
    try simp only [Act.put, List.setIfInBounds_toArray, List.set_cons_zero, List.set_cons_succ]
    refine Plan.take 15 (some 110) (Op.binOp BinOp.eql 9 (Operand.tmp 100) (Operand.tmp 109) 9) 4 (some (3, true)) ?_ rfl (by kernel_rfl) (by kernel_rfl) (Tells.val (by rfl) ?_) ?_
    rotate_left
    · (intro W hW; go_simp; first | done | with_reducible rfl)
    try simp only [Act.put, List.setIfInBounds_toArray, List.set_cons_zero, List.set_cons_succ]
    refine Plan.take 16 (some 111) (Op.pick (Operand.tmp 98) (Operand.tmp 110) (Operand.const (Value.bool false))) 4 (none) ?_ rfl (by kernel_rfl) (by kernel_rfl) (Tells.val (by rfl) ?_) ?_
    rotate_left
    · (intro W hW; go_simp; first | done | with_reducible rfl)
    try simp only [Act.put, List.setIfInBounds_toArray, List.set_cons_zero, List.set_cons_succ]
    refine Plan.take 17 (some 112) (Op.move (Operand.tmp 111)) 4 (none) ?_ rfl (by kernel_rfl) (by kernel_rfl) (Tells.val (by rfl) ?_) ?_
    rotate_left
    · (intro W hW; go_simp; first | done | with_reducible rfl)
    try simp only [Act.put, List.setIfInBounds_toArray, List.set_cons_zero, List.set_cons_succ]
    refine Plan.take 18 (some 113) (Op.call { callee := Callee.value (Operand.func 15), args := #[], argTypes := #[] }) 4 (some (17, true)) ?_ rfl (by kernel_rfl) (by kernel_rfl) (Tells.call 15 ?_ (by rfl) ?_ ?_) ?_
    rotate_left 2
    · (intro W; go_simp; first | done | with_reducible rfl)
    · exact L0.out
    try simp only [Act.put, List.setIfInBounds_toArray, List.set_cons_zero, List.set_cons_succ]
    refine Plan.take 19 (some 114) (Op.pick (Operand.tmp 112) (Operand.tmp 113) (Operand.const (Value.bool false))) 4 (none) ?_ rfl (by kernel_rfl) (by kernel_rfl) (Tells.val (by rfl) ?_) ?_
    rotate_left
    · (intro W hW; go_simp; first | done | with_reducible rfl)
    try simp only [Act.put, List.setIfInBounds_toArray, List.set_cons_zero, List.set_cons_succ]
    refine Plan.take 20 (some 10) (Op.assign (Operand.tmp 114)) 4 (none) ?_ rfl (by kernel_rfl) (by kernel_rfl) (Tells.val (by rfl) ?_) ?_
    rotate_left
    · (intro W hW; go_simp; first | done | with_reducible rfl)
    try simp only [Act.put, List.setIfInBounds_toArray, List.set_cons_zero, List.set_cons_succ]
    refine Plan.done _ (by kernel_rfl) ?_
    intro W hW
    go_wp2_with fail
    go_ret
    exact ⟨rfl, IW.out _ hW⟩
  · obtain ⟨W11, hW11⟩ : ∃ W, W = ((w10.alloc (.cells #[.int .i64 1] 3)).alloc (.cells #[.int .i64 1, .int .i64 2] 3)).alloc (.cells #[.int .i64 2, .int .i64 at_, .int .i64 2, .int .i64 second] 44) := ⟨_, rfl⟩
    have hb11 : Below w10.heap.size w10 W11 := by rw [hW11]; exact below_alloc (below_alloc (below_alloc (Below.refl _ _) _) _) _
    obtain ⟨g1, hg1⟩ : ∃ g, g = w10.heap.size + 1 := ⟨_, rfl⟩
    obtain ⟨g2, hg2⟩ : ∃ g, g = w10.heap.size + 1 + 1 := ⟨_, rfl⟩
    have hk11 : W11.heap[g1]? = some (.cells (([1, 2] : List Int).map (Value.int .i64)).toArray 3 (0, 0)) := by
      rw [hW11, hg1]
      have := blk_new (w10.alloc (.cells #[.int .i64 1] 3)) (.cells #[.int .i64 1, .int .i64 2] 3)
      rw [World.size_alloc] at this
      exact blk_alloc this _
    have ht11 : W11.heap[g2]? = some (.cells (flat2 [(2, at_), (2, second)]).toArray 44 (0, 0)) := by
      rw [hW11, hg2]
      have := blk_new ((w10.alloc (.cells #[.int .i64 1] 3)).alloc (.cells #[.int .i64 1, .int .i64 2] 3)) (.cells #[.int .i64 2, .int .i64 at_, .int .i64 2, .int .i64 second] 44)
      rw [World.size_alloc, World.size_alloc] at this
      exact this
    have hs11 : ¬ g1 < w10.heap.size ∧ ¬ g2 < w10.heap.size := by omega
    go_wp2_with fail
    rw [← hW11, ← hg2]
    rw [← hg1]
    clear hW11 hg1 hg2
    refine (LS.crash H10.out hb11 [1, 2] [(2, at_), (2, second)] (some ⟨g1, 0, none⟩) (some ⟨g2, 0, none⟩) 2 2 (fun W' hk => ints_lit [1, 2] (by decide) (blk_kept hk11 hk (fun h => hs11.1 h.2))) (fun W' hk => torn_lit _ (by show 2 ≤ 9223372036854775807; decide) (blk_kept ht11 hk (fun h => hs11.2 h.2))) (by intro t ht; have ht' : t = (2, at_) ∨ t = (2, second) := (by simpa using ht); rcases ht' with rfl | rfl; exact HAT.out.1; exact HAT.out.2)).mono ?_
    rintro e w12 ⟨rfl, h12, _⟩
    obtain ⟨K, hK⟩ : ∃ K : Nat, K = 64 := ⟨_, rfl⟩
    have HK := Aside0.mk hK
    have hK64 : K ≤ 64 := by omega
    have hcr : (D9.crashed [1, 2] [(2, at_), (2, second)]).readE 2 = 0 ∧ (D9.crashed [1, 2] [(2, at_), (2, second)]).readB 2 = (L2T.pad k).take K ++ (D9.sec 2).drop K := by
      rw [hK]; exact HD9.out.1.crash (L2T.pad k) HD9.out.2.1 at_ second true
    rw [HD9.out.2.2] at hcr
    have H12 := Aside0.mk h12
    have HCR := Aside0.mk hcr
    clear h12 hcr hK hb11 hk11 ht11 hs11
    go_wp2_with fail
    refine (H12.out.read 2).mono ?_
    rintro e w13 ⟨v, rfl, hR13, h13, _⟩
    rw [HCR.out.1]
    rw [HCR.out.2] at hR13
    obtain ⟨B, hB⟩ : ∃ B, B = (L2T.pad k).take K ++ (L2T.pad l).drop K := ⟨_, rfl⟩
    rw [← hB] at hR13
    obtain ⟨Ab, cb2, rfl, hcb2, hC13⟩ := Kd.R_reads hR13
    have HB13 := Aside0.mk h13.bel
    have HC13 := Aside0.mk hC13
    have HCB := Aside0.mk hcb2
    have HBQ := Aside0.mk hB
    clear hR13 h13 hC13 hcb2 hB
    have HO14 : Aside0 (Kd.R (Kd.int .u8) 5 (w13.alloc (.cells #[] 5)) w13.heap.size (fun _ => True) (.slice (some ⟨w13.heap.size, 0, none⟩) 0 0) []) := ⟨empty_R (blk_new w13 _) (Nat.le_refl _)⟩
    have HR14 := Aside0.mk (Kd.C_below (Kd.C_below HRA.out.1 HB13.out) (below_alloc (Below.refl w13.heap.size w13) (.cells #[] 5)))
    have HQ14 := Aside0.mk (below_alloc (Below.refl w13.heap.size w13) (.cells #[] 5))
    have e64l : IntKind.i64.wrap (64 - (l.length : Int)) = 64 - (l.length : Int) := IntWalk.i64_in _ (by have := HLE.out.1; omega)
    have e64k : IntKind.i64.wrap (64 - (k.length : Int)) = 64 - (k.length : Int) := IntWalk.i64_in _ (by have := HLE.out.2; omega)
    go_upto_region 13 with (first
      | ((with_reducible refine gate_builtin (b := .append) (xs := #[.tmp 77, .tmp 78]) rfl ?_); at_builtin; refine Kd.R_append_rows (Kd.int .u8) (Rr := fun (x : Int) (c : List Value) => c = [.int .u8 x]) (w0 := w13) w13.heap.size rfl (.tmp 77) (.tmp 78) 33 5 (.int .u8 0) 1 rfl Try.underlying33 infoByte rfl (by decide) (by omega) (.slice (some ⟨w13.heap.size, 0, none⟩) 0 0) [] l A l.length ca (fun _ => True) (fun _ => False) rfl rfl HO14.out HR14.out (fun _ _ h => h) (fun _ hk => hk.elim) (fun _ _ => trivial) HQ14.out HQ14.out.size (by have := HLE.out.1; show (0 + l.length) * 1 ≤ 140737488355328; omega) ?_; intro v14 w14 hr hb hg hat; have HO15 := Aside0.mk hr; have HQ15 := Aside0.mk hb; clear hr hb hg hat)
      | ((with_reducible refine gate_builtin (b := .append) (xs := #[.tmp 79, .tmp 82]) rfl ?_); at_builtin; refine Kd.R_append_zeros (Kd.int .u8) (w0 := w13) w13.heap.size rfl (.tmp 79) (.tmp 82) 33 3 5 (.int .u8 0) 1 rfl Try.underlying33 Try.underlying3 infoByte rfl (by decide) (by decide) v14 ([] ++ l) 0 (64 - (l.length : Int)) (fun _ => True) rfl rfl rfl (fun _ _ => trivial) HO15.out (by have := HLE.out.1; omega) HQ15.out HQ15.out.size (by have := HLE.out.1; rw [List.nil_append]; omega) ?_; intro v15 w15 hr hb hg hat; have HO16 := Aside0.mk (show Kd.R (Kd.int .u8) 5 w15 w13.heap.size (fun _ => True) v15 (L2T.pad l) by have e : ([] ++ l) ++ List.replicate (64 - (l.length : Int)).toNat 0 = L2T.pad l := (by unfold L2T.pad zeros; rw [List.nil_append, show (64 - (l.length : Int)).toNat = 64 - l.length by omega]); rw [← e]; exact hr); have HQ16 := Aside0.mk hb; clear hr hb hg hat)
      | ((with_reducible refine gate_builtin (b := .append) (xs := #[.tmp 84, .tmp 85]) rfl ?_); at_builtin; refine Kd.R_append_rows (Kd.int .u8) (Rr := fun (x : Int) (c : List Value) => c = [.int .u8 x]) (w0 := w15) w15.heap.size rfl (.tmp 84) (.tmp 85) 33 5 (.int .u8 0) 1 rfl Try.underlying33 infoByte rfl (by decide) (by omega) (.slice (some ⟨w15.heap.size, 0, none⟩) 0 0) [] k Bk k.length cb (fun _ => True) (fun _ => False) rfl rfl (empty_R (blk_new w15 _) (Nat.le_refl _)) (Kd.C_below (Kd.C_below HRB.out.1 (below_step HB13.out HQ16.out)) (below_alloc (Below.refl w15.heap.size w15) (.cells #[] 5))) (fun _ _ h => h) (fun _ hk => hk.elim) (fun _ _ => trivial) (below_alloc (Below.refl w15.heap.size w15) (.cells #[] 5)) (below_alloc (Below.refl w15.heap.size w15) (.cells #[] 5)).size (by have := HLE.out.2; show (0 + k.length) * 1 ≤ 140737488355328; omega) ?_; intro v16 w16 hr hb hg hat; have HO17 := Aside0.mk hr; have HQ17 := Aside0.mk hb; clear hr hb hg hat)
      | ((with_reducible refine gate_builtin (b := .append) (xs := #[.tmp 86, .tmp 89]) rfl ?_); at_builtin; refine Kd.R_append_zeros (Kd.int .u8) (w0 := w15) w15.heap.size rfl (.tmp 86) (.tmp 89) 33 3 5 (.int .u8 0) 1 rfl Try.underlying33 Try.underlying3 infoByte rfl (by decide) (by decide) v16 ([] ++ k) 0 (64 - (k.length : Int)) (fun _ => True) rfl rfl rfl (fun _ _ => trivial) HO17.out (by have := HLE.out.2; omega) HQ17.out HQ17.out.size (by have := HLE.out.2; rw [List.nil_append]; omega) ?_; intro v17 w17 hr hb hg hat; have HO18 := Aside0.mk (show Kd.R (Kd.int .u8) 5 w17 w15.heap.size (fun _ => True) v17 (L2T.pad k) by have e : ([] ++ k) ++ List.replicate (64 - (k.length : Int)).toNat 0 = L2T.pad k := (by unfold L2T.pad zeros; rw [List.nil_append, show (64 - (k.length : Int)).toNat = 64 - k.length by omega]); rw [← e]; exact hr); have HQ18 := Aside0.mk hb; clear hr hb hg hat)
      | fail)
    clear e64l e64k HO14 HR14 HQ14 HO15 HQ15 HO17 HQ17
    go_cut [18] from 91 (fun s18 wx => (∃ x, s18 = .int .i64 x) ∧ wx = w17)
    case first =>
      go_wp2_with fail
      all_goals go_meet
      all_goals exact ⟨⟨_, rfl⟩, rfl⟩
    case rest =>
    obtain ⟨⟨x18, rfl⟩, hwx⟩ := hcut
    have hwx := hwx.symm
    subst hwx
    have hpl := HPL.out l HLE.out.1
    have hpk := HPL.out k HLE.out.2
    obtain ⟨A15, c15, hv15, hc15, hC15⟩ := Kd.R_reads HO16.out
    obtain ⟨A17, c17, hv17, hc17, hC17⟩ := Kd.R_reads HO18.out
    have hBl : B.length = 64 := by rw [HBQ.out, List.length_append, List.length_take, List.length_drop, hpl, hpk]; omega
    have HLB := Aside0.mk (And.intro hBl (And.intro hpl hpk))
    rw [hpl] at hv15 hc15 hC15
    rw [hpk] at hv17 hc17 hC17
    subst hv15; subst hv17
    have hC13 := HC13.out
    have hcb2 := HCB.out
    rw [hBl] at hC13 hcb2 ⊢
    obtain ⟨iU, hiU, hiS⟩ := Option.map_eq_some_iff.1 sizeByte
    obtain ⟨A1, hcut, hA1⟩ := print_cut (P := Try.prog) 33 5 .i64 Try.underlying33 hiU hiS A15 64 c15 K hK64
    have hKc : (K : Int) ≤ (c17 : Int) := by omega
    have hlt : ((L2T.pad k).take K).length = K := by rw [List.length_take, hpk]; omega
    have hld : ((L2T.pad l).drop K).length = 64 - K := by rw [List.length_drop, hpl]
    have hbp : ∀ x : List Int, Bytes x → Bytes (L2T.pad x) := fun x hx => Bytes.append hx (zeros_bytes _)
    have hcmp : ((strOfNums B).toList == (strOfNums ((L2T.pad k).take K) ++ strOfNums ((L2T.pad l).drop K)).toList) = true := by
      rw [HBQ.out, strNums_append]; simp
    have hsz : ¬ (9223372036854775807 < (strOfNums ((L2T.pad k).take K)).size + (strOfNums ((L2T.pad l).drop K)).size) := by
      rw [strNums_size, strNums_size, hlt, hld]; omega
    obtain ⟨Inv, hInv⟩ : ∃ I : World → Prop, I = fun W => Below w17.heap.size w17 W := ⟨_, rfl⟩
    have HI := Aside0.mk (show Inv w17.drew by rw [hInv]; exact below_drew (Below.refl _ _))
    have IB : ∀ W W', Inv W → Below W.heap.size W W' → Inv W' := by rw [hInv]; exact fun W W' h hb => below_step h hb
    have IW := Aside0.mk (show ∀ W, Inv W → Below w.heap.size w W by rw [hInv]; exact fun W h => below_step (below_step (below_step HB13.out HQ16.out) HQ18.out) h)
    have SF0 : ∀ W, Inv W → (convert 33 9 (.slice Ab 64 cb2)).run Try.prog W = .ok (.string (strOfNums B)) W ∧ (convert 33 9 (.slice A17 K c17)).run Try.prog W = .ok (.string (strOfNums ((L2T.pad k).take K))) W ∧ (convert 33 9 (.slice A1 (64 - K) (c15 - K))).run Try.prog W = .ok (.string (strOfNums ((L2T.pad l).drop K))) W := by
      rw [hInv]
      intro W hW
      refine ⟨Kd.C_string (c := cb2) Try.underlying33 Try.underlying5 Try.underlying9 (Kd.C_below (Kd.C_below (Kd.C_below hC13 HQ16.out) HQ18.out) hW), ?_, ?_⟩
      · have h3 := Kd.C_take (m := K) (by rw [hpk]; exact Kd.C_below hC17 hW) (by omega : K ≤ (L2T.pad k).length)
        rw [hlt] at h3
        exact Kd.C_string (c := c17) Try.underlying33 Try.underlying5 Try.underlying9 h3
      · have h3 : Kd.C (Kd.int .u8) W A1 (64 - K) ((L2T.pad l).drop K) := Kd.C_of_reads (enc := Value.int .u8) (d := 0) (hA1 W .u8 (L2T.pad l) hc15 (C_int (Kd.C_below (Kd.C_below hC15 HQ18.out) hW)))
        exact Kd.C_string (c := c15 - K) Try.underlying33 Try.underlying5 Try.underlying9 h3
    have SF := Aside0.mk SF0
    have N0 := Aside0.mk (show ∀ W, Inv W → Calls Try.prog 17 #[.int .i64 0] W fun e w' => e = .returned (.int .i64 0) ∧ Inv w' from fun W h => (num2_calls 0 W).mono fun e w' ⟨he, hd⟩ => ⟨he, IB _ _ h hd.below⟩)
    have L0 := Aside0.mk (show ∀ W, Inv W → Calls Try.prog 15 #[] W fun e w' => e = .returned (.bool true) ∧ Inv w' from fun W h => (live2_calls W).mono fun e w' ⟨he, hd⟩ => ⟨he, IB _ _ h hd⟩)
    clear SF0 IB hInv hA1 hC13 hC15 hC17 hc15 hc17 hcb2 HQ16 HQ18 HC13 HO16 HO18 hlt hld hbp hpl hpk hBl HBQ
    go_upto_region 16 with (fail)
    have e64K : (64 : Int) = (K : Int) := by have := HK.out; omega
    rw [e64K]
    clear e64K
    refine wp_region_plan (by kernel_rfl) (by kernel_rfl) Inv HI.out ?_
    refine Plan.take 0 (some 95) (Op.move (Operand.tmp 15)) 28 (none) ?_ rfl (by kernel_rfl) (by kernel_rfl) (Tells.val (by rfl) ?_) ?_
    rotate_left
    · (intro W hW; go_simp; first | done | with_reducible rfl)
    try simp only [Act.put, List.setIfInBounds_toArray, List.set_cons_zero, List.set_cons_succ]
    refine Plan.take 1 (some 96) (Op.call { callee := Callee.value (Operand.func 17), args := #[Operand.tmp 95], argTypes := #[28] }) 3 (none) ?_ rfl (by kernel_rfl) (by kernel_rfl) (Tells.call 17 ?_ (by rfl) ?_ ?_) ?_
    rotate_left 2
    · (intro W; go_simp; first | done | with_reducible rfl)
    · exact N0.out
    try simp only [Act.put, List.setIfInBounds_toArray, List.set_cons_zero, List.set_cons_succ]
    refine Plan.take 2 (some 97) (Op.binOp BinOp.eql 3 (Operand.tmp 96) (Operand.const (Value.int IntKind.i64 0)) 3) 4 (none) ?_ rfl (by kernel_rfl) (by kernel_rfl) (Tells.val (by rfl) ?_) ?_
    rotate_left
    · (intro W hW; go_simp; first | done | with_reducible rfl)
    try simp only [Act.put, List.setIfInBounds_toArray, List.set_cons_zero, List.set_cons_succ]
    refine Plan.take 3 (some 98) (Op.move (Operand.tmp 97)) 4 (none) ?_ rfl (by kernel_rfl) (by kernel_rfl) (Tells.val (by rfl) ?_) ?_
    rotate_left
    · (intro W hW; go_simp; first | done | with_reducible rfl)
    try simp only [Act.put, List.setIfInBounds_toArray, List.set_cons_zero, List.set_cons_succ]
    refine Plan.take 4 (some 99) (Op.move (Operand.tmp 14)) 33 (some (3, true)) ?_ rfl (by kernel_rfl) (by kernel_rfl) (Tells.val (by rfl) ?_) ?_
    rotate_left
    · (intro W hW; go_simp; first | done | with_reducible rfl)
    try simp only [Act.put, List.setIfInBounds_toArray, List.set_cons_zero, List.set_cons_succ]
    refine Plan.take 5 (some 100) (Op.convert 33 9 (Operand.tmp 99)) 9 (some (3, true)) ?_ rfl (by kernel_rfl) (by kernel_rfl) (Tells.val (by rfl) ?_) ?_
    rotate_left
    · (intro W hW; have hF := SF.out W hW; go_simp; first | done | with_reducible rfl)
    try simp only [Act.put, List.setIfInBounds_toArray, List.set_cons_zero, List.set_cons_succ]
    refine Plan.take 6 (some 101) (Op.move (Operand.tmp 17)) 33 (some (3, true)) ?_ rfl (by kernel_rfl) (by kernel_rfl) (Tells.val (by rfl) ?_) ?_
    rotate_left
    · (intro W hW; go_simp; first | done | with_reducible rfl)
    try simp only [Act.put, List.setIfInBounds_toArray, List.set_cons_zero, List.set_cons_succ]
    refine Plan.take 7 (some 102) (Op.move (Operand.tmp 18)) 3 (some (3, true)) ?_ rfl (by kernel_rfl) (by kernel_rfl) (Tells.val (by rfl) ?_) ?_
    rotate_left
    · (intro W hW; go_simp; first | done | with_reducible rfl)
    try simp only [Act.put, List.setIfInBounds_toArray, List.set_cons_zero, List.set_cons_succ]
    refine Plan.take 8 (some 103) (Op.slice 33 (Operand.tmp 101) none (some (Operand.tmp 102)) none) 33 (some (3, true)) ?_ rfl (by kernel_rfl) (by kernel_rfl) (Tells.val (by rfl) ?_) ?_
    rotate_left
    · (intro W hW; have hF := SF.out W hW; go_simp; first | done | with_reducible rfl)
    try simp only [Act.put, List.setIfInBounds_toArray, List.set_cons_zero, List.set_cons_succ]
    refine Plan.take 9 (some 104) (Op.convert 33 9 (Operand.tmp 103)) 9 (some (3, true)) ?_ rfl (by kernel_rfl) (by kernel_rfl) (Tells.val (by rfl) ?_) ?_
    rotate_left
    · (intro W hW; have hF := SF.out W hW; go_simp; first | done | with_reducible rfl)
    try simp only [Act.put, List.setIfInBounds_toArray, List.set_cons_zero, List.set_cons_succ]
    refine Plan.take 10 (some 105) (Op.move (Operand.tmp 16)) 33 (some (3, true)) ?_ rfl (by kernel_rfl) (by kernel_rfl) (Tells.val (by rfl) ?_) ?_
    rotate_left
    · (intro W hW; go_simp; first | done | with_reducible rfl)
    try simp only [Act.put, List.setIfInBounds_toArray, List.set_cons_zero, List.set_cons_succ]
    refine Plan.take 11 (some 106) (Op.move (Operand.tmp 18)) 3 (some (3, true)) ?_ rfl (by kernel_rfl) (by kernel_rfl) (Tells.val (by rfl) ?_) ?_
    rotate_left
    · (intro W hW; go_simp; first | done | with_reducible rfl)
    try simp only [Act.put, List.setIfInBounds_toArray, List.set_cons_zero, List.set_cons_succ]
    refine Plan.take 12 (some 107) (Op.slice 33 (Operand.tmp 105) (some (Operand.tmp 106)) none none) 33 (some (3, true)) ?_ rfl (by kernel_rfl) (by kernel_rfl) (Tells.val (by rfl) ?_) ?_
    rotate_left
    · (intro W hW; have hF := SF.out W hW; go_simp; first | done | with_reducible rfl)
    try simp only [Act.put, List.setIfInBounds_toArray, List.set_cons_zero, List.set_cons_succ]
    refine Plan.take 13 (some 108) (Op.convert 33 9 (Operand.tmp 107)) 9 (some (3, true)) ?_ rfl (by kernel_rfl) (by kernel_rfl) (Tells.val (by rfl) ?_) ?_
    rotate_left
    · (intro W hW; have hF := SF.out W hW; go_simp; first | done | with_reducible rfl)
    try simp only [Act.put, List.setIfInBounds_toArray, List.set_cons_zero, List.set_cons_succ]
    refine Plan.take 14 (some 109) (Op.binOp BinOp.add 9 (Operand.tmp 104) (Operand.tmp 108) 9) 9 (some (3, true)) ?_ rfl (by kernel_rfl) (by kernel_rfl) (Tells.val (by rfl) ?_) ?_
    rotate_left
    · (intro W hW; go_simp; first | done | with_reducible rfl)
    try simp only [Act.put, List.setIfInBounds_toArray, List.set_cons_zero, List.set_cons_succ]
    refine Plan.take 15 (some 110) (Op.binOp BinOp.eql 9 (Operand.tmp 100) (Operand.tmp 109) 9) 4 (some (3, true)) ?_ rfl (by kernel_rfl) (by kernel_rfl) (Tells.val (by rfl) ?_) ?_
    rotate_left
    · (intro W hW; go_simp; first | done | with_reducible rfl)
    try simp only [Act.put, List.setIfInBounds_toArray, List.set_cons_zero, List.set_cons_succ]
    refine Plan.take 16 (some 111) (Op.pick (Operand.tmp 98) (Operand.tmp 110) (Operand.const (Value.bool false))) 4 (none) ?_ rfl (by kernel_rfl) (by kernel_rfl) (Tells.val (by rfl) ?_) ?_
    rotate_left
    · (intro W hW; go_simp; first | done | with_reducible rfl)
    try simp only [Act.put, List.setIfInBounds_toArray, List.set_cons_zero, List.set_cons_succ]
    refine Plan.take 17 (some 112) (Op.move (Operand.tmp 111)) 4 (none) ?_ rfl (by kernel_rfl) (by kernel_rfl) (Tells.val (by rfl) ?_) ?_
    rotate_left
    · (intro W hW; go_simp; first | done | with_reducible rfl)
    try simp only [Act.put, List.setIfInBounds_toArray, List.set_cons_zero, List.set_cons_succ]
    refine Plan.take 18 (some 113) (Op.call { callee := Callee.value (Operand.func 15), args := #[], argTypes := #[] }) 4 (some (17, true)) ?_ rfl (by kernel_rfl) (by kernel_rfl) (Tells.call 15 ?_ (by rfl) ?_ ?_) ?_
    rotate_left 2
    · (intro W; go_simp; first | done | with_reducible rfl)
    · exact L0.out
    try simp only [Act.put, List.setIfInBounds_toArray, List.set_cons_zero, List.set_cons_succ]
    refine Plan.take 19 (some 114) (Op.pick (Operand.tmp 112) (Operand.tmp 113) (Operand.const (Value.bool false))) 4 (none) ?_ rfl (by kernel_rfl) (by kernel_rfl) (Tells.val (by rfl) ?_) ?_
    rotate_left
    · (intro W hW; go_simp; first | done | with_reducible rfl)
    try simp only [Act.put, List.setIfInBounds_toArray, List.set_cons_zero, List.set_cons_succ]
    refine Plan.take 20 (some 10) (Op.assign (Operand.tmp 114)) 4 (none) ?_ rfl (by kernel_rfl) (by kernel_rfl) (Tells.val (by rfl) ?_) ?_
    rotate_left
    · (intro W hW; go_simp; first | done | with_reducible rfl)
    try simp only [Act.put, List.setIfInBounds_toArray, List.set_cons_zero, List.set_cons_succ]
    refine Plan.done _ (by kernel_rfl) ?_
    intro W hW
    go_wp2_with fail
    go_ret
    exact ⟨rfl, IW.out _ hW⟩
set_option maxHeartbeats 4000000 in
theorem torn2_bad (A Bk : Option Addr) (ca cb : Nat) (l k : List Int) (at_ second : Int) (kept : Bool) (w : World) (h : 64 < l.length ∨ 64 < k.length) :
    Calls Try.prog 4 #[.slice A l.length ca, .slice Bk k.length cb, .int .i64 at_, .int .i64 second, .bool kept] w fun e w' => e = .returned (.bool true) ∧ Below w.heap.size w w' := by
  go_enter Try.func4, Try.ntmps4
  by_cases h1 : 64 < l.length
  · have d1 : decide (64 < (l.length : Int)) = true := decide_eq_true (by omega)
    clear h
    go_wp2_with fail
    refine (live2_calls _).mono ?_
    rintro e w1 ⟨rfl, hb1⟩
    have HB1 := Aside0.mk hb1
    clear hb1
    go_wp2_with fail
    go_ret
    exact ⟨rfl, HB1.out⟩
  have d1 : decide (64 < (l.length : Int)) = false := decide_eq_false (by omega)
  have d2 : decide (64 < (k.length : Int)) = true := decide_eq_true (by omega)
  clear h h1
  go_wp2_with fail
  refine (live2_calls _).mono ?_
  rintro e w1 ⟨rfl, hb1⟩
  have HB1 := Aside0.mk hb1
  clear hb1
  go_wp2_with fail
  go_ret
  exact ⟨rfl, HB1.out⟩
theorem wf2_i64 {y : Int} (h : (Lit.int .i64 y).wf = true) : -9223372036854775808 ≤ y ∧ y ≤ 9223372036854775807 := by
  simp [Lit.wf, IntKind.min, IntKind.max, IntKind.bits, IntKind.signed] at h; omega
theorem wf2_u8 {y : Int} (h : (Lit.int .u8 y).wf = true) : 0 ≤ y ∧ y < 256 := by
  simp [Lit.wf, IntKind.min, IntKind.max, IntKind.bits, IntKind.signed] at h; omega
theorem torn2_row (A Bk : Option Addr) (ca cb : Nat) (l k : List Int) (at_ second : Int) (kept : Bool) (w : World) (hra : Kd.C (Kd.int .u8) w A l.length l) (hca : l.length ≤ ca) (hrb : Kd.C (Kd.int .u8) w Bk k.length k) (hcb : k.length ≤ cb)
    (wl : ∀ y ∈ l, (Lit.int .u8 y).wf = true) (wk : ∀ y ∈ k, (Lit.int .u8 y).wf = true) (wa : (Lit.int .i64 at_).wf = true) (ws : (Lit.int .i64 second).wf = true) :
    Calls Try.prog 4 #[.slice A l.length ca, .slice Bk k.length cb, .int .i64 at_, .int .i64 second, .bool kept] w fun e w' => e = .returned (.bool true) ∧ Below w.heap.size w w' := by
  by_cases h : 64 < l.length ∨ 64 < k.length
  · exact torn2_bad A Bk ca cb l k at_ second kept w h
  · exact torn2_good A Bk ca cb l k at_ second kept w hra hca hrb hcb (by omega) (by omega) (fun x hx => wf2_u8 (wl x hx)) (fun x hx => wf2_u8 (wk x hx)) (wf2_i64 wa) (wf2_i64 ws)
end Go.Proofs.YteimienhaodfcaaK
