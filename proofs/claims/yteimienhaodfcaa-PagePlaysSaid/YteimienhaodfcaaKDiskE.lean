/- The disk's Crash, walked; slices.Contains, slices.IndexFunc. -/
import Derived.Test.YteimienhaodfcaaKDiskD
import Derived.Test.YteimienhaodfcaaKClone
import Derived.Deep.QuietTactic
import Derived.BigQuiet
import Derived.Lib.AppendZerosOnto
import Derived.Lib.SliceRun
import Derived.Lib.Walk
namespace Go.Proofs.YteimienhaodfcaaK
open Go.RowKit Go.Proofs.YteimienhaodfcaaW.PrintWords Go.Proofs.YteimienhaodfcaaW.PrintLast Go.Proofs.YteimienhaodfcaaW.PrintMore Go.Crc
open Go.ChangeMaps (setBlock)
attribute [local go_sem] max2_int min2_int max_two min_two
set_option linter.unusedVariables false
set_option linter.unusedSimpArgs false
variable {w w' : World} {X X' S : Nat → Prop} {d sb mb clock : Nat} {es : Array MapEntry} {safe : List Int} {D : Dk}
set_option maxHeartbeats 1000000 in
theorem index_calls (A : Option Addr) (c : Nat) (l : List Int) (n : Int) (w : World) (hr : Kd.C (Kd.int .i64) w A l.length l) : Calls Try.prog 88 #[.slice A l.length c, .int .i64 n] w fun e w' => (∃ r, (0 ≤ r ↔ n ∈ l) ∧ e = .returned (.int .i64 r)) ∧ Drawn0 w w' := by
  have hlm : l.length ≤ 9223372036854775807 := hr.2.1
  have HR := Aside0.mk hr
  clear hr
  go_enter Try.func88, Try.ntmps88
  go_wp2
  go_loop [8] (fun i => ∃ k : Nat, k ≤ l.length ∧ i = .int .i64 k ∧ Aside0 (∀ x ∈ l.take k, x ≠ n)) (fun i => l.length - (intOf i).toNat)
  case atStart => exact ⟨0, Nat.zero_le _, rfl, ⟨by simp⟩⟩
  case round =>
    obtain ⟨k, hk, rfl, HK⟩ := hrel
    by_cases hlt : k < l.length
    · obtain ⟨ad, cs, hA, _, hK, hcell⟩ := Kd.C_get HR.out 0 (k : Int) (by omega) (by omega)
      subst hA
      have hx : l.getD k 0 = l[k] := by simp [List.getD_eq_getElem?_getD, List.getElem?_eq_getElem hlt]
      have hcell' : w.cell? (ad.add k) = some (.int .i64 l[k]) := by
        have := hcell 0 (.int .i64 (l.getD (k : Int).toNat 0)) (by rw [show cs = _ from hK]; rfl)
        rw [show ((k : Int).toNat) = k by omega, hx, show k * (Kd.int .i64).sz + 0 = k from Nat.mul_one k] at this
        exact this
      have HT : Aside0 (l.take (k + 1) = l.take k ++ [l[k]]) := ⟨List.take_succ_eq_append_getElem hlt⟩
      have HM : Aside0 (l[k] ∈ l) := ⟨List.getElem_mem hlt⟩
      obtain ⟨y, hy⟩ : ∃ y, y = l[k] := ⟨_, rfl⟩
      rw [← hy] at hcell' HT HM
      clear hy hx hcell hK
      by_cases he : n = y
      · subst he
        have hb : (n == n) = true := by simp
        go_wp2
        go_ret
        exact ⟨⟨k, ⟨fun _ => HM.out, fun _ => by omega⟩, rfl⟩, by repeat (first | exact Drawn0.refl _ | apply Drawn0.step)⟩
      · have hb : (n == y) = false := by simpa using he
        have HE := Aside0.mk he
        clear he
        go_wp2
        go_round
        case rel => exact ⟨k + 1, by omega, by go_num, ⟨fun x hx => by
          rw [HT.out] at hx
          rcases List.mem_append.1 hx with h | h
          · exact HK.out x h
          · rw [List.mem_singleton.1 h]; exact fun e => HE.out e.symm⟩⟩
        case measure => simp [intOf]; omega
    · obtain rfl : k = l.length := by omega
      go_wp2
      go_ret
      refine ⟨⟨-1, ?_, rfl⟩, by repeat (first | exact Drawn0.refl _ | apply Drawn0.step)⟩
      have := HK.out
      rw [List.take_length] at this
      exact ⟨fun h => by omega, fun h => absurd rfl (this n h)⟩
set_option maxHeartbeats 400000 in
theorem contains_calls (A : Option Addr) (c : Nat) (l : List Int) (n : Int) (w : World) (hr : Kd.C (Kd.int .i64) w A l.length l) : Calls Try.prog 65 #[.slice A l.length c, .int .i64 n] w fun e w' => e = .returned (.bool (decide (n ∈ l))) ∧ Drawn0 w w' := by
  go_enter Try.func65, Try.ntmps65
  go_wp2_with fail
  refine (index_calls A c l n w hr).mono ?_
  rintro e w1 ⟨⟨r, hr, rfl⟩, hd⟩
  obtain ⟨m, rfl⟩ := hd
  have hd : decide (0 ≤ r) = decide (n ∈ l) := decide_eq_decide.2 hr
  clear hr
  go_wp2_with fail
  go_ret
  exact ⟨rfl, by repeat (first | exact Drawn0.refl _ | apply Drawn0.step)⟩
abbrev KT : Kd (Int × Int) := Kd.pair (Kd.int .i64) (Kd.int .i64)
theorem torn_get {w : World} {A : Option Addr} {l : List (Int × Int)} (hr : KT.C w A l.length l) {i : Nat} (hi : i < l.length) : ∃ ad, A = some ad ∧ w.cell? (ad.add (i * 2)) = some (.int .i64 l[i].1) ∧ w.cell? ⟨(ad.add (i * 2)).block, (ad.add (i * 2)).off + 1, none⟩ = some (.int .i64 l[i].2) := by
  obtain ⟨ad, cs, hA, _, hK, hcell⟩ := Kd.C_get hr (0, 0) (i : Int) (by omega) (by omega)
  rw [show ((i : Int).toNat) = i by omega] at hK hcell
  rw [show l.getD i (0, 0) = l[i] by simp [List.getD_eq_getElem?_getD, List.getElem?_eq_getElem hi]] at hK
  obtain ⟨c1, c2, rfl, h1, h2⟩ := hK
  obtain rfl : c1 = [.int .i64 l[i].1] := h1
  obtain rfl : c2 = [.int .i64 l[i].2] := h2
  refine ⟨ad, hA, ?_, ?_⟩
  · have := hcell 0 _ rfl
    exact this
  · have := hcell 1 _ rfl
    rw [← add_field ad (i * 2) 1 (by omega)]; exact this
/-- Which is the first? -/
def firstIdx (p : Int × Int → Bool) (l : List (Int × Int)) : Int := match l.findIdx? p with | some i => (i : Int) | none => -1
set_option maxHeartbeats 1000000 in
theorem indexfunc_calls (g : Nat) (lb : Array Value) (hgo : ∀ (args : Array Value) (W : World), (callFunc g args).run Try.prog W = .ok (.enter g args) W) (p : Int × Int → Bool) (A : Option Addr) (c : Nat) (l : List (Int × Int)) (w : World) (hr : KT.C w A l.length l)
    (hp : ∀ (W : World) (x : Int × Int), Below w.heap.size w W → Calls Try.prog g (#[.agg #[.int .i64 x.1, .int .i64 x.2]] ++ lb) W fun e w' => e = .returned (.bool (p x)) ∧ Below W.heap.size W w') :
    Calls Try.prog 66 #[.slice A l.length c, .func (.func g) #[] lb] w fun e w' => e = .returned (.int .i64 (firstIdx p l)) ∧ Below w.heap.size w w' := by
  have hlm : l.length ≤ 9223372036854775807 := hr.2.1
  have HR := Aside0.mk hr; have HP := Aside0.mk hp
  clear hr hp
  go_enter Try.func66, Try.ntmps66
  go_wp2
  go_loopw [8] (fun i wr => ∃ k : Nat, k ≤ l.length ∧ i = .int .i64 k ∧ Aside0 (∀ x ∈ l.take k, p x = false) ∧ Aside0 (Below w.heap.size w wr)) (fun i _ => l.length - (intOf i).toNat)
  case atStart => exact ⟨0, Nat.zero_le _, rfl, ⟨by simp⟩, ⟨Below.refl _ _⟩⟩
  case round =>
    obtain ⟨k, hk, rfl, HK, HB⟩ := hrel
    by_cases hlt : k < l.length
    · obtain ⟨ad, rfl, hc0, hc1⟩ := torn_get (Kd.C_below HR.out HB.out) hlt
      have HT : Aside0 (l.take (k + 1) = l.take k ++ [l[k]]) := ⟨List.take_succ_eq_append_getElem hlt⟩
      have HG : Aside0 (l[k]? = some l[k]) := ⟨List.getElem?_eq_getElem hlt⟩
      have HL : Aside0 ((l.take k).length = k) := ⟨by rw [List.length_take]; omega⟩
      obtain ⟨y, hy⟩ : ∃ y, y = l[k] := ⟨_, rfl⟩
      rw [← hy] at hc0 hc1 HT HG
      clear hy
      go_wp2_with fail
      refine (HP.out wr y HB.out).mono ?_
      rintro e w1 ⟨rfl, hb1⟩
      have HB1 := Aside0.mk (below_step HB.out hb1)
      clear hb1
      cases hpy : p y with
      | true =>
        have HPY := Aside0.mk hpy
        clear hpy
        go_wp2_with fail
        go_ret
        refine ⟨?_, HB1.out⟩
        have : l.findIdx? p = some k := by
          rw [List.findIdx?_eq_some_iff_getElem]
          refine ⟨hlt, by rw [List.getElem?_eq_getElem hlt] at HG; have := HG.out; simp only [Option.some.injEq] at this; rw [this]; exact HPY.out, fun j hj => ?_⟩
          have := HK.out (l[j]) (by rw [List.mem_take_iff_getElem]; exact ⟨j, by omega, rfl⟩)
          simp [this]
        simp only [firstIdx, this]
        rfl
      | false =>
        have HPY := Aside0.mk hpy
        clear hpy
        go_wp2_with fail
        go_roundw
        case rel => exact ⟨k + 1, by omega, by go_num, ⟨fun x hx => by
          rw [HT.out] at hx
          rcases List.mem_append.1 hx with h | h
          · exact HK.out x h
          · rw [List.mem_singleton.1 h]; exact HPY.out⟩, HB1⟩
        case measure => simp [intOf]; omega
    · obtain rfl : k = l.length := by omega
      go_wp2_with fail
      go_ret
      refine ⟨?_, HB.out⟩
      have h1 := HK.out
      rw [List.take_length] at h1
      have : l.findIdx? p = none := by rw [List.findIdx?_eq_none_iff]; exact h1
      simp only [firstIdx, this]
      rfl
/-- How many bytes of an unsafe sector last behind a crash. -/
def keptOf (keep : List Int) (torn : List (Int × Int)) (size : Nat) (n : Nat) : Nat :=
  if (n : Int) ∈ keep then size else match torn.find? (fun t => t.1 == (n : Int)) with | some t => min t.2.toNat size | none => 0
theorem keptOf_le (keep : List Int) (torn : List (Int × Int)) (size n : Nat) : keptOf keep torn size n ≤ size := by
  unfold keptOf
  split
  · exact Nat.le_refl _
  · split
    · exact Nat.min_le_right _ _
    · exact Nat.zero_le _
theorem ret_int_ {k : IntKind} {a b : Int} (h : a = b) : Ending.returned (.int k a) = .returned (.int k b) := by rw [h]
set_option maxHeartbeats 400000 in
theorem crash11_calls (s b n : Int) (B : Nat) (w : World) (hB : w.cell? ⟨B, 0, none⟩ = some (.int .i64 n)) : Calls Try.prog 67 #[.agg #[.int .i64 s, .int .i64 b], .pointer (some ⟨B, 0, none⟩)] w fun e w' => e = .returned (.bool (s == n)) ∧ Below w.heap.size w w' := by
  have hlt := World.block_lt_of_cell? w ⟨B, 0, none⟩ hB
  have hne : B ≠ w.heap.size := fun e => by simp at hlt; omega
  go_enter Try.func67, Try.ntmps67
  go_wp2
  go_ret
  exact ⟨rfl, by repeat (first | (with_reducible first | exact Below.refl _ _ | apply below_alloc | apply pw_below_drewN | apply below_drew1) | exact Below.refl _ _)⟩
set_option maxHeartbeats 1000000 in
set_option maxRecDepth 100000 in
theorem crash1_calls (n : Nat) (hn : n ≤ 65536) (keep : List Int) (torn : List (Int × Int)) (size : Nat) (hsz : size ≤ 1024) (A1 A2 : Option Addr) (c1 c2 B1 B2 B3 d : Nat) (w : World) (hr1 : Kd.C (Kd.int .i64) w A1 keep.length keep) (hr2 : KT.C w A2 torn.length torn)
    (h1 : w.cell? ⟨B1, 0, none⟩ = some (.slice A1 keep.length c1)) (h2 : w.cell? ⟨B2, 0, none⟩ = some (.pointer (some ⟨d, 0, none⟩))) (h3 : w.cell? ⟨B3, 0, none⟩ = some (.slice A2 torn.length c2)) (hd : w.cell? ⟨d, 1, none⟩ = some (.int .i64 (size : Int)))
    (htw : ∀ t ∈ torn, -9223372036854775808 ≤ t.2 ∧ t.2 ≤ 9223372036854775807) :
    Calls Try.prog 64 #[.int .i64 (n : Int), .pointer (some ⟨B1, 0, none⟩), .pointer (some ⟨B2, 0, none⟩), .pointer (some ⟨B3, 0, none⟩)] w fun e w' => e = .returned (.int .i64 (keptOf keep torn size n : Nat)) ∧ Below w.heap.size w w' := by
  have HR1 := Aside0.mk hr1; have HR2 := Aside0.mk hr2; have HTW := Aside0.mk htw
  clear hr1 hr2 htw
  obtain ⟨W1, hW1⟩ : ∃ W, W = w.alloc (.cells #[.int .i64 (n : Int)] 3) := ⟨_, rfl⟩
  have hB1 : Below w.heap.size w W1 := by rw [hW1]; exact below_alloc (Below.refl _ _) _
  have hbx : W1.heap[w.heap.size]? = some (.cells #[.int .i64 (n : Int)] 3) := by rw [hW1]; exact blk_new w _
  have p1 := pw_cell_below hB1 h1; have p2 := pw_cell_below hB1 h2; have p3 := pw_cell_below hB1 h3; have pd := pw_cell_below hB1 hd
  have pn : W1.cell? ⟨w.heap.size, 0, none⟩ = some (.int .i64 (n : Int)) := by rw [blk_cell hbx]; rfl
  have HB1 := Aside0.mk hB1
  have HC := Aside0.mk (And.intro p1 (And.intro p2 (And.intro p3 (And.intro pd pn))))
  clear hB1 hbx
  rw [hW1] at p1 p2 p3 pd pn
  go_enter Try.func64, Try.ntmps64
  go_wp2_with fail
  rw [← hW1]
  clear hW1
  refine (contains_calls A1 c1 keep (n : Int) W1 (Kd.C_below HR1.out HB1.out)).mono ?_
  rintro e w2 ⟨rfl, hd2⟩
  have HB2 := Aside0.mk hd2.below
  clear hd2 p1 p2 p3 pd pn
  obtain ⟨p1, p2, p3, pd, pn⟩ := HC.out
  replace p1 := pw_cell_below HB2.out p1; replace p2 := pw_cell_below HB2.out p2; replace p3 := pw_cell_below HB2.out p3; replace pd := pw_cell_below HB2.out pd; replace pn := pw_cell_below HB2.out pn
  by_cases hk : (n : Int) ∈ keep
  · have dk : decide ((n : Int) ∈ keep) = true := decide_eq_true hk
    rw [dk]
    have HK := Aside0.mk hk
    clear hk dk
    go_wp2_with fail
    go_ret
    refine ⟨by rw [keptOf, if_pos HK.out]; rfl, ?_⟩
    exact below_step HB1.out (by repeat (first | (with_reducible first | exact HB2.out | apply below_alloc | apply pw_below_drewN | apply below_drew1) | exact HB2.out))
  · have dk : decide ((n : Int) ∈ keep) = false := decide_eq_false hk
    rw [dk]
    have HK := Aside0.mk hk
    clear hk dk
    go_wp2_with fail
    refine (indexfunc_calls 67 #[.pointer (some ⟨w.heap.size, 0, none⟩)] (enters Try.func67 (by kernel_rfl) rfl) (fun t => t.1 == (n : Int)) A2 c2 torn w2 (Kd.C_below HR2.out (below_step HB1.out HB2.out)) ?_).mono ?_
    · intro W x hb
      refine (crash11_calls x.1 x.2 n w.heap.size W (pw_cell_below hb pn)).mono ?_
      rintro e w' ⟨rfl, h⟩; exact ⟨rfl, h⟩
    rintro e w3 ⟨rfl, hb3⟩
    have HB3 := Aside0.mk hb3
    replace p1 := pw_cell_below hb3 p1; replace p2 := pw_cell_below hb3 p2; replace p3 := pw_cell_below hb3 p3; replace pd := pw_cell_below hb3 pd; replace pn := pw_cell_below hb3 pn
    clear hb3
    cases hfi : torn.findIdx? (fun t => t.1 == (n : Int)) with
    | none =>
      have e0 : firstIdx (fun t => t.1 == (n : Int)) torn = -1 := by simp only [firstIdx, hfi]
      have HF : Aside0 (keptOf keep torn size n = 0) := ⟨by
        have : torn.find? (fun t => t.1 == (n : Int)) = none := by rw [List.find?_eq_none]; rw [List.findIdx?_eq_none_iff] at hfi; intro x hx; rw [hfi x hx]; simp
        rw [keptOf, if_neg HK.out, this]⟩
      rw [e0]
      clear hfi e0
      go_wp2_with fail
      go_ret
      exact ⟨by rw [HF.out]; rfl, below_step HB1.out (below_step HB2.out (by repeat (first | (with_reducible first | exact HB3.out | apply below_alloc | apply pw_below_drewN | apply below_drew1) | exact HB3.out)))⟩
    | some i =>
      have e0 : firstIdx (fun t => t.1 == (n : Int)) torn = (i : Int) := by simp only [firstIdx, hfi]
      rw [List.findIdx?_eq_some_iff_getElem] at hfi
      obtain ⟨hlt, hpi, hno⟩ := hfi
      have HF : Aside0 (keptOf keep torn size n = min torn[i].2.toNat size) := ⟨by
        have : torn.find? (fun t => t.1 == (n : Int)) = some torn[i] := by
          rw [List.find?_eq_some_iff_getElem]
          exact ⟨hpi, i, hlt, rfl, fun j hj => by have := hno j hj; simpa using this⟩
        rw [keptOf, if_neg HK.out, this]⟩
      have hlm : torn.length ≤ 9223372036854775807 := HR2.out.2.1
      obtain ⟨ad, rfl, hc0, hc1⟩ := torn_get (Kd.C_below HR2.out (below_step HB1.out (below_step HB2.out HB3.out))) hlt
      have htb := HTW.out _ (List.getElem_mem hlt)
      rw [e0]
      obtain ⟨y, hy⟩ : ∃ y, y = torn[i] := ⟨_, rfl⟩
      rw [← hy] at hc0 hc1 HF htb
      obtain ⟨ys, yb⟩ := y
      clear hy e0 hpi hno
      simp only at hc0 hc1 HF htb
      by_cases hy0 : yb < 0
      · have d1 : decide (yb < 0) = true := decide_eq_true hy0
        go_wp2_with fail
        go_quiet (fail)
        go_wp2_with fail
        go_ret
        exact ⟨ret_int_ (by rw [HF.out]; omega), below_step HB1.out (below_step HB2.out (by repeat (first | (with_reducible first | exact HB3.out | apply below_alloc | apply pw_below_drewN | apply below_drew1) | exact HB3.out)))⟩
      · have d1 : decide (yb < 0) = false := decide_eq_false hy0
        by_cases hy1 : (size : Int) < yb
        · have d2 : decide ((size : Int) < yb) = true := decide_eq_true hy1
          go_wp2_with fail
          go_quiet (fail)
          go_wp2_with fail
          go_ret
          exact ⟨ret_int_ (by rw [HF.out]; omega), below_step HB1.out (below_step HB2.out (by repeat (first | (with_reducible first | exact HB3.out | apply below_alloc | apply pw_below_drewN | apply below_drew1) | exact HB3.out)))⟩
        · have d2 : decide ((size : Int) < yb) = false := decide_eq_false hy1
          go_wp2_with fail
          go_quiet (fail)
          go_wp2_with fail
          go_ret
          exact ⟨ret_int_ (by rw [HF.out]; omega), below_step HB1.out (below_step HB2.out (by repeat (first | (with_reducible first | exact HB3.out | apply below_alloc | apply pw_below_drewN | apply below_drew1) | exact HB3.out)))⟩
namespace Dk
def crashed (D : Dk) (keep : List Int) (torn : List (Int × Int)) : Dk := { D.settle (keptOf keep torn D.size) with dead := false, left := -1 }
end Dk
theorem crash_nil (A1 A2 : Option Addr) (n1 c1 n2 c2 : Nat) (w : World) : Calls Try.prog 22 #[.pointer none, .slice A1 n1 c1, .slice A2 n2 c2] w fun e w' => e = .returned (.tuple #[]) ∧ Below w.heap.size w w' := by
  go_enter Try.func22, Try.ntmps22
  go_wp2
  first | go_end0 | ((try simp only [Exit.inBlock, Exit.then]); refine bodyPost_ret (results_none rfl _ _ _) rfl ?_)
  exact ⟨rfl, by repeat (first | (with_reducible first | exact Below.refl _ _ | apply below_alloc | apply pw_below_drewN | apply below_drew1) | exact Below.refl _ _)⟩
set_option maxHeartbeats 1000000 in
set_option maxRecDepth 100000 in
theorem crash_calls_ (hXb : ∀ k, X k → k < w.heap.size) (h : DParts w X d sb mb es clock safe D) (keep : List Int) (torn : List (Int × Int)) (A1 A2 : Option Addr) (c1 c2 : Nat) (hr1 : ∀ W', Kept w W' X → Kd.C (Kd.int .i64) W' A1 keep.length keep) (hr2 : ∀ W', Kept w W' X → KT.C W' A2 torn.length torn)
    (htw : ∀ t ∈ torn, -9223372036854775808 ≤ t.2 ∧ t.2 ≤ 9223372036854775807) :
    Calls Try.prog 22 #[.pointer (some ⟨d, 0, none⟩), .slice A1 keep.length c1, .slice A2 torn.length c2] w fun e w' => e = .returned (.tuple #[]) ∧ DAt w' X d (D.crashed keep torn) ∧ Frm X w w' := by
  have HD := Aside0.mk h; have HR1 := Aside0.mk hr1; have HR2 := Aside0.mk hr2; have HTW := Aside0.mk htw
  clear h hr1 hr2 htw
  have hblt : d < w.heap.size := blk_lt HD.out.hd
  have hslt : sb < w.heap.size := blk_lt HD.out.hs
  obtain ⟨W1, hW1⟩ : ∃ W, W = ((w.alloc (.cells #[.pointer (some ⟨d, 0, none⟩)] 27)).alloc (.cells #[.slice A1 keep.length c1] 23)).alloc (.cells #[.slice A2 torn.length c2] 24) := ⟨_, rfl⟩
  have hB1 : Below w.heap.size w W1 := by rw [hW1]; exact below_alloc (below_alloc (below_alloc (Below.refl _ _) _) _) _
  have x1 : W1.heap[w.heap.size]? = some (.cells #[.pointer (some ⟨d, 0, none⟩)] 27) := by rw [hW1]; exact blk_alloc (blk_alloc (blk_new w _) _) _
  have x2 : W1.heap[w.heap.size + 1]? = some (.cells #[.slice A1 keep.length c1] 23) := by
    have := blk_alloc (blk_new (w.alloc (.cells #[.pointer (some ⟨d, 0, none⟩)] 27)) (.cells #[.slice A1 keep.length c1] 23)) (.cells #[.slice A2 torn.length c2] 24)
    rw [World.size_alloc] at this; rw [hW1]; exact this
  have x3 : W1.heap[w.heap.size + 1 + 1]? = some (.cells #[.slice A2 torn.length c2] 24) := by
    have := blk_new ((w.alloc (.cells #[.pointer (some ⟨d, 0, none⟩)] 27)).alloc (.cells #[.slice A1 keep.length c1] 23)) (.cells #[.slice A2 torn.length c2] 24)
    rw [World.size_alloc, World.size_alloc] at this; rw [hW1]; exact this
  have HD1 := Aside0.mk (HD.out.frm (S := fun _ => False) (Frm.of_below hB1) (fun _ _ h => h))
  have HB1 := Aside0.mk hB1; have HX := Aside0.mk (And.intro x1 (And.intro x2 x3))
  clear hB1 x1 x2 x3
  go_enter Try.func22, Try.ntmps22
  go_wp2_with fail
  rw [← hW1]
  clear hW1
  refine (settle_calls HD1.out 64 #[.pointer (some ⟨w.heap.size + 1, 0, none⟩), .pointer (some ⟨w.heap.size, 0, none⟩), .pointer (some ⟨w.heap.size + 1 + 1, 0, none⟩)] (enters Try.func64 (by kernel_rfl) rfl) (keptOf keep torn D.size) (keptOf_le keep torn D.size) ?_).mono ?_
  · intro W n hF hn
    obtain ⟨x1, x2, x3⟩ := HX.out
    have hK : Kept w W X := ((Frm.of_below (S := X) HB1.out).then_ hF fun k hk => by subst hk; exact .inl HD.out.xs).kept
    have hb2 := HD.out.b2; have hb4 := HD.out.b4
    refine crash1_calls n (by omega) keep torn D.size hb4 A1 A2 c1 c2 _ _ _ d W (HR1.out W hK) (HR2.out W hK) ?_ ?_ ?_ ?_ HTW.out
    · exact (blk_cell (hF.blk x2 (fun e => by omega)) 0).trans rfl
    · exact (blk_cell (hF.blk x1 (fun e => by omega)) 0).trans rfl
    · exact (blk_cell (hF.blk x3 (fun e => by omega)) 0).trans rfl
    · exact (blk_cell (hF.blk HD1.out.hd HD1.out.nd) 1).trans rfl
  · rintro e w3 ⟨rfl, ⟨sb3, mb3, es3, clock3, safe3, hD3⟩, hf3⟩
    have x0 := hf3.blk HX.out.1 (fun hk => by have := hXb _ hk; omega)
    have p0 : w3.cell? ⟨w.heap.size, 0, none⟩ = some (.pointer (some ⟨d, 0, none⟩)) := (blk_cell x0 0).trans rfl
    obtain ⟨c0, k1, k2, k3, k4, k5, k6⟩ := hD3.cells
    have f5 := blk_frozen hD3.hd 5; have f6 := blk_frozen hD3.hd 6
    have HD3 := Aside0.mk hD3; have HF3 := Aside0.mk hf3
    have hne : ¬ w.heap.size = d := by omega
    have hne' : ¬ d = w.heap.size := by omega
    clear hD3 hf3 x0
    go_wp2_with fail
    go_region
    all_goals
      go_wp2_with fail
      first | go_end0 | ((try simp only [Exit.inBlock, Exit.then]); refine bodyPost_ret (results_none rfl _ _ _) rfl ?_)
      have hF : Frm (fun k => k = d) w3 (((w3.setCell ⟨d, 6, none⟩ (.bool false)).setCell ⟨d, 5, none⟩ (.int .i64 (-1))).drew) := ((Frm.cellD _ _ _ _).setD _ _).drew
      refine ⟨rfl, ⟨_, _, _, _, _, HD3.out.setD (D.crashed keep torn) rfl rfl rfl rfl (by simp [Dk.crashed]) hF ?_⟩, ((Frm.of_below (S := X) HB1.out).then_ HF3.out fun k hk => .inl hk).then_ hF fun k hk => by subst hk; exact .inl HD.out.xd⟩
      have := blk_set (blk_set HD3.out.hd 6 (.bool false)) 5 (.int .i64 (-1))
      exact this
theorem crash_calls (h : DParts w X d sb mb es clock safe D) (keep : List Int) (torn : List (Int × Int)) (A1 A2 : Option Addr) (c1 c2 : Nat) (hr1 : ∀ W', Kept w W' X → Kd.C (Kd.int .i64) W' A1 keep.length keep) (hr2 : ∀ W', Kept w W' X → KT.C W' A2 torn.length torn)
    (htw : ∀ t ∈ torn, -9223372036854775808 ≤ t.2 ∧ t.2 ≤ 9223372036854775807) :
    Calls Try.prog 22 #[.pointer (some ⟨d, 0, none⟩), .slice A1 keep.length c1, .slice A2 torn.length c2] w fun e w' => e = .returned (.tuple #[]) ∧ DAt w' X d (D.crashed keep torn) ∧ Frm X w w' := by
  refine (crash_calls_ (X := fun k => X k ∧ k < w.heap.size) (fun k hk => hk.2) h.bound keep torn A1 A2 c1 c2 (fun W' hk => hr1 W' (hk.mono fun k hk => hk.1)) (fun W' hk => hr2 W' (hk.mono fun k hk => hk.1)) htw).mono ?_
  rintro e w' ⟨rfl, h1, h2⟩
  exact ⟨rfl, h1.mono fun k hk => hk.1, h2.mono fun k hk => hk.1⟩
end Go.Proofs.YteimienhaodfcaaK
