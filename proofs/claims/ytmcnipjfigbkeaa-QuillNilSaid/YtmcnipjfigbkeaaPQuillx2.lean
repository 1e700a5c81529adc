-- Written by a program of this session (wip/myprint.py), which drives the kit's print; read and checked by Lean alone.
import Derived.Test.YtmcnipjfigbkeaaPQuillx0
import Derived.Test.YtmcnipjfigbkeaaPQuillx1
namespace Go.Proofs.Ytmcnipjfigbkeaa.PQuill
open Go.RowKit Go.Proofs.YtmcnipjfigbkeaaW.PrintWords Go.Proofs.YtmcnipjfigbkeaaW.PrintLast Go.Proofs.YtmcnipjfigbkeaaW.PrintMore
attribute [local go_sem] max2_int min2_int max_two min_two max_three min_three max_four min_four   -- for this text's walks alone
set_option linter.unusedVariables false
set_option linter.unusedSimpArgs false


/-! ### klaxonlaw01_QuillParts: function 9 -/
open Go.Proofs.YtmcnipjfigbkeaaK Go.Crc
theorem lit_rowsN (w : World) (T : Nat) (vs : List (Option Addr × Nat × Nat × List Int)) (hl : vs.length ≤ 9223372036854775807) (h : ∀ p ∈ vs, Kd.C (Kd.int .u8) w p.1 p.2.1 p.2.2.2 ∧ p.2.1 ≤ p.2.2.1) :
    Kd.C (Kd.slice 5 (Kd.int .u8)) (w.alloc (.cells (vs.map fun p => Value.slice p.1 p.2.1 p.2.2.1).toArray T)) (some ⟨w.heap.size, 0, none⟩) vs.length (vs.map (·.2.2.2)) := by
  have := lit_rows w T (vs.map fun p => (p.1, p.2.2.1, p.2.2.2)) (by simpa using hl) (by
    intro q hq
    obtain ⟨p, hp, rfl⟩ := List.mem_map.mp hq
    obtain ⟨h1, h2⟩ := h p hp
    have e := h1.1
    exact ⟨by show Kd.C _ _ _ p.2.2.2.length _; rw [e]; exact h1, by show p.2.2.2.length ≤ _; rw [e]; exact h2⟩)
  rw [List.map_map, List.map_map, List.length_map] at this
  have e : (vs.map fun p => Value.slice p.1 p.2.1 p.2.2.1) = vs.map ((fun p : Option Addr × Nat × List Int => Value.slice p.1 p.2.2.length p.2.1) ∘ fun p : Option Addr × Nat × Nat × List Int => (p.1, p.2.2.1, p.2.2.2)) := by
    refine List.map_congr_left fun p hp => ?_
    have := (h p hp).1.1
    simp [this]
  rw [e]
  exact this
theorem other_sum (p : List Int) (i : Nat) (y : Int) (hi : i < p.length) (hb : Bytes p) (hy : 0 ≤ y ∧ y < 256) : (crc (p.set i y) == crc p) = (y == rd p i) := by
  have hx := hb _ (rd_in p i hi)
  have e1 : p = p.take i ++ rd p i :: p.drop (i + 1) := by
    rw [← rd_drop p i hi, List.take_append_drop]
  have e2 : p.set i y = p.take i ++ y :: p.drop (i + 1) := List.set_eq_take_append_cons_drop.trans (by rw [if_pos hi])
  by_cases h : y = rd p i
  · have : p.set i y = p := by rw [e2, h]; exact e1.symm
    rw [this, h]; simp
  · have hn : ¬ crc (p.set i y) = crc p := by
      intro hc
      apply h
      have hs : sum (nat (p.set i y)) = sum (nat p) := by
        have : ((sum (nat (p.set i y)) : Nat) : Int) = ((sum (nat p) : Nat) : Int) := hc
        omega
      rw [e2] at hs
      rw [e1] at hs
      unfold nat at hs
      rw [List.map_append, List.map_append, List.map_cons, List.map_cons] at hs
      have e3 : (p.take i ++ rd p i :: p.drop (i + 1)).take i = p.take i := by rw [← e1]
      have e4 : (p.take i ++ rd p i :: p.drop (i + 1)).drop (i + 1) = p.drop (i + 1) := by rw [← e1]
      have e5 : rd (p.take i ++ rd p i :: p.drop (i + 1)) i = rd p i := by rw [← e1]
      rw [e3, e4] at hs
      have := sum_other _ _ _ _ (by omega) (by omega) hs
      omega
    rw [show (crc (p.set i y) == crc p) = false by simpa using hn, show (y == rd p i) = false by simpa using h]
set_option maxHeartbeats 4000000 in
set_option maxRecDepth 100000 in
theorem parts_law (A : Option Addr) (c : Nat) (p : List Int) (cut at_ by_ : Int) (w : World) (hr : Kd.C (Kd.int .u8) w A p.length p) (hc : p.length ≤ c) (hb : Bytes p) (hy : 0 ≤ by_ ∧ by_ < 256) : Calls Try.prog 9 #[.slice A p.length c, .int .i64 cut, .int .i64 at_, .int .u8 by_] w fun e w' => e = .returned (.bool true) ∧ Below w.heap.size w w' := by
  have HR := Aside0.mk hr; have HB := Aside0.mk hb
  have hlm : p.length ≤ 9223372036854775807 := hr.2.1
  clear hr hb
  go_enter Try.func9, Try.ntmps9
  by_cases h1 : 20000 < (p.length : Int)
  · have d1 : decide (20000 < (p.length : Int)) = true := decide_eq_true h1
    go_wp2_with fail
    refine (klaxonlaw01_live.calls true _ rfl).mono ?_
    rintro e w4 ⟨rfl, hb⟩
    have HBX := Aside0.mk (below_step (by repeat (first | (with_reducible first | exact Below.refl _ _ | apply below_alloc | apply pw_below_drewN | apply below_drew1) | exact Below.refl w.heap.size w)) hb)
    clear hb
    go_wp2_with fail
    go_ret
    exact ⟨rfl, HBX.out⟩
  have d1 : decide (20000 < (p.length : Int)) = false := decide_eq_false h1
  by_cases h2 : cut < 0
  · have d2 : decide (cut < 0) = true := decide_eq_true h2
    go_wp2_with fail
    refine (klaxonlaw01_live.calls true _ rfl).mono ?_
    rintro e w4 ⟨rfl, hb⟩
    have HBX := Aside0.mk (below_step (by repeat (first | (with_reducible first | exact Below.refl _ _ | apply below_alloc | apply pw_below_drewN | apply below_drew1) | exact Below.refl w.heap.size w)) hb)
    clear hb
    go_wp2_with fail
    go_ret
    exact ⟨rfl, HBX.out⟩
  have d2 : decide (cut < 0) = false := decide_eq_false h2
  by_cases h3 : (p.length : Int) < cut
  · have d3 : decide ((p.length : Int) < cut) = true := decide_eq_true h3
    go_wp2_with fail
    refine (klaxonlaw01_live.calls true _ rfl).mono ?_
    rintro e w4 ⟨rfl, hb⟩
    have HBX := Aside0.mk (below_step (by repeat (first | (with_reducible first | exact Below.refl _ _ | apply below_alloc | apply pw_below_drewN | apply below_drew1) | exact Below.refl w.heap.size w)) hb)
    clear hb
    go_wp2_with fail
    go_ret
    exact ⟨rfl, HBX.out⟩
  have d3 : decide ((p.length : Int) < cut) = false := decide_eq_false h3
  obtain ⟨m, rfl⟩ : ∃ m : Nat, cut = m := ⟨cut.toNat, by omega⟩
  go_wp2_with fail
  have hm1 := Aside0.mk (lit_rowsN w 50 [(A, p.length, c, p)] (by simp) (fun q hq => by rw [List.mem_singleton.mp hq]; exact ⟨HR.out, hc⟩))
  refine (mark_calls _ 1 1 _ _ hm1.out (by decide) rfl (fun l hl => by rw [show l = p by simpa using hl]; exact HB.out)).mono ?_
  rintro e w1 ⟨rfl, ⟨n1, rfl⟩⟩
  simp only [List.map_cons, List.map_nil, List.flatten_cons, List.flatten_nil, List.append_nil]
  have hm : m ≤ p.length := by omega
  have hcm : (m : Int) ≤ (c : Int) := by omega
  have rows2 : ∀ (A' : Option Addr) (W : World) (g : Nat), W.heap.size = g → Kd.C (Kd.int .u8) W A m (p.take m) → Kd.C (Kd.int .u8) W A' (p.length - m) (p.drop m) → Kd.C (Kd.slice 5 (Kd.int .u8)) (W.alloc (.cells #[.slice A m c, .slice A' (p.length - m) (c - m)] 50)) (some ⟨g, 0, none⟩) 2 [p.take m, p.drop m] := by
    intro A' W g hg h1 h2
    subst hg
    refine lit_rowsN W 50 [(A, m, c, p.take m), (A', p.length - m, c - m, p.drop m)] (by simp) (fun q hq => ?_)
    rcases List.mem_cons.mp hq with rfl | hq
    · exact ⟨h1, by dsimp only; omega⟩
    · rw [List.mem_singleton.mp hq]; exact ⟨h2, by dsimp only; omega⟩
  have rows3 : ∀ (W : World) (g : Nat), W.heap.size = g → Kd.C (Kd.int .u8) W A p.length p → Kd.C (Kd.slice 5 (Kd.int .u8)) (W.alloc (.cells #[.slice none 0 0, .slice A p.length c, .slice none 0 0] 50)) (some ⟨g, 0, none⟩) 3 [[], p, []] := by
    intro W g hg h1
    subst hg
    have h0 : Kd.C (Kd.int .u8) W none 0 [] := ⟨rfl, by decide, fun h => absurd h (by decide)⟩
    refine lit_rowsN W 50 [(none, 0, 0, []), (A, p.length, c, p), (none, 0, 0, [])] (by simp) (fun q hq => ?_)
    rcases List.mem_cons.mp hq with rfl | hq
    · exact ⟨h0, Nat.le_refl _⟩
    · rcases List.mem_cons.mp hq with rfl | hq
      · exact ⟨h1, hc⟩
      · rw [List.mem_singleton.mp hq]; exact ⟨h0, Nat.le_refl _⟩
  have hT : Kd.C (Kd.int .u8) w A m (p.take m) := by
    have := Kd.C_take (m := m) HR.out hm
    rwa [List.length_take, Nat.min_eq_left hm] at this
  have hD : Kd.C (Kd.int .u8) w (if c = m then A else A.map (·.add m)) (p.length - m) (p.drop m) := by
    have := Kd.C_drop (m := m) HR.out hm hc
    rw [List.length_drop, show m * (Kd.int .u8).sz = m from Nat.mul_one m] at this
    exact this
  have hb2 : ∀ l ∈ [p.take m, p.drop m], Bytes l := by
    intro l hl
    rcases List.mem_cons.mp hl with rfl | hl
    · exact fun x hx => HB.out x (List.mem_of_mem_take hx)
    · rw [List.mem_singleton.mp hl]; exact fun x hx => HB.out x (List.mem_of_mem_drop hx)
  have hb3 : ∀ l ∈ [[], p, []], Bytes l := by
    intro l hl
    rcases List.mem_cons.mp hl with rfl | hl
    · exact fun x hx => by simp at hx
    · rcases List.mem_cons.mp hl with rfl | hl
      · exact HB.out
      · rw [List.mem_singleton.mp hl]; exact fun x hx => by simp at hx
  have R2 := Aside0.mk rows2; have R3 := Aside0.mk rows3; have HT := Aside0.mk hT; have HD := Aside0.mk hD; have B2 := Aside0.mk hb2; have B3 := Aside0.mk hb3
  clear rows2 rows3 hT hD hb2 hb3
  go_upto_region 4 with (fail)
  go_cut [44] from 28 (fun s44 wx => s44 = .bool false ∧ Below w.heap.size w wx)
  case first =>
    by_cases hcc : c = m
    · have HD2 := HD.out
      rw [if_pos hcc] at HD2
      have hcc' := hcc.symm
      clear hcc
      subst hcc'
      have HD := Aside0.mk HD2
      clear HD2
      have M2 := R2.out (A) ((w.alloc (Obj.cells #[Value.slice A p.length m] 50)).drewN (n1 + 1)) (w.heap.size + 1) (by simp) (Kd.C_drewN (Kd.C_alloc HT.out _) _) (Kd.C_drewN (Kd.C_alloc HD.out _) _)
      rw [Nat.sub_self, show p.length - m = 0 by omega] at M2
      have T2 := mark_calls _ 2 2 _ _ M2 (by decide) (by rfl) B2.out
      rw [show [List.take m p, List.drop m p].flatten = p by simp] at T2
      have T3 := fun n2 : Nat => mark_calls _ 3 3 _ _ (R3.out ((((w.alloc (Obj.cells #[Value.slice A p.length m] 50)).drewN (n1 + 1)).alloc (Obj.cells #[Value.slice A m m, Value.slice A 0 0] 50)).drewN n2) (w.heap.size + 1 + 1) (by simp) (Kd.C_drewN (Kd.C_alloc (Kd.C_drewN (Kd.C_alloc HR.out _) _) _) _)) (by decide) (by rfl) B3.out
      rw [show [([] : List Int), p, []].flatten = p by simp] at T3
      have T2 := Aside0.mk T2
      have T3 := Aside0.mk T3
      clear M2
      go_region_with (first | (go_at_call 37; (with_reducible refine T2.out.mono ?_); rintro e w2 ⟨rfl, ⟨n2, rfl⟩⟩) | (go_at_call 37; (with_reducible refine (T3.out _).mono ?_); rintro e w2 ⟨rfl, ⟨n3, rfl⟩⟩))
      all_goals (go_wp2_with fail; go_meet; exact ⟨rfl, by repeat (first | (with_reducible first | exact Below.refl _ _ | apply below_alloc | apply pw_below_drewN | apply below_drew1) | exact Below.refl _ _)⟩)
    · have HD2 := HD.out
      rw [if_neg hcc] at HD2
      have HD := Aside0.mk HD2
      clear HD2
      have M2 := R2.out (Option.map (fun x => x.add m) A) ((w.alloc (Obj.cells #[Value.slice A p.length c] 50)).drewN (n1 + 1)) (w.heap.size + 1) (by simp) (Kd.C_drewN (Kd.C_alloc HT.out _) _) (Kd.C_drewN (Kd.C_alloc HD.out _) _)
      have T2 := mark_calls _ 2 2 _ _ M2 (by decide) (by rfl) B2.out
      rw [show [List.take m p, List.drop m p].flatten = p by simp] at T2
      have T3 := fun n2 : Nat => mark_calls _ 3 3 _ _ (R3.out ((((w.alloc (Obj.cells #[Value.slice A p.length c] 50)).drewN (n1 + 1)).alloc (Obj.cells #[Value.slice A m c, Value.slice (Option.map (fun x => x.add m) A) (p.length - m) (c - m)] 50)).drewN n2) (w.heap.size + 1 + 1) (by simp) (Kd.C_drewN (Kd.C_alloc (Kd.C_drewN (Kd.C_alloc HR.out _) _) _) _)) (by decide) (by rfl) B3.out
      rw [show [([] : List Int), p, []].flatten = p by simp] at T3
      have T2 := Aside0.mk T2
      have T3 := Aside0.mk T3
      clear M2
      go_region_with (first | (go_at_call 37; (with_reducible refine T2.out.mono ?_); rintro e w2 ⟨rfl, ⟨n2, rfl⟩⟩) | (go_at_call 37; (with_reducible refine (T3.out _).mono ?_); rintro e w2 ⟨rfl, ⟨n3, rfl⟩⟩))
      all_goals (go_wp2_with fail; go_meet; exact ⟨rfl, by repeat (first | (with_reducible first | exact Below.refl _ _ | apply below_alloc | apply pw_below_drewN | apply below_drew1) | exact Below.refl _ _)⟩)
  case rest =>
    obtain ⟨rfl, hbw⟩ := hcut
    have HR2 := Aside0.mk (Kd.C_below HR.out hbw); have HBW := Aside0.mk hbw
    clear hbw hm1 R2 R3 HT HD B2 B3 HR
    by_cases h4 : at_ < 0
    · have d4 : decide (at_ < 0) = true := decide_eq_true h4
      go_wp2_with fail
      refine (klaxonlaw01_live.calls true _ rfl).mono ?_
      rintro e w4 ⟨rfl, hb⟩
      have HBX := Aside0.mk (below_step HBW.out hb)
      clear hb
      go_wp2_with fail
      go_ret
      exact ⟨rfl, HBX.out⟩
    have d4 : decide (at_ < 0) = false := decide_eq_false h4
    by_cases h5 : (p.length : Int) ≤ at_
    · have d5 : decide ((p.length : Int) ≤ at_) = true := decide_eq_true h5
      go_wp2_with fail
      refine (klaxonlaw01_live.calls true _ rfl).mono ?_
      rintro e w4 ⟨rfl, hb⟩
      have HBX := Aside0.mk (below_step HBW.out hb)
      clear hb
      go_wp2_with fail
      go_ret
      exact ⟨rfl, HBX.out⟩
    have d5 : decide ((p.length : Int) ≤ at_) = false := decide_eq_false h5
    obtain ⟨i, rfl⟩ : ∃ i : Nat, at_ = i := ⟨at_.toNat, by omega⟩
    have hi : i < p.length := by omega
    obtain ⟨ad, rfl, hrd0⟩ := HR2.out.2.2 (by omega)
    clear hrd0
    have h0i : (0 : Int) ≤ (i : Int) := by omega
    have hli : (i : Int) < (p.length : Int) := by omega
    have htn : ((i : Int)).toNat = i := by omega
    have hpl : 0 < p.length := by omega
    have HO : Aside0 (Kd.R (Kd.int .u8) 5 (wc.alloc (.cells #[] 5)) wc.heap.size (fun _ => True) (.slice (some ⟨wc.heap.size, 0, none⟩) 0 0) []) := ⟨⟨fun _ _ => trivial, [], ⟨rfl, .inr ⟨wc.heap.size, 0, #[], rfl, Nat.le_refl _, blk_new wc _, Nat.le_refl _, by simp [maxLen], rfl, rfl⟩⟩, Reps.none _ _⟩⟩
    have HR3 := Aside0.mk (Kd.C_alloc HR2.out (.cells #[] 5))
    have HB3 := Aside0.mk (below_alloc (Below.refl wc.heap.size wc) (.cells #[] 5))
    go_wp2_with ((with_reducible refine gate_builtin (b := .append) (xs := #[.tmp 54, .tmp 55]) rfl ?_); at_builtin; refine Kd.R_append_rows (Kd.int .u8) (Rr := fun (x : Int) (c : List Value) => c = [.int .u8 x]) (w0 := wc) wc.heap.size rfl (.tmp 54) (.tmp 55) 50 5 (.int .u8 0) 1 rfl Try.underlying50 info_u8 rfl (by decide) (by omega) (.slice (some ⟨wc.heap.size, 0, none⟩) 0 0) [] p (some ad) p.length c (fun _ => True) (fun _ => False) rfl rfl ?HO HR3.out (fun _ _ h => h) (fun _ hk => hk.elim) (fun _ _ => trivial) ?HB ?hbase ?hl ?_; (case HO => exact HO.out); (case HB => exact HB3.out); (case hbase => exact HB3.out.size); (case hl => simp; omega); intro v1 w4 hr hb hg hat; rw [List.nil_append] at hr; obtain ⟨g, cap, rfl, gb, gl, cells, HG⟩ := Kd.R_form hr hpl; obtain ⟨hx, hf⟩ := Kd.R_celln 0 hr (i : Int) h0i hli; have HP := Kd.R_putg hr (i : Int) by_; rw [htn] at hx hf HP; have HPA := Aside0.mk HP; have HB4 := Aside0.mk hb; clear HP hr hb hg hat HG)
    obtain ⟨W5, hW5⟩ : ∃ W5, W5 = w4.setCell ⟨g, i, none⟩ (.int .u8 by_) := ⟨_, rfl⟩
    rw [← hW5]
    have hq : Kd.R (Kd.int .u8) 5 W5 wc.heap.size (fun _ => True) (.slice (some ⟨g, 0, none⟩) p.length cap) (p.set i by_) := by rw [hW5]; exact HPA.out.1
    have hb5 : Below wc.heap.size wc W5 := by rw [hW5]; exact below_set HB4.out gb
    have hp5 := Kd.C_below HR2.out hb5
    obtain ⟨e1, hcap, hC5⟩ := Kd.R_reads' hq
    have hp6 := Kd.C_alloc hp5 (Obj.cells #[Value.slice (some ⟨g, 0, none⟩) p.length cap] 50)
    obtain ⟨ad2, e2, hx2⟩ := Kd.at_int hp6 (i : Int) h0i hli
    obtain rfl := Option.some.inj e2
    obtain ⟨ad3, e3, hx3⟩ := Kd.at_int hp5 (i : Int) h0i hli
    obtain rfl := Option.some.inj e3
    rw [show ((i : Int)).toNat = i by omega] at hx2 hx3
    rw [← e1] at hC5
    have hby5 : Bytes (p.set i by_) := by
      intro x hx
      rcases List.mem_or_eq_of_mem_set hx with hx | rfl
      · exact HB.out x hx
      · exact hy
    have M5 := mark_calls (some ⟨W5.heap.size, 0, none⟩) 1 1 [p.set i by_] (W5.alloc (Obj.cells #[Value.slice (some ⟨g, 0, none⟩) p.length cap] 50)).drew (Kd.C_drew (lit_rowsN W5 50 [(some ⟨g, 0, none⟩, p.length, cap, p.set i by_)] (by simp) (fun q hq => by rw [List.mem_singleton.mp hq]; exact ⟨hC5, by dsimp only; omega⟩))) (by decide) (by rfl) (fun l hl => by rw [List.mem_singleton.mp hl]; exact hby5)
    rw [show [p.set i by_].flatten = p.set i by_ by simp] at M5
    have hsum := other_sum p i by_ hi HB.out hy
    have HB5 := Aside0.mk (below_step HBW.out hb5)
    obtain ⟨x, hxx⟩ : ∃ x, crc (p.set i by_) = x := ⟨_, rfl⟩
    obtain ⟨y, hyy⟩ : ∃ y, rd p i = y := ⟨_, rfl⟩
    rw [hxx] at M5 hsum
    rw [hyy] at hsum hx2 hx3
    have hfin : ((x == crc p) == (by_ == y)) = true := by rw [hsum]; simp
    have M5 := Aside0.mk M5
    clear hq hb5 hp5 hp6 hC5 hcap hW5 hx hf e1 hby5 hsum hxx hyy HR2 HR3 HB3 HPA HB4 hpl
    go_region_with (first | (go_at_call 37; (with_reducible refine M5.out.mono ?_); rintro e w6 ⟨rfl, ⟨n6, rfl⟩⟩) | (go_at_call 28; refine (klaxonlaw01_live.calls true _ rfl).mono ?_; rintro e w7 ⟨rfl, hb7⟩))
    all_goals (go_wp2_with fail; go_ret; exact ⟨rfl, below_step (by repeat (first | (with_reducible first | exact HB5.out | apply below_alloc | apply pw_below_drewN | apply below_drew1) | exact HB5.out)) hb7⟩)
def klaxonlaw01_QuillParts.f (l0 : List Int) (a1 : Int) (a2 : Int) (a3 : Int) : Option Bool := if Go.Crc.bytesB l0 = true ∧ 0 ≤ a3 ∧ a3 < 256 then some true else none
theorem klaxonlaw01_QuillParts.calls (A0 : Option Addr) (c0 : Nat) (l0 : List Int) (a1 : Int) (a2 : Int) (a3 : Int) (r : Bool) (w : World) (hr0 : Kd.C (Kd.int .u8) w A0 l0.length l0) (hc0 : l0.length ≤ c0) (h : klaxonlaw01_QuillParts.f l0 a1 a2 a3 = some r) :
    Calls Try.prog 9 #[.slice A0 l0.length c0, .int .i64 a1, .int .i64 a2, .int .u8 a3] w fun e w' => e = .returned (.bool r) ∧ Below w.heap.size w w' := by
  unfold klaxonlaw01_QuillParts.f at h
  by_cases hc : Go.Crc.bytesB l0 = true ∧ 0 ≤ a3 ∧ a3 < 256
  · rw [if_pos hc] at h
    obtain rfl : true = r := Option.some.inj h
    exact parts_law A0 c0 l0 a1 a2 a3 w hr0 hc0 (Go.Crc.bytesB_ok hc.1) hc.2
  · rw [if_neg hc] at h; cases h

/-! ### klaxonlaw01_texts: function 38 -/
mutual
def klaxonlaw01_texts.l0 : Nat → List ByteArray → Int → Int → Option (Bool)
  | 0, _, _, _ => none
  | k + 1, x0, x3, x4 => if x4 < (x0.length : Int) then (klaxonlaw01_texts.j1 k x0 x3 x4 (decide (x4 ≤ 60))) else (klaxonlaw01_texts.j1 k x0 x3 x4 false)
def klaxonlaw01_texts.j1 : Nat → List ByteArray → Int → Int → Bool → Option (Bool)
  | 0, _, _, _, _ => none
  | k + 1, x0, x3, x4, x12 => if x12 = true then (if 0 ≤ x4 then (if x4 < (x0.length : Int) then (klaxonlaw01_texts.l0 k x0 (wrap64 (x3 + ((rdOf ByteArray.empty x0 x4).size : Int))) (wrap64 (x4 + 1))) else (none)) else (none)) else (if (x0.length : Int) ≤ 60 then (some (decide (x3 ≤ 20000))) else (some false))
end
def klaxonlaw01_texts.f (k : Nat) (l0 : List ByteArray) : Option (Bool) := klaxonlaw01_texts.l0 k l0 0 0
theorem klaxonlaw01_texts.mono_l : ∀ k, (∀ y0 y1 y2, LeO (klaxonlaw01_texts.l0 k y0 y1 y2) (klaxonlaw01_texts.l0 (k + 1) y0 y1 y2)) ∧ (∀ y0 y1 y2 y3, LeO (klaxonlaw01_texts.j1 k y0 y1 y2 y3) (klaxonlaw01_texts.j1 (k + 1) y0 y1 y2 y3))
  | 0 => ⟨fun _ _ _ r h => by simp [klaxonlaw01_texts.l0] at h, fun _ _ _ _ r h => by simp [klaxonlaw01_texts.j1] at h⟩
  | k + 1 => by
    obtain ⟨ih0, ih1⟩ := klaxonlaw01_texts.mono_l k
    refine ⟨?_, ?_⟩
    · intro y0 y1 y2
      unfold klaxonlaw01_texts.l0
      repeat' first
      | (with_reducible exact ih0 _ _ _)
      | (with_reducible exact ih1 _ _ _ _)
      | (with_reducible exact LeO.refl _)
      | (with_reducible exact LeO.none _)
      | (with_reducible refine LeO.ite ?_ ?_)
      | (with_reducible refine LeO.bind ?_ (fun _ => ?_))
      | exact ih0 _ _ _
      | exact ih1 _ _ _ _
      | exact LeO.none _
      | refine LeO.ite ?_ ?_
      | refine LeO.bind ?_ (fun _ => ?_)
    · intro y0 y1 y2 y3
      unfold klaxonlaw01_texts.j1
      repeat' first
      | (with_reducible exact ih0 _ _ _)
      | (with_reducible exact ih1 _ _ _ _)
      | (with_reducible exact LeO.refl _)
      | (with_reducible exact LeO.none _)
      | (with_reducible refine LeO.ite ?_ ?_)
      | (with_reducible refine LeO.bind ?_ (fun _ => ?_))
      | exact ih0 _ _ _
      | exact ih1 _ _ _ _
      | exact LeO.none _
      | refine LeO.ite ?_ ?_
      | refine LeO.bind ?_ (fun _ => ?_)
theorem klaxonlaw01_texts.mono : ∀ a0 k, LeO (klaxonlaw01_texts.f k a0) (klaxonlaw01_texts.f (k + 1) a0) := by
  intro a0 k
  obtain ⟨ih0, ih1⟩ := klaxonlaw01_texts.mono_l k
  unfold klaxonlaw01_texts.f
  repeat' first
      | (with_reducible exact ih0 _ _ _)
      | (with_reducible exact ih1 _ _ _ _)
      | (with_reducible exact LeO.refl _)
      | (with_reducible exact LeO.none _)
      | (with_reducible refine LeO.ite ?_ ?_)
      | (with_reducible refine LeO.bind ?_ (fun _ => ?_))
      | exact ih0 _ _ _
      | exact ih1 _ _ _ _
      | exact LeO.none _
      | refine LeO.ite ?_ ?_
      | refine LeO.bind ?_ (fun _ => ?_)
set_option maxHeartbeats 8000000 in
set_option maxRecDepth 100000 in
theorem klaxonlaw01_texts.calls (k : Nat) (A0 : Option Addr) (c0 : Nat) (l0 : List ByteArray) (r : Bool) (w : World) (hr0 : Kd.C Kd.string w A0 l0.length l0) (hc0 : l0.length ≤ c0) (h : klaxonlaw01_texts.f k l0 = some r) :
    Calls Try.prog 38 #[.slice A0 l0.length c0] w fun e w' => e = .returned (.bool r) ∧ Drawn0 w w' := by
  have HR0 := Aside0.mk hr0
  have HC0 := Aside0.mk hc0
  clear hr0 hc0
  have H : (klaxonlaw01_texts.l0 k l0 0 0) = some r := h
  clear h
  have H' := Aside0.mk H
  clear H
  go_enter Try.func38, Try.ntmps38
  go_wp2
  go_loopg [3, 4] k (fun kq v3 v4 w' => ∃ (x3_1 : Int) (x4_1 : Int), v3 = .int .i64 x3_1 ∧ v4 = .int .i64 x4_1 ∧ Aside0 (klaxonlaw01_texts.l0 kq l0 x3_1 x4_1 = some r) ∧ Aside0 (kq ≤ k) ∧ Drawn0 w w')
  case atStart => exact ⟨(0), (0), (by first | rfl | (simp; done) | (simp [*]; done)), (by first | rfl | (simp; done) | (simp [*]; done)), H', ⟨Nat.le_refl _⟩, by repeat (first | exact Drawn0.refl _ | apply Drawn0.step)⟩
  case round =>
    clear H'
    obtain ⟨x3_1, x4_1, rfl, rfl, HA, HK1, ⟨m1, rfl⟩⟩ := hrel
    cases gk with
    | zero => exact absurd HA.out (by simp [klaxonlaw01_texts.l0])
    | succ k1 =>
      have H := HA.out
      clear HA
      simp only [klaxonlaw01_texts.l0] at H
      have HC2 := Aside0.mk H
      clear H
      go_upto_region 3 with (fail)
      go_cut [12] (fun v12 wc => ∃ (kq : Nat) (x12_1 : Bool), v12 = .bool x12_1 ∧ Aside0 (klaxonlaw01_texts.j1 kq l0 x3_1 x4_1 x12_1 = some r) ∧ Aside0 (kq ≤ k1) ∧ Drawn0 w wc)
      case first =>
        have H := HC2.out
        clear HC2
        by_cases c3 : x4_1 < (l0.length : Int)
        · rw [if_pos c3] at H
          have c3b0 : decide (x4_1 < (l0.length : Int)) = true := decide_eq_true c3
          clear c3
          (first | rw [c3b0] | (simp only [i64_w, i32_w]; rw [c3b0]) | skip)
          have H' := Aside0.mk H
          clear H
          go_wp2
          go_meet
          case rel => exact ⟨_, (decide (x4_1 ≤ 60)), (by first | rfl | (simp; done) | (simp [*]; done)), H', ⟨by have := HK1.out; first | omega | exact Nat.le_refl _⟩, by repeat (first | exact Drawn0.refl _ | apply Drawn0.step)⟩
        · rw [if_neg c3] at H
          have c3b0 : decide (x4_1 < (l0.length : Int)) = false := decide_eq_false c3
          clear c3
          (first | rw [c3b0] | (simp only [i64_w, i32_w]; rw [c3b0]) | skip)
          have H' := Aside0.mk H
          clear H
          go_wp2
          go_meet
          case rel => exact ⟨_, (false), (by first | rfl | (simp; done) | (simp [*]; done)), H', ⟨by have := HK1.out; first | omega | exact Nat.le_refl _⟩, by repeat (first | exact Drawn0.refl _ | apply Drawn0.step)⟩
      case rest =>
        clear HC2
        try clear p2
        try clear c3
        try clear c3b0
        obtain ⟨kq, x12_1, rfl, HA, HJ1, ⟨mc1, rfl⟩⟩ := hcut
        cases kq with
        | zero => exact absurd HA.out (by simp [klaxonlaw01_texts.j1])
        | succ kj1 =>
          have H := HA.out
          clear HA
          simp only [klaxonlaw01_texts.j1] at H
          by_cases c4 : x12_1 = true
          · subst c4
            have H1 : (if 0 ≤ x4_1 then (if x4_1 < (l0.length : Int) then (klaxonlaw01_texts.l0 kj1 l0 (wrap64 (x3_1 + ((rdOf ByteArray.empty l0 x4_1).size : Int))) (wrap64 (x4_1 + 1))) else (none)) else (none)) = some r := by rw [if_pos rfl] at H; exact H
            clear H
            have H := H1
            clear H1
            by_cases c5 : 0 ≤ x4_1
            · rw [if_pos c5] at H
              have c5b0 : decide (0 ≤ x4_1) = true := decide_eq_true c5
              clear c5
              by_cases c6 : x4_1 < (l0.length : Int)
              · rw [if_pos c6] at H
                have c6b0 : decide (x4_1 < (l0.length : Int)) = true := decide_eq_true c6
                clear c6
                have H' := Aside0.mk H
                clear H
                have p221 : 0 ≤ (x4_1 : Int) := of_decide_eq_true (by first | (with_reducible assumption) | assumption)
                have q221 : x4_1 < (l0.length : Int) := of_decide_eq_true (by first | (with_reducible assumption) | assumption)
                obtain ⟨ad221, e221, hx221_0⟩ := Kd.at_string HR0.out x4_1 p221 q221
                cases e221
                replace p221 := eq_true p221
                replace q221 := eq_true q221
                go_wp2
                go_roundg kj1
                case measure => have := HK1.out; have := HJ1.out; omega
                case rel => exact ⟨(wrap64 (x3_1 + ((rdOf ByteArray.empty l0 x4_1).size : Int))), (wrap64 (x4_1 + 1)), (by first | rfl | (simp; done) | (simp [*]; done)), (by first | rfl | (simp; done) | (simp [*]; done)), H', ⟨by have := HK1.out; have := HJ1.out; omega⟩, by repeat (first | exact Drawn0.refl _ | apply Drawn0.step)⟩
              · rw [if_neg c6] at H
                exact absurd H (by simp)
            · rw [if_neg c5] at H
              exact absurd H (by simp)
          · replace c4 := Bool.eq_false_iff.mpr c4
            subst c4
            have H1 : (if (l0.length : Int) ≤ 60 then (some (decide (x3_1 ≤ 20000))) else (some false)) = some r := by rw [if_neg (show ¬ (false = true) by decide)] at H; exact H
            clear H
            have H := H1
            clear H1
            by_cases c7 : (l0.length : Int) ≤ 60
            · rw [if_pos c7] at H
              have c7b0 : decide ((l0.length : Int) ≤ 60) = true := decide_eq_true c7
              have c7b1 : decide (l0.length ≤ 60) = true := decide_eq_true (by omega)
              clear c7
              obtain rfl := Option.some.inj H
              go_wp2
              go_ret
              exact ⟨by first | rfl | (simp; done) | (simp [*]; done), by repeat (first | exact Drawn0.refl _ | apply Drawn0.step)⟩
            · rw [if_neg c7] at H
              have c7b0 : decide ((l0.length : Int) ≤ 60) = false := decide_eq_false c7
              have c7b1 : decide (l0.length ≤ 60) = false := decide_eq_false (by omega)
              clear c7
              obtain rfl := Option.some.inj H
              go_wp2
              go_ret
              exact ⟨by first | rfl | (simp; done) | (simp [*]; done), by repeat (first | exact Drawn0.refl _ | apply Drawn0.step)⟩

/-! ### klaxonref01_high: function 65 -/
def klaxonref01_high.f : Nat → List Int → Int → Option (List Int)
  | 0, _, _ => none
  | k + 1, l0, a1 => if a1 ≥ 128 then ((klaxonref01_high.f k l0 (IntKind.u64.wrap (Int.tdiv a1 128))).bind fun t222 => (if t222.length < 140737488355328 then (some (t222 ++ [((Int.tmod a1 128) + 128) % 256])) else (none))) else (if l0.length < 140737488355328 then (some (l0 ++ [((Int.tmod a1 128) + 128) % 256])) else (none))
theorem klaxonref01_high.mono_l : ∀ k, (∀ y0 y1, LeO (klaxonref01_high.f k y0 y1) (klaxonref01_high.f (k + 1) y0 y1))
  | 0 => fun _ _ r h => by simp [klaxonref01_high.f] at h
  | k + 1 => by
    have ih0 := klaxonref01_high.mono_l k
    · intro y0 y1
      unfold klaxonref01_high.f
      repeat' first
      | (with_reducible exact ih0 _ _)
      | (with_reducible exact LeO.refl _)
      | (with_reducible exact LeO.none _)
      | (with_reducible refine LeO.ite ?_ ?_)
      | (with_reducible refine LeO.bind ?_ (fun _ => ?_))
      | exact ih0 _ _
      | exact LeO.none _
      | refine LeO.ite ?_ ?_
      | refine LeO.bind ?_ (fun _ => ?_)
theorem klaxonref01_high.mono : ∀ a0 a1 k, LeO (klaxonref01_high.f k a0 a1) (klaxonref01_high.f (k + 1) a0 a1) := by
  intro a0 a1 k
  have ih0 := klaxonref01_high.mono_l k
  exact ih0 a0 a1
set_option maxHeartbeats 8000000 in
set_option maxRecDepth 100000 in
theorem klaxonref01_high.calls (k : Nat) : ∀ (P0_ : Nat → Prop) (u9000_ : Value) (l0 : List Int) (a1 : Int) (r : List Int) (w0 w : World) (hB : Below w0.heap.size w0 w) (ho0 : Kd.R (Kd.int .u8) 5 w w0.heap.size P0_ u9000_ l0) (h : klaxonref01_high.f k l0 a1 = some r),
    Calls Try.prog 65 #[u9000_, .int .u64 a1] w fun e w' => ∃ v0_ : Value, e = .returned (v0_) ∧ Kd.R (Kd.int .u8) 5 w' w0.heap.size (fun k_ => (P0_ k_ ∨ w.heap.size ≤ k_)) v0_ r ∧ Below w0.heap.size w0 w' ∧ Kept w w' (fun k_ => P0_ k_) := by
  induction k using Nat.strongRecOn with
  | _ k ih =>
  intro P0_ u9000_ l0 a1 r w0 w hB ho0 h
  cases k with
  | zero => exact absurd h (by simp [klaxonref01_high.f])
  | succ k =>
  simp only [klaxonref01_high.f] at h
  have HO0 := Aside0.mk (show Kd.R (Kd.int .u8) 5 w w0.heap.size (fun k_ => (P0_ k_ ∨ w.heap.size ≤ k_)) u9000_ l0 from Kd.R_mono ho0 (fun k_ hk => (.inl hk)))
  have HK := Aside0.mk (Kept.refl w (fun k_ => P0_ k_))
  have HW0 := Aside0.mk hB.size
  have HB := Aside0.mk hB
  clear hB
  have H : (if a1 ≥ 128 then ((klaxonref01_high.f k l0 (IntKind.u64.wrap (Int.tdiv a1 128))).bind fun t222 => (if t222.length < 140737488355328 then (some (t222 ++ [((Int.tmod a1 128) + 128) % 256])) else (none))) else (if l0.length < 140737488355328 then (some (l0 ++ [((Int.tmod a1 128) + 128) % 256])) else (none))) = some r := h
  clear h
  by_cases c3 : a1 ≥ 128
  · rw [if_pos c3] at H
    have c3b0 : decide (128 ≤ a1) = true := decide_eq_true c3
    clear c3
    replace H := Option.bind_eq_some_iff.mp H
    obtain ⟨t222, A40, H⟩ := H
    replace H : (if t222.length < 140737488355328 then (some (t222 ++ [((Int.tmod a1 128) + 128) % 256])) else (none)) = some r := H
    have A4 := Aside0.mk A40
    clear A40
    by_cases c5 : t222.length < 140737488355328
    · rw [if_pos c5] at H
      have LMc5 := Aside0.mk c5
      clear c5
      obtain ⟨y225, hy225⟩ : ∃ y_ : List Int, y_ = (t222 ++ [((Int.tmod a1 128) + 128) % 256]) := ⟨_, rfl⟩
      replace H : (some y225) = some r := by first | (rw [hy225]; with_reducible exact H) | (have H2_ := (Option.bind_some _ _).symm.trans H; rw [hy225]; with_reducible exact H2_) | (have H2_ := (Option.bind_some _ _).symm.trans H; with_reducible exact H2_) | with_reducible exact H | (rw [hy225]; exact H) | exact H
      have Ny225 := Aside0.mk hy225
      clear hy225
      obtain rfl := Option.some.inj H
      obtain ⟨Ao6, co6, eo6⟩ := Kd.R_slice HO0.out
      subst eo6
      go_enter Try.func65, Try.ntmps65
      go_wp2_with (first | ((with_reducible refine gate_callee (f := 65) rfl ?_); refine goesL_ (some 10) rfl rfl Try.func65 (by kernel_rfl) rfl #[.slice Ao6 l0.length co6, .int .u64 (IntKind.u64.wrap (Int.tdiv a1 128))] rfl (by (try simp only [List.map_toArray, List.map_cons, List.map_nil]); first | done | rfl | (simp only [List.length_drop, List.length_take]; rfl)) ?_; (with_reducible refine (ih k (by omega) (fun k_ => some k_ = (.slice Ao6 l0.length co6 : Value).ownBlock) (.slice Ao6 l0.length co6) l0 (IntKind.u64.wrap (Int.tdiv a1 128)) t222 w0 _ ?side1 ?side2 A4.out).mono ?_); (case side1 => repeat (first | (with_reducible first | exact HB.out | apply below_alloc | apply pw_below_drewN | apply below_drew1) | exact HB.out)); (case side2 => exact Kd.R_tight rfl HO0.out); rintro e w7 ⟨v223, rfl, ho0, hb, hkp⟩; refine ⟨_, rfl, ?_⟩; have n0_ := Aside0.mk (Kd.R_mono (ok' := fun k_ => (P0_ k_ ∨ w.heap.size ≤ k_)) ho0 (fun k_ hk_ => Or.elim hk_ (fun hs_ => (HO0.out.1 k_ (hs_).symm)) (fun hn_ => (.inr (Nat.le_trans (by first | exact HK.out.1 | exact (show Kept w _ (fun k_ => P0_ k_) from by repeat (first | (with_reducible first | exact HK.out | apply Kept.alloc | apply Kept.drewN | apply Kept.drew) | exact HK.out)).1) hn_))))); have n1_ := Aside0.mk (Kept.then_ (S := (fun k_ => P0_ k_)) (by repeat (first | (with_reducible first | exact HK.out | apply Kept.alloc | apply Kept.drewN | apply Kept.drew) | exact HK.out)) hkp (fun k_ hs_ => (fun e_ => (HO0.out.1 k_ e_.symm)) hs_)); have n2_ := Aside0.mk (hb); clear HK; clear HB; clear HO0; have HO224 := n0_; have HK := n1_; have HB := n2_; clear n0_ n1_ n2_; (try clear hb); (try clear hkp); (try clear ho0)) | ((with_reducible refine gate_builtin (b := .append) (xs := #[.tmp 11, .tmp 16]) rfl ?_); at_builtin; refine Kd.R_append (Kd.int .u8) (w0 := w0) w0.heap.size rfl (.tmp 11) (.tmp 16) 50 5 (.int .u8 0) 1 rfl Try.underlying50 info5 rfl (by decide) (by omega) v223 t222 (((Int.tmod a1 128) + 128) % 256) [.int .u8 (((Int.tmod a1 128) + 128) % 256)] (fun k_ => (P0_ k_ ∨ w.heap.size ≤ k_)) (fun _ => False) rfl rfl ?aP (fun _ hk => hk.elim) ?aF ?aO ?aB ?aS ?aL ?_; (case aP => exact rfl); (case aB => exact (by repeat (first | (with_reducible first | exact HB.out | apply below_alloc | apply pw_below_drewN | apply below_drew1) | exact HB.out))); (case aF => exact (fun k_ hk => (.inr (Nat.le_trans (by first | exact HK.out.1 | exact (show Kept w _ (fun k_ => P0_ k_) from by repeat (first | (with_reducible first | exact HK.out | apply Kept.alloc | apply Kept.drewN | apply Kept.drew) | exact HK.out)).1) hk)))); (case aO => exact (by (with_reducible repeat (first | apply Kd.R_alloc | apply Kd.R_drewN | apply Kd.R_drew)); exact HO224.out)); (case aS => exact (below_size (by repeat (first | (with_reducible first | exact HB.out | apply below_alloc | apply pw_below_drewN | apply below_drew1) | exact HB.out)))); (case aL => have := LMc5.out; omega); intro v226 w8 ho hb hg hat; rw [← Ny225.out] at ho; have n0_ := Aside0.mk (hb); have n1_ := Aside0.mk (Kept.of_grown (S := (fun k_ => P0_ k_)) hg (by repeat (first | (with_reducible first | exact HK.out | apply Kept.alloc | apply Kept.drewN | apply Kept.drew) | exact HK.out)) (fun k_ e_ => (HO224.out.1 k_ e_))); have n2_ := Aside0.mk (ho); clear HB; clear HK; clear HO224; have HB := n0_; have HK := n1_; have HO227 := n2_; clear n0_ n1_ n2_; clear ho hb hg hat))
      go_ret
      exact ⟨_, by first | rfl | (simp [errW_none, errW_some] <;> rfl) | (simp [*, errW_none, errW_some] <;> rfl), by (with_reducible repeat (first | apply Kd.R_alloc | apply Kd.R_drewN | apply Kd.R_drew)); exact HO227.out, by repeat (first | (with_reducible first | exact HB.out | apply below_alloc | apply pw_below_drewN | apply below_drew1) | exact HB.out), by repeat (first | (with_reducible first | exact HK.out | apply Kept.alloc | apply Kept.drewN | apply Kept.drew) | exact HK.out)⟩
    · rw [if_neg c5] at H
      exact absurd H (by simp)
  · rw [if_neg c3] at H
    have c3b0 : decide (128 ≤ a1) = false := decide_eq_false c3
    clear c3
    by_cases c9 : l0.length < 140737488355328
    · rw [if_pos c9] at H
      have LMc9 := Aside0.mk c9
      clear c9
      obtain ⟨y228, hy228⟩ : ∃ y_ : List Int, y_ = (l0 ++ [((Int.tmod a1 128) + 128) % 256]) := ⟨_, rfl⟩
      replace H : (some y228) = some r := by first | (rw [hy228]; with_reducible exact H) | (have H2_ := (Option.bind_some _ _).symm.trans H; rw [hy228]; with_reducible exact H2_) | (have H2_ := (Option.bind_some _ _).symm.trans H; with_reducible exact H2_) | with_reducible exact H | (rw [hy228]; exact H) | exact H
      have Ny228 := Aside0.mk hy228
      clear hy228
      obtain rfl := Option.some.inj H
      go_enter Try.func65, Try.ntmps65
      go_wp2_with (first | ((with_reducible refine gate_builtin (b := .append) (xs := #[.tmp 11, .tmp 16]) rfl ?_); at_builtin; refine Kd.R_append (Kd.int .u8) (w0 := w0) w0.heap.size rfl (.tmp 11) (.tmp 16) 50 5 (.int .u8 0) 1 rfl Try.underlying50 info5 rfl (by decide) (by omega) u9000_ l0 (((Int.tmod a1 128) + 128) % 256) [.int .u8 (((Int.tmod a1 128) + 128) % 256)] (fun k_ => (P0_ k_ ∨ w.heap.size ≤ k_)) (fun _ => False) rfl rfl ?aP (fun _ hk => hk.elim) ?aF ?aO ?aB ?aS ?aL ?_; (case aP => exact rfl); (case aB => exact (by repeat (first | (with_reducible first | exact HB.out | apply below_alloc | apply pw_below_drewN | apply below_drew1) | exact HB.out))); (case aF => exact (fun k_ hk => (.inr (Nat.le_trans (by first | exact HK.out.1 | exact (show Kept w _ (fun k_ => P0_ k_) from by repeat (first | (with_reducible first | exact HK.out | apply Kept.alloc | apply Kept.drewN | apply Kept.drew) | exact HK.out)).1) hk)))); (case aO => exact (by (with_reducible repeat (first | apply Kd.R_alloc | apply Kd.R_drewN | apply Kd.R_drew)); exact HO0.out)); (case aS => exact (below_size (by repeat (first | (with_reducible first | exact HB.out | apply below_alloc | apply pw_below_drewN | apply below_drew1) | exact HB.out)))); (case aL => have := LMc9.out; omega); intro v229 w10 ho hb hg hat; rw [← Ny228.out] at ho; have n0_ := Aside0.mk (hb); have n1_ := Aside0.mk (Kept.of_grown (S := (fun k_ => P0_ k_)) hg (by repeat (first | (with_reducible first | exact HK.out | apply Kept.alloc | apply Kept.drewN | apply Kept.drew) | exact HK.out)) (fun k_ e_ => (HO0.out.1 k_ e_))); have n2_ := Aside0.mk (ho); clear HB; clear HK; clear HO0; have HB := n0_; have HK := n1_; have HO230 := n2_; clear n0_ n1_ n2_; clear ho hb hg hat))
      go_ret
      exact ⟨_, by first | rfl | (simp [errW_none, errW_some] <;> rfl) | (simp [*, errW_none, errW_some] <;> rfl), by (with_reducible repeat (first | apply Kd.R_alloc | apply Kd.R_drewN | apply Kd.R_drew)); exact HO230.out, by repeat (first | (with_reducible first | exact HB.out | apply below_alloc | apply pw_below_drewN | apply below_drew1) | exact HB.out), by repeat (first | (with_reducible first | exact HK.out | apply Kept.alloc | apply Kept.drewN | apply Kept.drew) | exact HK.out)⟩
    · rw [if_neg c9] at H
      exact absurd H (by simp)

/-! ### klaxonref01_Uint: function 39 -/
def klaxonref01_Uint.f (k : Nat) (l0 : List Int) (a1 : Int) : Option (List Int) := if a1 ≥ 128 then ((klaxonref01_high.f k l0 (IntKind.u64.wrap (Int.tdiv a1 128))).bind fun t231 => (if t231.length < 140737488355328 then (some (t231 ++ [(Int.tmod a1 128) % 256])) else (none))) else (if l0.length < 140737488355328 then (some (l0 ++ [(Int.tmod a1 128) % 256])) else (none))
theorem klaxonref01_Uint.mono : ∀ a0 a1 k, LeO (klaxonref01_Uint.f k a0 a1) (klaxonref01_Uint.f (k + 1) a0 a1) := by
  intro a0 a1 k
  unfold klaxonref01_Uint.f
  repeat' first
      | (with_reducible exact klaxonref01_high.mono _ _ _)
      | (with_reducible exact LeO.refl _)
      | (with_reducible exact LeO.none _)
      | (with_reducible refine LeO.ite ?_ ?_)
      | (with_reducible refine LeO.bind ?_ (fun _ => ?_))
      | exact klaxonref01_high.mono _ _ _
      | exact LeO.none _
      | refine LeO.ite ?_ ?_
      | refine LeO.bind ?_ (fun _ => ?_)
set_option maxHeartbeats 8000000 in
set_option maxRecDepth 100000 in
theorem klaxonref01_Uint.calls (k : Nat) (P0_ : Nat → Prop) (u9000_ : Value) (l0 : List Int) (a1 : Int) (r : List Int) (w0 w : World) (hB : Below w0.heap.size w0 w) (ho0 : Kd.R (Kd.int .u8) 5 w w0.heap.size P0_ u9000_ l0) (h : klaxonref01_Uint.f k l0 a1 = some r) :
    Calls Try.prog 39 #[u9000_, .int .u64 a1] w fun e w' => ∃ v0_ : Value, e = .returned (v0_) ∧ Kd.R (Kd.int .u8) 5 w' w0.heap.size (fun k_ => (P0_ k_ ∨ w.heap.size ≤ k_)) v0_ r ∧ Below w0.heap.size w0 w' ∧ Kept w w' (fun k_ => P0_ k_) := by
  have HO0 := Aside0.mk (show Kd.R (Kd.int .u8) 5 w w0.heap.size (fun k_ => (P0_ k_ ∨ w.heap.size ≤ k_)) u9000_ l0 from Kd.R_mono ho0 (fun k_ hk => (.inl hk)))
  have HK := Aside0.mk (Kept.refl w (fun k_ => P0_ k_))
  have HW0 := Aside0.mk hB.size
  have HB := Aside0.mk hB
  clear hB
  have H : (if a1 ≥ 128 then ((klaxonref01_high.f k l0 (IntKind.u64.wrap (Int.tdiv a1 128))).bind fun t231 => (if t231.length < 140737488355328 then (some (t231 ++ [(Int.tmod a1 128) % 256])) else (none))) else (if l0.length < 140737488355328 then (some (l0 ++ [(Int.tmod a1 128) % 256])) else (none))) = some r := h
  clear h
  by_cases c3 : a1 ≥ 128
  · rw [if_pos c3] at H
    have c3b0 : decide (128 ≤ a1) = true := decide_eq_true c3
    clear c3
    replace H := Option.bind_eq_some_iff.mp H
    obtain ⟨t231, A40, H⟩ := H
    replace H : (if t231.length < 140737488355328 then (some (t231 ++ [(Int.tmod a1 128) % 256])) else (none)) = some r := H
    have A4 := Aside0.mk A40
    clear A40
    by_cases c5 : t231.length < 140737488355328
    · rw [if_pos c5] at H
      have LMc5 := Aside0.mk c5
      clear c5
      obtain ⟨y234, hy234⟩ : ∃ y_ : List Int, y_ = (t231 ++ [(Int.tmod a1 128) % 256]) := ⟨_, rfl⟩
      replace H : (some y234) = some r := by first | (rw [hy234]; with_reducible exact H) | (have H2_ := (Option.bind_some _ _).symm.trans H; rw [hy234]; with_reducible exact H2_) | (have H2_ := (Option.bind_some _ _).symm.trans H; with_reducible exact H2_) | with_reducible exact H | (rw [hy234]; exact H) | exact H
      have Ny234 := Aside0.mk hy234
      clear hy234
      obtain rfl := Option.some.inj H
      obtain ⟨Ao6, co6, eo6⟩ := Kd.R_slice HO0.out
      subst eo6
      go_enter Try.func39, Try.ntmps39
      go_wp2_with (first | ((with_reducible refine gate_callee (f := 65) rfl ?_); refine goesL_ (some 10) rfl rfl Try.func65 (by kernel_rfl) rfl #[.slice Ao6 l0.length co6, .int .u64 (IntKind.u64.wrap (Int.tdiv a1 128))] rfl (by (try simp only [List.map_toArray, List.map_cons, List.map_nil]); first | done | rfl | (simp only [List.length_drop, List.length_take]; rfl)) ?_; (with_reducible refine (klaxonref01_high.calls k (fun k_ => some k_ = (.slice Ao6 l0.length co6 : Value).ownBlock) (.slice Ao6 l0.length co6) l0 (IntKind.u64.wrap (Int.tdiv a1 128)) t231 w0 _ ?side1 ?side2 A4.out).mono ?_); (case side1 => repeat (first | (with_reducible first | exact HB.out | apply below_alloc | apply pw_below_drewN | apply below_drew1) | exact HB.out)); (case side2 => exact Kd.R_tight rfl HO0.out); rintro e w7 ⟨v232, rfl, ho0, hb, hkp⟩; refine ⟨_, rfl, ?_⟩; have n0_ := Aside0.mk (Kd.R_mono (ok' := fun k_ => (P0_ k_ ∨ w.heap.size ≤ k_)) ho0 (fun k_ hk_ => Or.elim hk_ (fun hs_ => (HO0.out.1 k_ (hs_).symm)) (fun hn_ => (.inr (Nat.le_trans (by first | exact HK.out.1 | exact (show Kept w _ (fun k_ => P0_ k_) from by repeat (first | (with_reducible first | exact HK.out | apply Kept.alloc | apply Kept.drewN | apply Kept.drew) | exact HK.out)).1) hn_))))); have n1_ := Aside0.mk (Kept.then_ (S := (fun k_ => P0_ k_)) (by repeat (first | (with_reducible first | exact HK.out | apply Kept.alloc | apply Kept.drewN | apply Kept.drew) | exact HK.out)) hkp (fun k_ hs_ => (fun e_ => (HO0.out.1 k_ e_.symm)) hs_)); have n2_ := Aside0.mk (hb); clear HK; clear HB; clear HO0; have HO233 := n0_; have HK := n1_; have HB := n2_; clear n0_ n1_ n2_; (try clear hb); (try clear hkp); (try clear ho0)) | ((with_reducible refine gate_builtin (b := .append) (xs := #[.tmp 11, .tmp 15]) rfl ?_); at_builtin; refine Kd.R_append (Kd.int .u8) (w0 := w0) w0.heap.size rfl (.tmp 11) (.tmp 15) 50 5 (.int .u8 0) 1 rfl Try.underlying50 info5 rfl (by decide) (by omega) v232 t231 ((Int.tmod a1 128) % 256) [.int .u8 ((Int.tmod a1 128) % 256)] (fun k_ => (P0_ k_ ∨ w.heap.size ≤ k_)) (fun _ => False) rfl rfl ?aP (fun _ hk => hk.elim) ?aF ?aO ?aB ?aS ?aL ?_; (case aP => exact rfl); (case aB => exact (by repeat (first | (with_reducible first | exact HB.out | apply below_alloc | apply pw_below_drewN | apply below_drew1) | exact HB.out))); (case aF => exact (fun k_ hk => (.inr (Nat.le_trans (by first | exact HK.out.1 | exact (show Kept w _ (fun k_ => P0_ k_) from by repeat (first | (with_reducible first | exact HK.out | apply Kept.alloc | apply Kept.drewN | apply Kept.drew) | exact HK.out)).1) hk)))); (case aO => exact (by (with_reducible repeat (first | apply Kd.R_alloc | apply Kd.R_drewN | apply Kd.R_drew)); exact HO233.out)); (case aS => exact (below_size (by repeat (first | (with_reducible first | exact HB.out | apply below_alloc | apply pw_below_drewN | apply below_drew1) | exact HB.out)))); (case aL => have := LMc5.out; omega); intro v235 w8 ho hb hg hat; rw [← Ny234.out] at ho; have n0_ := Aside0.mk (hb); have n1_ := Aside0.mk (Kept.of_grown (S := (fun k_ => P0_ k_)) hg (by repeat (first | (with_reducible first | exact HK.out | apply Kept.alloc | apply Kept.drewN | apply Kept.drew) | exact HK.out)) (fun k_ e_ => (HO233.out.1 k_ e_))); have n2_ := Aside0.mk (ho); clear HB; clear HK; clear HO233; have HB := n0_; have HK := n1_; have HO236 := n2_; clear n0_ n1_ n2_; clear ho hb hg hat))
      go_ret
      exact ⟨_, by first | rfl | (simp [errW_none, errW_some] <;> rfl) | (simp [*, errW_none, errW_some] <;> rfl), by (with_reducible repeat (first | apply Kd.R_alloc | apply Kd.R_drewN | apply Kd.R_drew)); exact HO236.out, by repeat (first | (with_reducible first | exact HB.out | apply below_alloc | apply pw_below_drewN | apply below_drew1) | exact HB.out), by repeat (first | (with_reducible first | exact HK.out | apply Kept.alloc | apply Kept.drewN | apply Kept.drew) | exact HK.out)⟩
    · rw [if_neg c5] at H
      exact absurd H (by simp)
  · rw [if_neg c3] at H
    have c3b0 : decide (128 ≤ a1) = false := decide_eq_false c3
    clear c3
    by_cases c9 : l0.length < 140737488355328
    · rw [if_pos c9] at H
      have LMc9 := Aside0.mk c9
      clear c9
      obtain ⟨y237, hy237⟩ : ∃ y_ : List Int, y_ = (l0 ++ [(Int.tmod a1 128) % 256]) := ⟨_, rfl⟩
      replace H : (some y237) = some r := by first | (rw [hy237]; with_reducible exact H) | (have H2_ := (Option.bind_some _ _).symm.trans H; rw [hy237]; with_reducible exact H2_) | (have H2_ := (Option.bind_some _ _).symm.trans H; with_reducible exact H2_) | with_reducible exact H | (rw [hy237]; exact H) | exact H
      have Ny237 := Aside0.mk hy237
      clear hy237
      obtain rfl := Option.some.inj H
      go_enter Try.func39, Try.ntmps39
      go_wp2_with (first | ((with_reducible refine gate_builtin (b := .append) (xs := #[.tmp 11, .tmp 15]) rfl ?_); at_builtin; refine Kd.R_append (Kd.int .u8) (w0 := w0) w0.heap.size rfl (.tmp 11) (.tmp 15) 50 5 (.int .u8 0) 1 rfl Try.underlying50 info5 rfl (by decide) (by omega) u9000_ l0 ((Int.tmod a1 128) % 256) [.int .u8 ((Int.tmod a1 128) % 256)] (fun k_ => (P0_ k_ ∨ w.heap.size ≤ k_)) (fun _ => False) rfl rfl ?aP (fun _ hk => hk.elim) ?aF ?aO ?aB ?aS ?aL ?_; (case aP => exact rfl); (case aB => exact (by repeat (first | (with_reducible first | exact HB.out | apply below_alloc | apply pw_below_drewN | apply below_drew1) | exact HB.out))); (case aF => exact (fun k_ hk => (.inr (Nat.le_trans (by first | exact HK.out.1 | exact (show Kept w _ (fun k_ => P0_ k_) from by repeat (first | (with_reducible first | exact HK.out | apply Kept.alloc | apply Kept.drewN | apply Kept.drew) | exact HK.out)).1) hk)))); (case aO => exact (by (with_reducible repeat (first | apply Kd.R_alloc | apply Kd.R_drewN | apply Kd.R_drew)); exact HO0.out)); (case aS => exact (below_size (by repeat (first | (with_reducible first | exact HB.out | apply below_alloc | apply pw_below_drewN | apply below_drew1) | exact HB.out)))); (case aL => have := LMc9.out; omega); intro v238 w10 ho hb hg hat; rw [← Ny237.out] at ho; have n0_ := Aside0.mk (hb); have n1_ := Aside0.mk (Kept.of_grown (S := (fun k_ => P0_ k_)) hg (by repeat (first | (with_reducible first | exact HK.out | apply Kept.alloc | apply Kept.drewN | apply Kept.drew) | exact HK.out)) (fun k_ e_ => (HO0.out.1 k_ e_))); have n2_ := Aside0.mk (ho); clear HB; clear HK; clear HO0; have HB := n0_; have HK := n1_; have HO239 := n2_; clear n0_ n1_ n2_; clear ho hb hg hat))
      go_ret
      exact ⟨_, by first | rfl | (simp [errW_none, errW_some] <;> rfl) | (simp [*, errW_none, errW_some] <;> rfl), by (with_reducible repeat (first | apply Kd.R_alloc | apply Kd.R_drewN | apply Kd.R_drew)); exact HO239.out, by repeat (first | (with_reducible first | exact HB.out | apply below_alloc | apply pw_below_drewN | apply below_drew1) | exact HB.out), by repeat (first | (with_reducible first | exact HK.out | apply Kept.alloc | apply Kept.drewN | apply Kept.drew) | exact HK.out)⟩
    · rw [if_neg c9] at H
      exact absurd H (by simp)

/-! ### klaxonref01_Int: function 40 -/
def klaxonref01_Int.f (k : Nat) (l0 : List Int) (a1 : Int) : Option (List Int) := if a1 < 0 then (if l0.length < 140737488355328 then ((klaxonref01_Uint.f k (l0 ++ [45]) (IntKind.u64.wrap ((IntKind.u64.wrap (wrap64 (-(wrap64 (a1 + 1))))) + 1))).bind fun t243 => (some t243)) else (none)) else (if l0.length < 140737488355328 then ((klaxonref01_Uint.f k (l0 ++ [43]) (IntKind.u64.wrap (a1))).bind fun t249 => (some t249)) else (none))
theorem klaxonref01_Int.mono : ∀ a0 a1 k, LeO (klaxonref01_Int.f k a0 a1) (klaxonref01_Int.f (k + 1) a0 a1) := by
  intro a0 a1 k
  unfold klaxonref01_Int.f
  repeat' first
      | (with_reducible exact klaxonref01_Uint.mono _ _ _)
      | (with_reducible exact LeO.refl _)
      | (with_reducible exact LeO.none _)
      | (with_reducible refine LeO.ite ?_ ?_)
      | (with_reducible refine LeO.bind ?_ (fun _ => ?_))
      | exact klaxonref01_Uint.mono _ _ _
      | exact LeO.none _
      | refine LeO.ite ?_ ?_
      | refine LeO.bind ?_ (fun _ => ?_)
set_option maxHeartbeats 8000000 in
set_option maxRecDepth 100000 in
theorem klaxonref01_Int.calls (k : Nat) (P0_ : Nat → Prop) (u9000_ : Value) (l0 : List Int) (a1 : Int) (r : List Int) (w0 w : World) (hB : Below w0.heap.size w0 w) (ho0 : Kd.R (Kd.int .u8) 5 w w0.heap.size P0_ u9000_ l0) (h : klaxonref01_Int.f k l0 a1 = some r) :
    Calls Try.prog 40 #[u9000_, .int .i64 a1] w fun e w' => ∃ v0_ : Value, e = .returned (v0_) ∧ Kd.R (Kd.int .u8) 5 w' w0.heap.size (fun k_ => (P0_ k_ ∨ w.heap.size ≤ k_)) v0_ r ∧ Below w0.heap.size w0 w' ∧ Kept w w' (fun k_ => P0_ k_) := by
  have HO0 := Aside0.mk (show Kd.R (Kd.int .u8) 5 w w0.heap.size (fun k_ => (P0_ k_ ∨ w.heap.size ≤ k_)) u9000_ l0 from Kd.R_mono ho0 (fun k_ hk => (.inl hk)))
  have HK := Aside0.mk (Kept.refl w (fun k_ => P0_ k_))
  have HW0 := Aside0.mk hB.size
  have HB := Aside0.mk hB
  clear hB
  have H : (if a1 < 0 then (if l0.length < 140737488355328 then ((klaxonref01_Uint.f k (l0 ++ [45]) (IntKind.u64.wrap ((IntKind.u64.wrap (wrap64 (-(wrap64 (a1 + 1))))) + 1))).bind fun t243 => (some t243)) else (none)) else (if l0.length < 140737488355328 then ((klaxonref01_Uint.f k (l0 ++ [43]) (IntKind.u64.wrap (a1))).bind fun t249 => (some t249)) else (none))) = some r := h
  clear h
  by_cases c3 : a1 < 0
  · rw [if_pos c3] at H
    have c3b0 : decide (a1 < 0) = true := decide_eq_true c3
    clear c3
    by_cases c4 : l0.length < 140737488355328
    · rw [if_pos c4] at H
      have LMc4 := Aside0.mk c4
      clear c4
      obtain ⟨y240, hy240⟩ : ∃ y_ : List Int, y_ = (l0 ++ [45]) := ⟨_, rfl⟩
      replace H : ((klaxonref01_Uint.f k y240 (IntKind.u64.wrap ((IntKind.u64.wrap (wrap64 (-(wrap64 (a1 + 1))))) + 1))).bind fun t243 => (some t243)) = some r := by first | (rw [hy240]; with_reducible exact H) | (have H2_ := (Option.bind_some _ _).symm.trans H; rw [hy240]; with_reducible exact H2_) | (have H2_ := (Option.bind_some _ _).symm.trans H; with_reducible exact H2_) | with_reducible exact H | (rw [hy240]; exact H) | exact H
      have Ny240 := Aside0.mk hy240
      clear hy240
      replace H := Option.bind_eq_some_iff.mp H
      obtain ⟨t243, A50, H⟩ := H
      replace H : (some t243) = some r := H
      have A5 := Aside0.mk A50
      clear A50
      obtain rfl := Option.some.inj H
      go_enter Try.func40, Try.ntmps40
      go_wp2_with (first | ((with_reducible refine gate_builtin (b := .append) (xs := #[.tmp 7, .tmp 8]) rfl ?_); at_builtin; refine Kd.R_append (Kd.int .u8) (w0 := w0) w0.heap.size rfl (.tmp 7) (.tmp 8) 50 5 (.int .u8 0) 1 rfl Try.underlying50 info5 rfl (by decide) (by omega) u9000_ l0 45 [.int .u8 45] (fun k_ => (P0_ k_ ∨ w.heap.size ≤ k_)) (fun _ => False) rfl rfl ?aP (fun _ hk => hk.elim) ?aF ?aO ?aB ?aS ?aL ?_; (case aP => exact rfl); (case aB => exact (by repeat (first | (with_reducible first | exact HB.out | apply below_alloc | apply pw_below_drewN | apply below_drew1) | exact HB.out))); (case aF => exact (fun k_ hk => (.inr (Nat.le_trans (by first | exact HK.out.1 | exact (show Kept w _ (fun k_ => P0_ k_) from by repeat (first | (with_reducible first | exact HK.out | apply Kept.alloc | apply Kept.drewN | apply Kept.drew) | exact HK.out)).1) hk)))); (case aO => exact (by (with_reducible repeat (first | apply Kd.R_alloc | apply Kd.R_drewN | apply Kd.R_drew)); exact HO0.out)); (case aS => exact (below_size (by repeat (first | (with_reducible first | exact HB.out | apply below_alloc | apply pw_below_drewN | apply below_drew1) | exact HB.out)))); (case aL => have := LMc4.out; omega); intro v241 w6 ho hb hg hat; rw [← Ny240.out] at ho; have n0_ := Aside0.mk (hb); have n1_ := Aside0.mk (Kept.of_grown (S := (fun k_ => P0_ k_)) hg (by repeat (first | (with_reducible first | exact HK.out | apply Kept.alloc | apply Kept.drewN | apply Kept.drew) | exact HK.out)) (fun k_ e_ => (HO0.out.1 k_ e_))); have n2_ := Aside0.mk (ho); clear HB; clear HK; clear HO0; have HB := n0_; have HK := n1_; have HO242 := n2_; clear n0_ n1_ n2_; clear ho hb hg hat; obtain ⟨Ao7, co7, eo7⟩ := Kd.R_slice HO242.out; subst eo7) | ((with_reducible refine gate_callee (f := 39) rfl ?_); refine goesL_ (some 15) rfl rfl Try.func39 (by kernel_rfl) rfl #[.slice Ao7 y240.length co7, .int .u64 (IntKind.u64.wrap ((IntKind.u64.wrap (wrap64 (-(wrap64 (a1 + 1))))) + 1))] rfl (by (try simp only [List.map_toArray, List.map_cons, List.map_nil]); first | done | rfl | (simp only [List.length_drop, List.length_take]; rfl)) ?_; (with_reducible refine (klaxonref01_Uint.calls k (fun k_ => some k_ = (.slice Ao7 y240.length co7 : Value).ownBlock) (.slice Ao7 y240.length co7) y240 (IntKind.u64.wrap ((IntKind.u64.wrap (wrap64 (-(wrap64 (a1 + 1))))) + 1)) t243 w0 _ ?side1 ?side2 A5.out).mono ?_); (case side1 => repeat (first | (with_reducible first | exact HB.out | apply below_alloc | apply pw_below_drewN | apply below_drew1) | exact HB.out)); (case side2 => exact Kd.R_tight rfl HO242.out); rintro e w8 ⟨v244, rfl, ho0, hb, hkp⟩; refine ⟨_, rfl, ?_⟩; have n0_ := Aside0.mk (Kd.R_mono (ok' := fun k_ => (P0_ k_ ∨ w.heap.size ≤ k_)) ho0 (fun k_ hk_ => Or.elim hk_ (fun hs_ => (HO242.out.1 k_ (hs_).symm)) (fun hn_ => (.inr (Nat.le_trans (by first | exact HK.out.1 | exact (show Kept w _ (fun k_ => P0_ k_) from by repeat (first | (with_reducible first | exact HK.out | apply Kept.alloc | apply Kept.drewN | apply Kept.drew) | exact HK.out)).1) hn_))))); have n1_ := Aside0.mk (Kept.then_ (S := (fun k_ => P0_ k_)) (by repeat (first | (with_reducible first | exact HK.out | apply Kept.alloc | apply Kept.drewN | apply Kept.drew) | exact HK.out)) hkp (fun k_ hs_ => (fun e_ => (HO242.out.1 k_ e_.symm)) hs_)); have n2_ := Aside0.mk (hb); clear HK; clear HB; clear HO242; have HO245 := n0_; have HK := n1_; have HB := n2_; clear n0_ n1_ n2_; (try clear hb); (try clear hkp); (try clear ho0)))
      go_ret
      exact ⟨_, by first | rfl | (simp [errW_none, errW_some] <;> rfl) | (simp [*, errW_none, errW_some] <;> rfl), by (with_reducible repeat (first | apply Kd.R_alloc | apply Kd.R_drewN | apply Kd.R_drew)); exact HO245.out, by repeat (first | (with_reducible first | exact HB.out | apply below_alloc | apply pw_below_drewN | apply below_drew1) | exact HB.out), by repeat (first | (with_reducible first | exact HK.out | apply Kept.alloc | apply Kept.drewN | apply Kept.drew) | exact HK.out)⟩
    · rw [if_neg c4] at H
      exact absurd H (by simp)
  · rw [if_neg c3] at H
    have c3b0 : decide (a1 < 0) = false := decide_eq_false c3
    clear c3
    by_cases c9 : l0.length < 140737488355328
    · rw [if_pos c9] at H
      have LMc9 := Aside0.mk c9
      clear c9
      obtain ⟨y246, hy246⟩ : ∃ y_ : List Int, y_ = (l0 ++ [43]) := ⟨_, rfl⟩
      replace H : ((klaxonref01_Uint.f k y246 (IntKind.u64.wrap (a1))).bind fun t249 => (some t249)) = some r := by first | (rw [hy246]; with_reducible exact H) | (have H2_ := (Option.bind_some _ _).symm.trans H; rw [hy246]; with_reducible exact H2_) | (have H2_ := (Option.bind_some _ _).symm.trans H; with_reducible exact H2_) | with_reducible exact H | (rw [hy246]; exact H) | exact H
      have Ny246 := Aside0.mk hy246
      clear hy246
      replace H := Option.bind_eq_some_iff.mp H
      obtain ⟨t249, A100, H⟩ := H
      replace H : (some t249) = some r := H
      have A10 := Aside0.mk A100
      clear A100
      obtain rfl := Option.some.inj H
      go_enter Try.func40, Try.ntmps40
      go_wp2_with (first | ((with_reducible refine gate_builtin (b := .append) (xs := #[.tmp 16, .tmp 17]) rfl ?_); at_builtin; refine Kd.R_append (Kd.int .u8) (w0 := w0) w0.heap.size rfl (.tmp 16) (.tmp 17) 50 5 (.int .u8 0) 1 rfl Try.underlying50 info5 rfl (by decide) (by omega) u9000_ l0 43 [.int .u8 43] (fun k_ => (P0_ k_ ∨ w.heap.size ≤ k_)) (fun _ => False) rfl rfl ?aP (fun _ hk => hk.elim) ?aF ?aO ?aB ?aS ?aL ?_; (case aP => exact rfl); (case aB => exact (by repeat (first | (with_reducible first | exact HB.out | apply below_alloc | apply pw_below_drewN | apply below_drew1) | exact HB.out))); (case aF => exact (fun k_ hk => (.inr (Nat.le_trans (by first | exact HK.out.1 | exact (show Kept w _ (fun k_ => P0_ k_) from by repeat (first | (with_reducible first | exact HK.out | apply Kept.alloc | apply Kept.drewN | apply Kept.drew) | exact HK.out)).1) hk)))); (case aO => exact (by (with_reducible repeat (first | apply Kd.R_alloc | apply Kd.R_drewN | apply Kd.R_drew)); exact HO0.out)); (case aS => exact (below_size (by repeat (first | (with_reducible first | exact HB.out | apply below_alloc | apply pw_below_drewN | apply below_drew1) | exact HB.out)))); (case aL => have := LMc9.out; omega); intro v247 w11 ho hb hg hat; rw [← Ny246.out] at ho; have n0_ := Aside0.mk (hb); have n1_ := Aside0.mk (Kept.of_grown (S := (fun k_ => P0_ k_)) hg (by repeat (first | (with_reducible first | exact HK.out | apply Kept.alloc | apply Kept.drewN | apply Kept.drew) | exact HK.out)) (fun k_ e_ => (HO0.out.1 k_ e_))); have n2_ := Aside0.mk (ho); clear HB; clear HK; clear HO0; have HB := n0_; have HK := n1_; have HO248 := n2_; clear n0_ n1_ n2_; clear ho hb hg hat; obtain ⟨Ao12, co12, eo12⟩ := Kd.R_slice HO248.out; subst eo12) | ((with_reducible refine gate_callee (f := 39) rfl ?_); refine goesL_ (some 21) rfl rfl Try.func39 (by kernel_rfl) rfl #[.slice Ao12 y246.length co12, .int .u64 (IntKind.u64.wrap (a1))] rfl (by (try simp only [List.map_toArray, List.map_cons, List.map_nil]); first | done | rfl | (simp only [List.length_drop, List.length_take]; rfl)) ?_; (with_reducible refine (klaxonref01_Uint.calls k (fun k_ => some k_ = (.slice Ao12 y246.length co12 : Value).ownBlock) (.slice Ao12 y246.length co12) y246 (IntKind.u64.wrap (a1)) t249 w0 _ ?side1 ?side2 A10.out).mono ?_); (case side1 => repeat (first | (with_reducible first | exact HB.out | apply below_alloc | apply pw_below_drewN | apply below_drew1) | exact HB.out)); (case side2 => exact Kd.R_tight rfl HO248.out); rintro e w13 ⟨v250, rfl, ho0, hb, hkp⟩; refine ⟨_, rfl, ?_⟩; have n0_ := Aside0.mk (Kd.R_mono (ok' := fun k_ => (P0_ k_ ∨ w.heap.size ≤ k_)) ho0 (fun k_ hk_ => Or.elim hk_ (fun hs_ => (HO248.out.1 k_ (hs_).symm)) (fun hn_ => (.inr (Nat.le_trans (by first | exact HK.out.1 | exact (show Kept w _ (fun k_ => P0_ k_) from by repeat (first | (with_reducible first | exact HK.out | apply Kept.alloc | apply Kept.drewN | apply Kept.drew) | exact HK.out)).1) hn_))))); have n1_ := Aside0.mk (Kept.then_ (S := (fun k_ => P0_ k_)) (by repeat (first | (with_reducible first | exact HK.out | apply Kept.alloc | apply Kept.drewN | apply Kept.drew) | exact HK.out)) hkp (fun k_ hs_ => (fun e_ => (HO248.out.1 k_ e_.symm)) hs_)); have n2_ := Aside0.mk (hb); clear HK; clear HB; clear HO248; have HO251 := n0_; have HK := n1_; have HB := n2_; clear n0_ n1_ n2_; (try clear hb); (try clear hkp); (try clear ho0)))
      go_ret
      exact ⟨_, by first | rfl | (simp [errW_none, errW_some] <;> rfl) | (simp [*, errW_none, errW_some] <;> rfl), by (with_reducible repeat (first | apply Kd.R_alloc | apply Kd.R_drewN | apply Kd.R_drew)); exact HO251.out, by repeat (first | (with_reducible first | exact HB.out | apply below_alloc | apply pw_below_drewN | apply below_drew1) | exact HB.out), by repeat (first | (with_reducible first | exact HK.out | apply Kept.alloc | apply Kept.drewN | apply Kept.drew) | exact HK.out)⟩
    · rw [if_neg c9] at H
      exact absurd H (by simp)

/-! ### klaxonref01_Text: function 41 -/
def klaxonref01_Text.f (k : Nat) (l0 : List Int) (a1 : ByteArray) : Option (List Int) := (klaxonref01_Uint.f k l0 (IntKind.u64.wrap ((a1.size : Int)))).bind fun t252 => (if t252.length + a1.size < 140737488355328 then (some (t252 ++ bytesOf a1)) else (none))
theorem klaxonref01_Text.mono : ∀ a0 a1 k, LeO (klaxonref01_Text.f k a0 a1) (klaxonref01_Text.f (k + 1) a0 a1) := by
  intro a0 a1 k
  unfold klaxonref01_Text.f
  repeat' first
      | (with_reducible exact klaxonref01_Uint.mono _ _ _)
      | (with_reducible exact LeO.refl _)
      | (with_reducible exact LeO.none _)
      | (with_reducible refine LeO.ite ?_ ?_)
      | (with_reducible refine LeO.bind ?_ (fun _ => ?_))
      | exact klaxonref01_Uint.mono _ _ _
      | exact LeO.none _
      | refine LeO.ite ?_ ?_
      | refine LeO.bind ?_ (fun _ => ?_)
set_option maxHeartbeats 8000000 in
set_option maxRecDepth 100000 in
theorem klaxonref01_Text.calls (k : Nat) (P0_ : Nat → Prop) (u9000_ : Value) (l0 : List Int) (a1 : ByteArray) (r : List Int) (w0 w : World) (hB : Below w0.heap.size w0 w) (ho0 : Kd.R (Kd.int .u8) 5 w w0.heap.size P0_ u9000_ l0) (h : klaxonref01_Text.f k l0 a1 = some r) :
    Calls Try.prog 41 #[u9000_, .string a1] w fun e w' => ∃ v0_ : Value, e = .returned (v0_) ∧ Kd.R (Kd.int .u8) 5 w' w0.heap.size (fun k_ => (P0_ k_ ∨ w.heap.size ≤ k_)) v0_ r ∧ Below w0.heap.size w0 w' ∧ Kept w w' (fun k_ => P0_ k_) := by
  have HO0 := Aside0.mk (show Kd.R (Kd.int .u8) 5 w w0.heap.size (fun k_ => (P0_ k_ ∨ w.heap.size ≤ k_)) u9000_ l0 from Kd.R_mono ho0 (fun k_ hk => (.inl hk)))
  have HK := Aside0.mk (Kept.refl w (fun k_ => P0_ k_))
  have HW0 := Aside0.mk hB.size
  have HB := Aside0.mk hB
  clear hB
  have H : ((klaxonref01_Uint.f k l0 (IntKind.u64.wrap ((a1.size : Int)))).bind fun t252 => (if t252.length + a1.size < 140737488355328 then (some (t252 ++ bytesOf a1)) else (none))) = some r := h
  clear h
  replace H := Option.bind_eq_some_iff.mp H
  obtain ⟨t252, A30, H⟩ := H
  replace H : (if t252.length + a1.size < 140737488355328 then (some (t252 ++ bytesOf a1)) else (none)) = some r := H
  have A3 := Aside0.mk A30
  clear A30
  by_cases c4 : t252.length + a1.size < 140737488355328
  · rw [if_pos c4] at H
    have LMc4 := Aside0.mk c4
    clear c4
    obtain ⟨y255, hy255⟩ : ∃ y_ : List Int, y_ = (t252 ++ bytesOf a1) := ⟨_, rfl⟩
    replace H : (some y255) = some r := by first | (rw [hy255]; with_reducible exact H) | (have H2_ := (Option.bind_some _ _).symm.trans H; rw [hy255]; with_reducible exact H2_) | (have H2_ := (Option.bind_some _ _).symm.trans H; with_reducible exact H2_) | with_reducible exact H | (rw [hy255]; exact H) | exact H
    have Ny255 := Aside0.mk hy255
    clear hy255
    obtain rfl := Option.some.inj H
    obtain ⟨Ao5, co5, eo5⟩ := Kd.R_slice HO0.out
    subst eo5
    go_enter Try.func41, Try.ntmps41
    go_wp2_with (first | ((with_reducible refine gate_callee (f := 39) rfl ?_); refine goesL_ (some 9) rfl rfl Try.func39 (by kernel_rfl) rfl #[.slice Ao5 l0.length co5, .int .u64 (IntKind.u64.wrap ((a1.size : Int)))] rfl (by (try simp only [List.map_toArray, List.map_cons, List.map_nil]); first | done | rfl | (simp only [List.length_drop, List.length_take]; rfl)) ?_; (with_reducible refine (klaxonref01_Uint.calls k (fun k_ => some k_ = (.slice Ao5 l0.length co5 : Value).ownBlock) (.slice Ao5 l0.length co5) l0 (IntKind.u64.wrap ((a1.size : Int))) t252 w0 _ ?side1 ?side2 A3.out).mono ?_); (case side1 => repeat (first | (with_reducible first | exact HB.out | apply below_alloc | apply pw_below_drewN | apply below_drew1) | exact HB.out)); (case side2 => exact Kd.R_tight rfl HO0.out); rintro e w6 ⟨v253, rfl, ho0, hb, hkp⟩; refine ⟨_, rfl, ?_⟩; have n0_ := Aside0.mk (Kd.R_mono (ok' := fun k_ => (P0_ k_ ∨ w.heap.size ≤ k_)) ho0 (fun k_ hk_ => Or.elim hk_ (fun hs_ => (HO0.out.1 k_ (hs_).symm)) (fun hn_ => (.inr (Nat.le_trans (by first | exact HK.out.1 | exact (show Kept w _ (fun k_ => P0_ k_) from by repeat (first | (with_reducible first | exact HK.out | apply Kept.alloc | apply Kept.drewN | apply Kept.drew) | exact HK.out)).1) hn_))))); have n1_ := Aside0.mk (Kept.then_ (S := (fun k_ => P0_ k_)) (by repeat (first | (with_reducible first | exact HK.out | apply Kept.alloc | apply Kept.drewN | apply Kept.drew) | exact HK.out)) hkp (fun k_ hs_ => (fun e_ => (HO0.out.1 k_ e_.symm)) hs_)); have n2_ := Aside0.mk (hb); clear HK; clear HB; clear HO0; have HO254 := n0_; have HK := n1_; have HB := n2_; clear n0_ n1_ n2_; (try clear hb); (try clear hkp); (try clear ho0)) | (at_builtin; refine Go.Proofs.YtmcnipjfigbkeaaK.append_str_at (w0 := w0) w0.heap.size rfl (.tmp 9) _ 50 9 5 rfl Try.underlying50 Try.underlying9 info5 v253 t252 a1 (fun k_ => (P0_ k_ ∨ w.heap.size ≤ k_)) rfl rfl ?aF ?aO ?aB ?aS ?aL ?_; (case aB => exact (by repeat (first | (with_reducible first | exact HB.out | apply below_alloc | apply pw_below_drewN | apply below_drew1) | exact HB.out))); (case aF => exact (fun k_ hk => (.inr (Nat.le_trans (by first | exact HK.out.1 | exact (show Kept w _ (fun k_ => P0_ k_) from by repeat (first | (with_reducible first | exact HK.out | apply Kept.alloc | apply Kept.drewN | apply Kept.drew) | exact HK.out)).1) hk)))); (case aO => exact (by (with_reducible repeat (first | apply Kd.R_alloc | apply Kd.R_drewN | apply Kd.R_drew)); exact HO254.out)); (case aS => exact (below_size (by repeat (first | (with_reducible first | exact HB.out | apply below_alloc | apply pw_below_drewN | apply below_drew1) | exact HB.out)))); (case aL => have := LMc4.out; omega); intro v256 w7 ho hb hg hat; rw [← Ny255.out] at ho; have n0_ := Aside0.mk (hb); have n1_ := Aside0.mk (Kept.of_grown (S := (fun k_ => P0_ k_)) hg (by repeat (first | (with_reducible first | exact HK.out | apply Kept.alloc | apply Kept.drewN | apply Kept.drew) | exact HK.out)) (fun k_ e_ => (HO254.out.1 k_ e_))); have n2_ := Aside0.mk (ho); clear HB; clear HK; clear HO254; have HB := n0_; have HK := n1_; have HO257 := n2_; clear n0_ n1_ n2_; clear ho hb hg hat))
    go_ret
    exact ⟨_, by first | rfl | (simp [errW_none, errW_some] <;> rfl) | (simp [*, errW_none, errW_some] <;> rfl), by (with_reducible repeat (first | apply Kd.R_alloc | apply Kd.R_drewN | apply Kd.R_drew)); exact HO257.out, by repeat (first | (with_reducible first | exact HB.out | apply below_alloc | apply pw_below_drewN | apply below_drew1) | exact HB.out), by repeat (first | (with_reducible first | exact HK.out | apply Kept.alloc | apply Kept.drewN | apply Kept.drew) | exact HK.out)⟩
  · rw [if_neg c4] at H
    exact absurd H (by simp)

/-! ### quill_Text: function 42 -/
def quill_Text.l0 : Nat → List Int → List ByteArray → Int → Int → Option (List Int)
  | 0, _, _, _, _ => none
  | k + 1, x0, x7, x8, x9 => if x9 < x8 then (if 0 ≤ x9 then (if x9 < (x7.length : Int) then ((quill_digits.f x0 (IntKind.u64.wrap (((rdOf ByteArray.empty x7 x9).size : Int)))).bind fun t259 => (if t259.length + (rdOf ByteArray.empty x7 x9).size < 140737488355328 then (quill_Text.l0 k (t259 ++ bytesOf (rdOf ByteArray.empty x7 x9)) x7 x8 (wrap64 (x9 + 1))) else (none))) else (none)) else (none)) else (some x0)
def quill_Text.f (k : Nat) (l0 : List Int) (l1 : List ByteArray) : Option (List Int) := quill_Text.l0 k l0 l1 (l1.length : Int) 0
theorem quill_Text.mono_l : ∀ k, (∀ y0 y1 y2 y3, LeO (quill_Text.l0 k y0 y1 y2 y3) (quill_Text.l0 (k + 1) y0 y1 y2 y3))
  | 0 => fun _ _ _ _ r h => by simp [quill_Text.l0] at h
  | k + 1 => by
    have ih0 := quill_Text.mono_l k
    · intro y0 y1 y2 y3
      unfold quill_Text.l0
      repeat' first
      | (with_reducible exact ih0 _ _ _ _)
      | (with_reducible exact LeO.refl _)
      | (with_reducible exact LeO.none _)
      | (with_reducible refine LeO.ite ?_ ?_)
      | (with_reducible refine LeO.bind ?_ (fun _ => ?_))
      | exact ih0 _ _ _ _
      | exact LeO.none _
      | refine LeO.ite ?_ ?_
      | refine LeO.bind ?_ (fun _ => ?_)
theorem quill_Text.mono : ∀ a0 a1 k, LeO (quill_Text.f k a0 a1) (quill_Text.f (k + 1) a0 a1) := by
  intro a0 a1 k
  have ih0 := quill_Text.mono_l k
  unfold quill_Text.f
  repeat' first
      | (with_reducible exact ih0 _ _ _ _)
      | (with_reducible exact LeO.refl _)
      | (with_reducible exact LeO.none _)
      | (with_reducible refine LeO.ite ?_ ?_)
      | (with_reducible refine LeO.bind ?_ (fun _ => ?_))
      | exact ih0 _ _ _ _
      | exact LeO.none _
      | refine LeO.ite ?_ ?_
      | refine LeO.bind ?_ (fun _ => ?_)
set_option maxHeartbeats 8000000 in
set_option maxRecDepth 100000 in
theorem quill_Text.calls (k : Nat) (P0_ : Nat → Prop) (u9000_ : Value) (l0 : List Int) (A1 : Option Addr) (c1 : Nat) (l1 : List ByteArray) (r : List Int) (w0 w : World) (hB : Below w0.heap.size w0 w) (ho0 : Kd.R (Kd.int .u8) 5 w w0.heap.size P0_ u9000_ l0) (hr1 : ∀ W_, Kept w W_ (fun k_ => P0_ k_) → Kd.C Kd.string W_ A1 l1.length l1) (hc1 : l1.length ≤ c1) (h : quill_Text.f k l0 l1 = some r) :
    Calls Try.prog 42 #[u9000_, .slice A1 l1.length c1] w fun e w' => ∃ v0_ : Value, e = .returned (v0_) ∧ Kd.R (Kd.int .u8) 5 w' w0.heap.size (fun k_ => (P0_ k_ ∨ w.heap.size ≤ k_)) v0_ r ∧ Below w0.heap.size w0 w' ∧ Kept w w' (fun k_ => P0_ k_) := by
  have HO0 := Aside0.mk (show Kd.R (Kd.int .u8) 5 w w0.heap.size (fun k_ => (P0_ k_ ∨ w.heap.size ≤ k_)) u9000_ l0 from Kd.R_mono ho0 (fun k_ hk => (.inl hk)))
  have HR1 := Aside0.mk hr1
  have HC1 := Aside0.mk hc1
  clear hr1 hc1
  have HK := Aside0.mk (Kept.refl w (fun k_ => P0_ k_))
  have HW0 := Aside0.mk hB.size
  have HB := Aside0.mk hB
  clear hB
  have H : (quill_Text.l0 k l0 l1 (l1.length : Int) 0) = some r := h
  clear h
  have H' := Aside0.mk H
  clear H
  go_enter Try.func42, Try.ntmps42
  go_wp2
  go_loopg [0, 9] k (fun kq v0 v9 w' => ∃ (x0_1 : List Int) (x9_1 : Int), v9 = .int .i64 x9_1 ∧ Aside0 (quill_Text.l0 kq x0_1 l1 (l1.length : Int) x9_1 = some r) ∧ Aside0 (kq ≤ k) ∧ Aside0 (Kd.R (Kd.int .u8) 5 w' w0.heap.size (fun k_ => (P0_ k_ ∨ w.heap.size ≤ k_)) v0 x0_1) ∧ Aside0 (Kept w w' (fun k_ => P0_ k_)) ∧ Aside0 (Below w0.heap.size w0 w'))
  case atStart => exact ⟨(l0), (0), (by first | rfl | (simp; done) | (simp [*]; done)), H', ⟨Nat.le_refl _⟩, ⟨by (with_reducible repeat (first | apply Kd.R_alloc | apply Kd.R_drewN | apply Kd.R_drew)); exact HO0.out⟩, ⟨by repeat (first | (with_reducible first | exact HK.out | apply Kept.alloc | apply Kept.drewN | apply Kept.drew) | exact HK.out)⟩, ⟨by repeat (first | (with_reducible first | exact HB.out | apply below_alloc | apply pw_below_drewN | apply below_drew1) | exact HB.out)⟩⟩
  case round =>
    clear H'
    try clear c1
    try clear p2
    obtain ⟨x0_1, x9_1, rfl, HA, HK1, HO_0, HK, HB⟩ := hrel
    cases gk with
    | zero => exact absurd HA.out (by simp [quill_Text.l0])
    | succ k1 =>
      have H := HA.out
      clear HA
      simp only [quill_Text.l0] at H
      by_cases c3 : x9_1 < (l1.length : Int)
      · rw [if_pos c3] at H
        have c3b0 : decide (x9_1 < (l1.length : Int)) = true := decide_eq_true c3
        clear c3
        by_cases c4 : 0 ≤ x9_1
        · rw [if_pos c4] at H
          have c4b0 : decide (0 ≤ x9_1) = true := decide_eq_true c4
          clear c4
          by_cases c5 : x9_1 < (l1.length : Int)
          · rw [if_pos c5] at H
            have c5b0 : decide (x9_1 < (l1.length : Int)) = true := decide_eq_true c5
            clear c5
            replace H := Option.bind_eq_some_iff.mp H
            obtain ⟨t259, A60, H⟩ := H
            replace H : (if t259.length + (rdOf ByteArray.empty l1 x9_1).size < 140737488355328 then (quill_Text.l0 k1 (t259 ++ bytesOf (rdOf ByteArray.empty l1 x9_1)) l1 (l1.length : Int) (wrap64 (x9_1 + 1))) else (none)) = some r := H
            have A6 := Aside0.mk A60
            clear A60
            by_cases c7 : t259.length + (rdOf ByteArray.empty l1 x9_1).size < 140737488355328
            · rw [if_pos c7] at H
              have LMc7 := Aside0.mk c7
              clear c7
              obtain ⟨y262, hy262⟩ : ∃ y_ : List Int, y_ = (t259 ++ bytesOf (rdOf ByteArray.empty l1 x9_1)) := ⟨_, rfl⟩
              replace H : (quill_Text.l0 k1 y262 l1 (l1.length : Int) (wrap64 (x9_1 + 1))) = some r := by first | (rw [hy262]; with_reducible exact H) | (have H2_ := (Option.bind_some _ _).symm.trans H; rw [hy262]; with_reducible exact H2_) | (have H2_ := (Option.bind_some _ _).symm.trans H; with_reducible exact H2_) | with_reducible exact H | (rw [hy262]; exact H) | exact H
              have Ny262 := Aside0.mk hy262
              clear hy262
              have H' := Aside0.mk H
              clear H
              have p258 : 0 ≤ (x9_1 : Int) := of_decide_eq_true (by first | (with_reducible assumption) | assumption)
              have q258 : x9_1 < (l1.length : Int) := of_decide_eq_true (by first | (with_reducible assumption) | assumption)
              obtain ⟨ad258, e258, hx258_0⟩ := Kd.at_string (Kd.C_kept_now HR1.out HK.out) x9_1 p258 q258
              cases e258
              replace p258 := eq_true p258
              replace q258 := eq_true q258
              obtain ⟨Ao8, co8, eo8⟩ := Kd.R_slice HO_0.out
              subst eo8
              go_wp2_with (first | ((with_reducible refine gate_callee (f := 60) rfl ?_); refine goesL_ (some 17) rfl rfl Try.func60 (by kernel_rfl) rfl #[.slice Ao8 x0_1.length co8, .int .u64 (IntKind.u64.wrap (((rdOf ByteArray.empty l1 x9_1).size : Int)))] rfl (by (try simp only [List.map_toArray, List.map_cons, List.map_nil]); first | done | rfl | (simp only [List.length_drop, List.length_take]; rfl)) ?_; (with_reducible refine (quill_digits.calls (fun k_ => some k_ = (.slice Ao8 x0_1.length co8 : Value).ownBlock) (.slice Ao8 x0_1.length co8) x0_1 (IntKind.u64.wrap (((rdOf ByteArray.empty l1 x9_1).size : Int))) t259 w0 _ ?side1 ?side2 A6.out).mono ?_); (case side1 => repeat (first | (with_reducible first | exact HB.out | apply below_alloc | apply pw_below_drewN | apply below_drew1) | exact HB.out)); (case side2 => exact Kd.R_tight rfl HO_0.out); rintro e w9 ⟨v260, rfl, ho0, hb, hkp⟩; refine ⟨_, rfl, ?_⟩; have n0_ := Aside0.mk (Kd.R_mono (ok' := fun k_ => (P0_ k_ ∨ w.heap.size ≤ k_)) ho0 (fun k_ hk_ => Or.elim hk_ (fun hs_ => (HO_0.out.1 k_ (hs_).symm)) (fun hn_ => (.inr (Nat.le_trans (by first | exact HK.out.1 | exact (show Kept w _ (fun k_ => P0_ k_) from by repeat (first | (with_reducible first | exact HK.out | apply Kept.alloc | apply Kept.drewN | apply Kept.drew) | exact HK.out)).1) hn_))))); have n1_ := Aside0.mk (Kept.then_ (S := (fun k_ => P0_ k_)) (by repeat (first | (with_reducible first | exact HK.out | apply Kept.alloc | apply Kept.drewN | apply Kept.drew) | exact HK.out)) hkp (fun k_ hs_ => (fun e_ => (HO_0.out.1 k_ e_.symm)) hs_)); have n2_ := Aside0.mk (hb); clear HK; clear HB; clear HO_0; have HO261 := n0_; have HK := n1_; have HB := n2_; clear n0_ n1_ n2_; (try clear hb); (try clear hkp); (try clear ho0)) | (at_builtin; refine Go.Proofs.YtmcnipjfigbkeaaK.append_str_at (w0 := w0) w0.heap.size rfl (.tmp 17) _ 50 9 5 rfl Try.underlying50 Try.underlying9 info5 v260 t259 (rdOf ByteArray.empty l1 x9_1) (fun k_ => (P0_ k_ ∨ w.heap.size ≤ k_)) rfl rfl ?aF ?aO ?aB ?aS ?aL ?_; (case aB => exact (by repeat (first | (with_reducible first | exact HB.out | apply below_alloc | apply pw_below_drewN | apply below_drew1) | exact HB.out))); (case aF => exact (fun k_ hk => (.inr (Nat.le_trans (by first | exact HK.out.1 | exact (show Kept w _ (fun k_ => P0_ k_) from by repeat (first | (with_reducible first | exact HK.out | apply Kept.alloc | apply Kept.drewN | apply Kept.drew) | exact HK.out)).1) hk)))); (case aO => exact (by (with_reducible repeat (first | apply Kd.R_alloc | apply Kd.R_drewN | apply Kd.R_drew)); exact HO261.out)); (case aS => exact (below_size (by repeat (first | (with_reducible first | exact HB.out | apply below_alloc | apply pw_below_drewN | apply below_drew1) | exact HB.out)))); (case aL => have := LMc7.out; omega); intro v263 w10 ho hb hg hat; rw [← Ny262.out] at ho; have n0_ := Aside0.mk (hb); have n1_ := Aside0.mk (Kept.of_grown (S := (fun k_ => P0_ k_)) hg (by repeat (first | (with_reducible first | exact HK.out | apply Kept.alloc | apply Kept.drewN | apply Kept.drew) | exact HK.out)) (fun k_ e_ => (HO261.out.1 k_ e_))); have n2_ := Aside0.mk (ho); clear HB; clear HK; clear HO261; have HB := n0_; have HK := n1_; have HO264 := n2_; clear n0_ n1_ n2_; clear ho hb hg hat))
              go_roundg k1
              case measure => have := HK1.out; omega
              case rel => exact ⟨(y262), (wrap64 (x9_1 + 1)), (by first | rfl | (simp; done) | (simp [*]; done)), H', ⟨by have := HK1.out; omega⟩, ⟨by (with_reducible repeat (first | apply Kd.R_alloc | apply Kd.R_drewN | apply Kd.R_drew)); exact HO264.out⟩, ⟨by repeat (first | (with_reducible first | exact HK.out | apply Kept.alloc | apply Kept.drewN | apply Kept.drew) | exact HK.out)⟩, ⟨by repeat (first | (with_reducible first | exact HB.out | apply below_alloc | apply pw_below_drewN | apply below_drew1) | exact HB.out)⟩⟩
            · rw [if_neg c7] at H
              exact absurd H (by simp)
          · rw [if_neg c5] at H
            exact absurd H (by simp)
        · rw [if_neg c4] at H
          exact absurd H (by simp)
      · rw [if_neg c3] at H
        have c3b0 : decide (x9_1 < (l1.length : Int)) = false := decide_eq_false c3
        clear c3
        obtain rfl := Option.some.inj H
        go_wp2
        go_ret
        exact ⟨_, by first | rfl | (simp [errW_none, errW_some] <;> rfl) | (simp [*, errW_none, errW_some] <;> rfl), by (with_reducible repeat (first | apply Kd.R_alloc | apply Kd.R_drewN | apply Kd.R_drew)); exact HO_0.out, by repeat (first | (with_reducible first | exact HB.out | apply below_alloc | apply pw_below_drewN | apply below_drew1) | exact HB.out), by repeat (first | (with_reducible first | exact HK.out | apply Kept.alloc | apply Kept.drewN | apply Kept.drew) | exact HK.out)⟩

end Go.Proofs.Ytmcnipjfigbkeaa.PQuill
