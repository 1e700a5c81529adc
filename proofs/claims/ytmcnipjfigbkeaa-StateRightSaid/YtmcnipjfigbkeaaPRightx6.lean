-- Written by a program of this session (wip/myprint.py), which drives the kit's print; read and checked by Lean alone.
import Derived.Test.YtmcnipjfigbkeaaPRightx0
import Derived.Test.YtmcnipjfigbkeaaPRightx1
import Derived.Test.YtmcnipjfigbkeaaPRightx2
import Derived.Test.YtmcnipjfigbkeaaPRightx3
import Derived.Test.YtmcnipjfigbkeaaPRightx4
import Derived.Test.YtmcnipjfigbkeaaPRightx5
namespace Go.Proofs.Ytmcnipjfigbkeaa.PRight
open Go.RowKit Go.Proofs.YtmcnipjfigbkeaaW.PrintWords Go.Proofs.YtmcnipjfigbkeaaW.PrintLast Go.Proofs.YtmcnipjfigbkeaaW.PrintMore
attribute [local go_sem] max2_int min2_int max_two min_two max_three min_three max_four min_four   -- for this text's walks alone
set_option linter.unusedVariables false
set_option linter.unusedSimpArgs false


/-! ### klaxonlaw17_StateRight: function 5 -/
open Go.Proofs.YtmcnipjfigbkeaaK Go.KState
namespace Right
def timeB (a : Int) : Bool := decide (0 ≤ a ∧ a ≤ 1099511627776)
theorem isTime_eq (a : Int) : state_isTime.f a = some (timeB a) := by
  unfold state_isTime.f timeB; split <;> simp [*]
def mayB (a : Int) : Bool := decide (a = -1) || timeB a
theorem maybe_eq (a : Int) : state_maybe.f a = some (mayB a) := by
  unfold state_maybe.f mayB; rw [isTime_eq]; split <;> simp [*]
/-- May an instance be? -/
def okI (x0 x1 x2 x3 x4 x5 x6 : Int) : Bool :=
  timeB x1 && timeB x4 && mayB x2 && mayB x3 && isV x5 x6 && (if x0 = 1 ∨ x0 = 4 ∨ x0 = 5 then decide (x2 = -1 ∧ x3 = -1) else if x0 = 2 then decide (x2 ≠ -1 ∧ x3 = -1) else decide (x0 = 3))
theorem check_prog (x0 x1 x2 x3 x4 x5 x6 : Int) : state_Check.f 3 x0 x1 x2 x3 x4 x5 x6 = some (if okI x0 x1 x2 x3 x4 x5 x6 = true then 0 else 2) := by
  unfold state_Check.f okI
  rw [isTime_eq, isTime_eq, maybe_eq, maybe_eq]
  simp only [Option.bind_some, value_Check.f, List.length_cons, List.length_nil, List.all_cons, List.all_nil, Bool.and_true]
  rw [if_pos (show 0 + 1 ≤ 9223372036854775807 by omega)]
  simp only [Option.bind_some, state_Check.j0, state_Check.j1, state_Check.j2]
  generalize timeB x1 = t1; generalize timeB x4 = t4; generalize mayB x2 = m2; generalize mayB x3 = m3; generalize isV x5 x6 = v
  by_cases a1 : x0 = 1
  · subst a1; by_cases b2 : x2 = -1 <;> by_cases b3 : x3 = -1 <;> cases t1 <;> cases t4 <;> cases m2 <;> cases m3 <;> cases v <;> simp_all
  by_cases a4 : x0 = 4
  · subst a4; by_cases b2 : x2 = -1 <;> by_cases b3 : x3 = -1 <;> cases t1 <;> cases t4 <;> cases m2 <;> cases m3 <;> cases v <;> simp_all
  by_cases a5 : x0 = 5
  · subst a5; by_cases b2 : x2 = -1 <;> by_cases b3 : x3 = -1 <;> cases t1 <;> cases t4 <;> cases m2 <;> cases m3 <;> cases v <;> simp_all
  by_cases a2 : x0 = 2
  · subst a2; by_cases b2 : x2 = -1 <;> by_cases b3 : x3 = -1 <;> cases t1 <;> cases t4 <;> cases m2 <;> cases m3 <;> cases v <;> simp_all
  by_cases a3 : x0 = 3
  · subst a3; cases t1 <;> cases t4 <;> cases m2 <;> cases m3 <;> cases v <;> simp_all
  · cases t1 <;> cases t4 <;> cases m2 <;> cases m3 <;> cases v <;> simp_all
theorem right_eq (h0 h1 h2 h3 a : Int) : klaxonlaw17_right.f h0 h1 h2 h3 a = some (decide (0 ≤ a ∧ a ≤ 1099511627776 ∧ 0 ≤ h0 ∧ h0 ≤ 1000000 ∧ 0 ≤ h1 ∧ h1 ≤ 1000000)) := by
  unfold klaxonlaw17_right.f
  by_cases a1 : a ≥ 0 <;> by_cases a2 : a ≤ 1099511627776 <;> by_cases a3 : h0 ≥ 0 <;> by_cases a4 : h0 ≤ 1000000 <;> by_cases a5 : h1 ≥ 0 <;> simp [*]
theorem live_ok : ∃ k, klaxonlaw17_live.f k = some true := ⟨30, by decide +kernel⟩
theorem live_ev : Ev (fun k => (klaxonlaw17_live.f k).bind fun t => some t) true := Ev.again_ (Ev.from_ klaxonlaw17_live.mono live_ok)
theorem num_eq (a : Int) : klaxonlaw17_num.f a = some a := rfl
theorem is_eq (k n : Int) : klaxonref08_Is.f k n = some (isV k n) := by
  unfold klaxonref08_Is.f isV
  by_cases h1 : k = 1
  · rw [if_pos h1, if_pos h1]; by_cases a : n ≥ -1000000000000000 <;> by_cases b : n ≤ 1000000000000000 <;> simp [a, b]
  · rw [if_neg h1, if_neg h1]
    by_cases h2 : k ≥ 2 <;> by_cases h5 : k ≤ 5
    · rw [if_pos h2, if_pos h5, if_pos (by omega)]; by_cases c : n = 0 <;> simp [c]
    · rw [if_pos h2, if_neg h5, if_neg (by omega)]
    · rw [if_neg h2, if_neg (by omega)]
    · rw [if_neg h2, if_neg (by omega)]
theorem step_right (x0 x1 x2 x3 x4 x5 x6 h0 h1 m now v0 v1 s0 s1 s2 s3 : Int) (hok : okI x0 x1 x2 x3 x4 x5 x6 = true) (hv : isV v0 v1 = true) (hn : timeB now = true) (hs : stepP h0 h1 m now x0 x1 x2 x3 = (s0, s1, s2, s3)) :
    okI s0 s1 s2 s3 now v0 v1 = true ∧ (s0 ≠ x0 → s1 = now) ∧ (s0 = x0 → s1 = x1) := by
  simp only [okI, Bool.and_eq_true] at hok ⊢
  obtain ⟨⟨⟨⟨⟨t1, t4⟩, m2⟩, m3⟩, _⟩, hst⟩ := hok
  have mn : mayB now = true := by unfold mayB; rw [hn]; simp
  have mm : mayB (-1) = true := by decide
  have hn1 : now ≠ -1 := by intro h; rw [h] at hn; exact absurd hn (by decide)
  have hx0 : x0 = 1 ∨ x0 = 2 ∨ x0 = 3 ∨ x0 = 4 ∨ x0 = 5 := by
    by_cases a : x0 = 1 ∨ x0 = 4 ∨ x0 = 5
    · omega
    · rw [if_neg a] at hst
      by_cases b : x0 = 2
      · omega
      · rw [if_neg b] at hst; have := of_decide_eq_true hst; omega
  have fin : ∀ a b c d : Int, (a, b, c, d) = (s0, s1, s2, s3) → (((((timeB b = true ∧ timeB now = true) ∧ mayB c = true) ∧ mayB d = true) ∧ isV v0 v1 = true) ∧ (if a = 1 ∨ a = 4 ∨ a = 5 then decide (c = -1 ∧ d = -1) else if a = 2 then decide (c ≠ -1 ∧ d = -1) else decide (a = 3)) = true) → (a ≠ x0 → b = now) → (a = x0 → b = x1) → ((((((timeB s1 = true ∧ timeB now = true) ∧ mayB s2 = true) ∧ mayB s3 = true) ∧ isV v0 v1 = true) ∧ (if s0 = 1 ∨ s0 = 4 ∨ s0 = 5 then decide (s2 = -1 ∧ s3 = -1) else if s0 = 2 then decide (s2 ≠ -1 ∧ s3 = -1) else decide (s0 = 3)) = true) ∧ (s0 ≠ x0 → s1 = now) ∧ (s0 = x0 → s1 = x1)) := by
    rintro a b c d h h1 h2 h3
    simp only [Prod.mk.injEq] at h
    obtain ⟨rfl, rfl, rfl, rfl⟩ := h
    exact ⟨h1, h2, h3⟩
  unfold stepP at hs
  by_cases m2' : m = 2
  · rw [if_pos m2'] at hs
    unfold alertP at hs
    by_cases a3 : x0 = 3
    · rw [if_pos a3] at hs
      exact fin _ _ _ _ hs ⟨⟨⟨⟨⟨t1, hn⟩, m2⟩, mm⟩, hv⟩, by rw [a3]; simp⟩ (fun h => absurd rfl h) (fun _ => rfl)
    rw [if_neg a3] at hs
    by_cases hle : h0 ≤ wrap64 (now - (if x0 = 2 then x2 else now))
    · rw [if_pos hle] at hs
      unfold toS toF toQ at hs
      rw [if_neg a3, if_pos (Or.inr rfl), if_pos (Or.inr rfl), if_neg a3] at hs
      have mc : mayB (if x0 = 2 then x2 else now) = true := by split <;> assumption
      exact fin _ _ _ _ hs ⟨⟨⟨⟨⟨hn, hn⟩, mc⟩, mm⟩, hv⟩, by simp⟩ (fun _ => rfl) (fun h => absurd h.symm a3)
    · rw [if_neg hle] at hs
      unfold toS toF toQ at hs
      rw [if_pos (Or.inl rfl), if_pos (Or.inl rfl)] at hs
      by_cases a2 : x0 = 2
      · rw [if_pos a2, if_pos a2, if_pos a2] at hs
        rw [a2, if_neg (by decide), if_pos rfl] at hst
        have hd := of_decide_eq_true hst
        exact fin _ _ _ _ hs ⟨⟨⟨⟨⟨t1, hn⟩, m2⟩, m3⟩, hv⟩, by rw [if_neg (by decide), if_pos rfl]; exact hst⟩ (fun h => absurd a2.symm h) (fun _ => rfl)
      · rw [if_neg a2, if_neg a2, if_neg a2] at hs
        exact fin _ _ _ _ hs ⟨⟨⟨⟨⟨hn, hn⟩, mn⟩, mm⟩, hv⟩, by rw [if_neg (by decide), if_pos rfl]; exact decide_eq_true ⟨hn1, rfl⟩⟩ (fun _ => rfl) (fun h => absurd h.symm a2)
  rw [if_neg m2'] at hs
  have norm1 : ∀ y3 : Int, (1, toS x0 x1 now 1, toF x2 1, toQ x0 y3 1) = (s0, s1, s2, s3) → ((((((timeB s1 = true ∧ timeB now = true) ∧ mayB s2 = true) ∧ mayB s3 = true) ∧ isV v0 v1 = true) ∧ (if s0 = 1 ∨ s0 = 4 ∨ s0 = 5 then decide (s2 = -1 ∧ s3 = -1) else if s0 = 2 then decide (s2 ≠ -1 ∧ s3 = -1) else decide (s0 = 3)) = true) ∧ (s0 ≠ x0 → s1 = now) ∧ (s0 = x0 → s1 = x1)) := by
    intro y3 h
    unfold toS toF toQ at h
    rw [if_neg (show ¬ ((1 : Int) = 2 ∨ (1 : Int) = 3) by decide), if_neg (show ¬ ((1 : Int) = 2 ∨ (1 : Int) = 3) by decide)] at h
    by_cases a1 : x0 = 1
    · rw [if_pos a1] at h
      exact fin _ _ _ _ h ⟨⟨⟨⟨⟨t1, hn⟩, mm⟩, mm⟩, hv⟩, by simp⟩ (fun h => absurd a1.symm h) (fun _ => rfl)
    · rw [if_neg a1] at h
      exact fin _ _ _ _ h ⟨⟨⟨⟨⟨hn, hn⟩, mm⟩, mm⟩, hv⟩, by simp⟩ (fun _ => rfl) (fun h => absurd h.symm a1)
  by_cases m1 : m = 1
  · rw [if_pos m1] at hs
    unfold normalP at hs
    by_cases a3 : x0 = 3 ∧ 0 < h1
    · rw [if_pos a3] at hs
      by_cases hlt : wrap64 (now - (if x3 = -1 then now else x3)) < h1
      · rw [if_pos hlt] at hs
        have mc : mayB (if x3 = -1 then now else x3) = true := by split <;> assumption
        exact fin _ _ _ _ hs ⟨⟨⟨⟨⟨t1, hn⟩, m2⟩, mc⟩, hv⟩, by rw [a3.1]; simp⟩ (fun h => absurd rfl h) (fun _ => rfl)
      · rw [if_neg hlt] at hs
        exact norm1 _ hs
    · rw [if_neg a3] at hs
      exact norm1 _ hs
  rw [if_neg m1] at hs
  have oth : ∀ st : Int, st = 4 ∨ st = 5 → (st, toS x0 x1 now st, toF x2 st, toQ x0 x3 st) = (s0, s1, s2, s3) → ((((((timeB s1 = true ∧ timeB now = true) ∧ mayB s2 = true) ∧ mayB s3 = true) ∧ isV v0 v1 = true) ∧ (if s0 = 1 ∨ s0 = 4 ∨ s0 = 5 then decide (s2 = -1 ∧ s3 = -1) else if s0 = 2 then decide (s2 ≠ -1 ∧ s3 = -1) else decide (s0 = 3)) = true) ∧ (s0 ≠ x0 → s1 = now) ∧ (s0 = x0 → s1 = x1)) := by
    intro st hst4 h
    unfold toS toF toQ at h
    rw [if_neg (show ¬ (st = 2 ∨ st = 3) by omega), if_neg (show ¬ (st = 2 ∨ st = 3) by omega)] at h
    by_cases a1 : x0 = st
    · rw [if_pos a1] at h
      exact fin _ _ _ _ h ⟨⟨⟨⟨⟨t1, hn⟩, mm⟩, mm⟩, hv⟩, by rw [if_pos (by omega)]; rfl⟩ (fun h => absurd a1.symm h) (fun _ => rfl)
    · rw [if_neg a1] at h
      exact fin _ _ _ _ h ⟨⟨⟨⟨⟨hn, hn⟩, mm⟩, mm⟩, hv⟩, by rw [if_pos (by omega)]; rfl⟩ (fun _ => rfl) (fun h => absurd h.symm a1)
  by_cases m3' : m = 3
  · rw [if_pos m3'] at hs; exact oth 4 (.inl rfl) hs
  rw [if_neg m3'] at hs
  by_cases m4 : m = 4
  · rw [if_pos m4] at hs; exact oth 5 (.inr rfl) hs
  rw [if_neg m4] at hs
  exact fin _ _ _ _ hs ⟨⟨⟨⟨⟨t1, hn⟩, m2⟩, m3⟩, hv⟩, hst⟩ (fun h => absurd rfl h) (fun _ => rfl)
set_option maxHeartbeats 8000000 in
set_option maxRecDepth 100000 in
theorem right_law (x0 x1 x2 x3 x4 x5 x6 h0 h1 h2 h3 : Int) (A : Option Addr) (c : Nat) (l : List S37) (w : World) (hr : Kd.C k37 w A l.length l) (hc : l.length ≤ c) :
    Calls Try.prog 5 #[.agg #[.int .i64 x0, .int .i64 x1, .int .i64 x2, .int .i64 x3, .int .i64 x4, .int .i64 x5, .int .i64 x6], .agg #[.int .i64 h0, .int .i64 h1, .int .i64 h2, .int .i64 h3], .slice A l.length c] w fun e w' => e = .returned (.bool true) ∧ Below w.heap.size w w' := by
  have HR := Aside0.mk hr
  have hlm := hr.2.1
  clear hr
  obtain ⟨kl, hl⟩ := live_ok
  have HLV := Aside0.mk hl
  clear hl
  go_enter Try.func5, Try.ntmps5
  by_cases g1 : 100 < (l.length : Int)
  · have d1 : decide (100 < (l.length : Int)) = true := decide_eq_true g1
    go_wp2_with fail
    refine (klaxonlaw17_live.calls kl true _ HLV.out).mono ?_
    rintro e w1 ⟨rfl, hb⟩
    have HB := Aside0.mk (below_step (below_alloc (below_alloc (Below.refl w.heap.size w) _) _) hb)
    clear hb
    go_wp2_with fail
    go_ret
    exact ⟨rfl, HB.out⟩
  have d1 : decide (100 < (l.length : Int)) = false := decide_eq_false g1
  go_wp2_with fail
  obtain ⟨W0, hW0⟩ : ∃ W0, W0 = ((w.alloc (Obj.cells #[Value.int IntKind.i64 x0, Value.int IntKind.i64 x1, Value.int IntKind.i64 x2, Value.int IntKind.i64 x3, Value.int IntKind.i64 x4, Value.int IntKind.i64 x5, Value.int IntKind.i64 x6] 25)).alloc (Obj.cells #[Value.int IntKind.i64 h0, Value.int IntKind.i64 h1, Value.int IntKind.i64 h2, Value.int IntKind.i64 h3] 27)) := ⟨_, rfl⟩
  rw [← hW0]
  have hX0 : W0.heap[w.heap.size]? = some (.cells #[Value.int IntKind.i64 x0, Value.int IntKind.i64 x1, Value.int IntKind.i64 x2, Value.int IntKind.i64 x3, Value.int IntKind.i64 x4, Value.int IntKind.i64 x5, Value.int IntKind.i64 x6] 25 (0, 0)) := by rw [hW0]; exact blk_alloc (blk_new w _) _
  have hH0 : W0.heap[w.heap.size + 1]? = some (.cells #[Value.int IntKind.i64 h0, Value.int IntKind.i64 h1, Value.int IntKind.i64 h2, Value.int IntKind.i64 h3] 27 (0, 0)) := by
    have := blk_new (w.alloc (Obj.cells #[Value.int IntKind.i64 x0, Value.int IntKind.i64 x1, Value.int IntKind.i64 x2, Value.int IntKind.i64 x3, Value.int IntKind.i64 x4, Value.int IntKind.i64 x5, Value.int IntKind.i64 x6] 25)) (Obj.cells #[Value.int IntKind.i64 h0, Value.int IntKind.i64 h1, Value.int IntKind.i64 h2, Value.int IntKind.i64 h3] 27)
    rw [show (w.alloc (Obj.cells #[Value.int IntKind.i64 x0, Value.int IntKind.i64 x1, Value.int IntKind.i64 x2, Value.int IntKind.i64 x3, Value.int IntKind.i64 x4, Value.int IntKind.i64 x5, Value.int IntKind.i64 x6] 25)).heap.size = w.heap.size + 1 by simp] at this
    rw [hW0]; exact this
  have hB0 : Below w.heap.size w W0 := by rw [hW0]; exact below_alloc (below_alloc (Below.refl _ _) _) _
  have HX := Aside0.mk hX0; have HH := Aside0.mk hH0; have HB := Aside0.mk hB0
  clear hX0 hH0 hB0 hW0
  refine (klaxonlaw17_right.calls h0 h1 h2 h3 0 _ W0 (right_eq h0 h1 h2 h3 0)).mono ?_
  rintro e w1 ⟨rfl, hb1⟩
  have HX := Aside0.mk (blk_below HX.out hb1); have HH := Aside0.mk (blk_below HH.out hb1); have HB := Aside0.mk (below_step HB.out hb1)
  clear hb1
  obtain ⟨rb, hrb⟩ : ∃ b, decide (0 ≤ (0 : Int) ∧ (0 : Int) ≤ 1099511627776 ∧ 0 ≤ h0 ∧ h0 ≤ 1000000 ∧ 0 ≤ h1 ∧ h1 ≤ 1000000) = b := ⟨_, rfl⟩
  rw [hrb]
  have HRB := Aside0.mk hrb
  clear hrb
  cases rb with
  | false =>
    go_wp2_with fail
    refine (klaxonlaw17_live.calls kl true _ HLV.out).mono ?_
    rintro e w2 ⟨rfl, hb⟩
    have HB := Aside0.mk (below_step HB.out hb)
    clear hb
    go_wp2_with fail
    go_ret
    exact ⟨rfl, HB.out⟩
  | true =>
    have x0' := blk_cell HX.out 0; have x1' := blk_cell HX.out 1; have x2' := blk_cell HX.out 2; have x3' := blk_cell HX.out 3; have x4' := blk_cell HX.out 4; have x5' := blk_cell HX.out 5; have x6' := blk_cell HX.out 6
    simp only [List.getElem?_toArray, List.getElem?_cons_zero, List.getElem?_cons_succ] at x0' x1' x2' x3' x4' x5' x6'
    go_wp2_with fail
    refine (state_Check.calls 3 x0 x1 x2 x3 x4 x5 x6 _ w1 (check_prog x0 x1 x2 x3 x4 x5 x6)).mono ?_
    rintro e w2 ⟨rfl, hb2⟩
    have HX := Aside0.mk (blk_below HX.out hb2); have HH := Aside0.mk (blk_below HH.out hb2); have HB := Aside0.mk (below_step HB.out hb2)
    clear hb2 x0' x1' x2' x3' x4' x5' x6'
    by_cases hok : okI x0 x1 x2 x3 x4 x5 x6 = true
    case neg =>
      rw [if_neg hok]
      go_wp2_with fail
      refine (klaxonlaw17_num.calls 2 2 _ rfl).mono ?_
      rintro e w3 ⟨rfl, ⟨n3, rfl⟩⟩
      go_wp2_with fail
      refine (klaxonlaw17_live.calls kl true _ HLV.out).mono ?_
      rintro e w4 ⟨rfl, hb⟩
      have HB := Aside0.mk (below_step (pw_below_drewN HB.out n3) hb)
      clear hb
      go_wp2_with fail
      go_ret
      exact ⟨rfl, HB.out⟩
    rw [if_pos hok]
    have HOK := Aside0.mk hok
    clear hok
    go_wp2_with fail
    refine (klaxonlaw17_num.calls 0 0 _ rfl).mono ?_
    rintro e w3 ⟨rfl, hd3⟩
    have hb3 := Drawn0.below hd3
    have HX := Aside0.mk (blk_below HX.out hb3); have HH := Aside0.mk (blk_below HH.out hb3); have HB := Aside0.mk (below_step HB.out hb3)
    clear hb3 hd3
    have x1' := blk_cell HX.out 1; have x2' := blk_cell HX.out 2; have x3' := blk_cell HX.out 3; have x4' := blk_cell HX.out 4
    simp only [List.getElem?_toArray, List.getElem?_cons_zero, List.getElem?_cons_succ] at x1' x2' x3' x4'
    have hokp : timeB x1 = true ∧ timeB x4 = true ∧ mayB x2 = true ∧ mayB x3 = true := by
      have h := HOK.out
      simp only [okI, Bool.and_eq_true] at h
      exact ⟨h.1.1.1.1.1, h.1.1.1.1.2, h.1.1.1.2, h.1.1.2⟩
    have tm : ∀ a : Int, timeB a = true → 0 ≤ a ∧ a ≤ 1099511627776 := fun a h => of_decide_eq_true h
    have mm : ∀ a : Int, mayB a = true → -1 ≤ a ∧ a ≤ 1099511627776 := by
      intro a h
      unfold mayB at h
      rcases Bool.or_eq_true _ _ ▸ h with h | h
      · have := of_decide_eq_true h; omega
      · have := tm a h; omega
    have b1 := tm _ hokp.1; have b4 := tm _ hokp.2.1; have b2 := mm _ hokp.2.2.1; have b3 := mm _ hokp.2.2.2
    clear hokp tm mm
    go_upto_region 3 with (fail)
    go_cut [7] from 10 (fun s7 wx => ∃ M : Int, s7 = .int .i64 M ∧ Aside0 (0 ≤ M ∧ M ≤ 1099511627776) ∧ wx = w3)
    case first =>
      go_wp2_with fail
      all_goals (go_meet; exact ⟨_, rfl, ⟨by omega, by omega⟩, rfl⟩)
    case rest =>
      obtain ⟨M, rfl, HM, rfl⟩ := hcut
      go_wp2_with fail
      go_loopg [7, 8] l.length (fun kq v7 v8 w' => ∃ (i : Nat) (now y0 y1 y2 y3 y4 y5 y6 : Int), v7 = .int .i64 now ∧ v8 = .int .i64 i ∧ Aside0 (i ≤ l.length ∧ kq = l.length - i ∧ 0 ≤ now ∧ now ≤ 1099511627776 ∧ okI y0 y1 y2 y3 y4 y5 y6 = true ∧ w'.heap[w.heap.size]? = some (.cells #[.int .i64 y0, .int .i64 y1, .int .i64 y2, .int .i64 y3, .int .i64 y4, .int .i64 y5, .int .i64 y6] 25 (0, 0)) ∧ w'.heap[w.heap.size + 1]? = some (.cells #[.int .i64 h0, .int .i64 h1, .int .i64 h2, .int .i64 h3] 27 (0, 0)) ∧ Below w.heap.size w w'))
      case atStart => exact ⟨0, M, x0, x1, x2, x3, x4, x5, x6, rfl, rfl, ⟨by omega, by omega, HM.out.1, HM.out.2, HOK.out, HX.out, HH.out, HB.out⟩⟩
      case round =>
        obtain ⟨i, now, y0, y1, y2, y3, y4, y5, y6, rfl, rfl, HI⟩ := hrel
        clear x1' x2' x3' x4' HX HH HB HOK
        have HBr := Aside0.mk HI.out.2.2.2.2.2.2.2
        have hi0 : i ≤ l.length := HI.out.1
        have n0 : 0 ≤ now := HI.out.2.2.1
        have n1 : now ≤ 1099511627776 := HI.out.2.2.2.1
        by_cases hi : i < l.length
        · have hd : decide ((i : Int) < (l.length : Int)) = true := decide_eq_true (by omega)
          have hil : (i : Int) < (l.length : Int) := by omega
          obtain ⟨ad, e, q0, q1, q2, q3⟩ := at_T37 (Kd.C_below HR.out HBr.out) (i : Int) (Int.natCast_nonneg _) (by omega)
          subst e
          obtain ⟨⟨L0, L1, ⟨V0, V1⟩⟩, hrd⟩ : ∃ x, rd_T37 l i = x := ⟨_, rfl⟩
          have HRD := Aside0.mk (fun (W : World) (hb : Below w.heap.size w W) => by
            have h := at_T37 (Kd.C_below HR.out hb) (i : Int) (Int.natCast_nonneg _) (by omega)
            rw [hrd, Int.toNat_natCast] at h
            exact h)
          rw [hrd] at q0 q1 q2 q3
          rw [Int.toNat_natCast] at q0 q1 q2 q3
          dsimp only at q0 q1 q2 q3
          clear hrd
          by_cases a1 : L0 < 0
          · have e1 : decide (L0 < 0) = true := decide_eq_true a1
            go_wp2_with fail
            refine (klaxonlaw17_live.calls kl true _ HLV.out).mono ?_
            rintro e w4 ⟨rfl, hb⟩
            have HB := Aside0.mk (below_step HBr.out hb)
            clear hb
            go_wp2_with fail
            go_ret
            exact ⟨rfl, HB.out⟩
          have e1 : decide (L0 < 0) = false := decide_eq_false a1
          by_cases a2 : 1000000 < L0
          · have e2 : decide (1000000 < L0) = true := decide_eq_true a2
            go_wp2_with fail
            refine (klaxonlaw17_live.calls kl true _ HLV.out).mono ?_
            rintro e w4 ⟨rfl, hb⟩
            have HB := Aside0.mk (below_step HBr.out hb)
            clear hb
            go_wp2_with fail
            go_ret
            exact ⟨rfl, HB.out⟩
          have e2 : decide (1000000 < L0) = false := decide_eq_false a2
          by_cases a3 : 1099511627776 - L0 < now
          · have e3 : decide (1099511627776 - L0 < now) = true := decide_eq_true a3
            go_wp2_with fail
            refine (klaxonlaw17_live.calls kl true _ HLV.out).mono ?_
            rintro e w4 ⟨rfl, hb⟩
            have HB := Aside0.mk (below_step HBr.out hb)
            clear hb
            go_wp2_with fail
            go_ret
            exact ⟨rfl, HB.out⟩
          have e3 : decide (1099511627776 - L0 < now) = false := decide_eq_false a3
          go_wp2_with fail
          refine (klaxonref08_Is.calls V0 V1 _ wr (is_eq V0 V1)).mono ?_
          rintro e w5 ⟨rfl, hb5⟩
          have HB5 := Aside0.mk (below_step HBr.out hb5)
          have HX5 := Aside0.mk (blk_below HI.out.2.2.2.2.2.1 hb5); have HH5 := Aside0.mk (blk_below HI.out.2.2.2.2.2.2.1 hb5)
          have HI5 := Aside0.mk (And.intro HI.out.2.1 HI.out.2.2.2.2.1)
          clear hb5 q0 q1 q2 q3 e1 e2 e3 HI HBr
          obtain ⟨bv, hbv⟩ : ∃ b, isV V0 V1 = b := ⟨_, rfl⟩
          rw [hbv]
          have HBV := Aside0.mk hbv
          clear hbv
          cases bv with
          | false =>
            go_wp2_with fail
            refine (klaxonlaw17_live.calls kl true _ HLV.out).mono ?_
            rintro e w4 ⟨rfl, hb⟩
            have HB := Aside0.mk (below_step HB5.out hb)
            clear hb
            go_wp2_with fail
            go_ret
            exact ⟨rfl, HB.out⟩
          | true =>
            obtain ⟨ad', e, q0, q1, q2, q3⟩ := HRD.out _ HB5.out
            obtain rfl := Option.some.inj e
            clear e
            go_upto_region 10 with (fail)
            obtain ⟨Inv, hInv⟩ : ∃ I : World → Prop, I = fun W => W.heap[w.heap.size]? = some (.cells #[.int .i64 y0, .int .i64 y1, .int .i64 y2, .int .i64 y3, .int .i64 y4, .int .i64 y5, .int .i64 y6] 25 (0, 0)) ∧ W.heap[w.heap.size + 1]? = some (.cells #[.int .i64 h0, .int .i64 h1, .int .i64 h2, .int .i64 h3] 27 (0, 0)) ∧ Below w.heap.size w W := ⟨_, rfl⟩
            have HI6 : Inv w5 := by rw [hInv]; exact ⟨HX5.out, HH5.out, HB5.out⟩
            have IB : ∀ W W', Inv W → Below W.heap.size W W' → Inv W' := by
              rw [hInv]; rintro W W' ⟨b1, b2, b3⟩ hb
              exact ⟨blk_below b1 hb, blk_below b2 hb, below_step b3 hb⟩
            have IT : ∀ W (g j : Nat) v, Inv W → w.heap.size + 1 < g → Inv (W.setCell ⟨g, j, none⟩ v) := by
              rw [hInv]; rintro W g j v ⟨b1, b2, b3⟩ hg
              exact ⟨blk_far b1 (by dsimp only; omega) _, blk_far b2 (by dsimp only; omega) _, below_set b3 (by omega)⟩
            have IL : ∀ W, Inv W → w.heap.size + 1 < W.heap.size := by rw [hInv]; exact fun W h => blk_lt h.2.1
            have IX : ∀ W, Inv W → W.heap[w.heap.size]? = some (.cells #[.int .i64 y0, .int .i64 y1, .int .i64 y2, .int .i64 y3, .int .i64 y4, .int .i64 y5, .int .i64 y6] 25 (0, 0)) := by rw [hInv]; exact fun W h => h.1
            have IH : ∀ W, Inv W → W.heap[w.heap.size + 1]? = some (.cells #[.int .i64 h0, .int .i64 h1, .int .i64 h2, .int .i64 h3] 27 (0, 0)) := by rw [hInv]; exact fun W h => h.2.1
            have IW : ∀ W, Inv W → Below w.heap.size w W := by rw [hInv]; exact fun W h => h.2.2
            have IS : ∀ W, Inv W → (fun W => Inv W ∧ W.cell? ⟨w.heap.size, 0, none⟩ = some (.int .i64 y0) ∧ W.cell? ⟨w.heap.size, 1, none⟩ = some (.int .i64 y1) ∧ W.cell? ⟨w.heap.size, 2, none⟩ = some (.int .i64 y2) ∧ W.cell? ⟨w.heap.size, 3, none⟩ = some (.int .i64 y3) ∧ W.cell? ⟨w.heap.size, 4, none⟩ = some (.int .i64 y4) ∧ W.cell? ⟨w.heap.size, 5, none⟩ = some (.int .i64 y5) ∧ W.cell? ⟨w.heap.size, 6, none⟩ = some (.int .i64 y6) ∧ W.cell? ⟨w.heap.size + 1, 0, none⟩ = some (.int .i64 h0) ∧ W.cell? ⟨w.heap.size + 1, 1, none⟩ = some (.int .i64 h1) ∧ W.cell? ⟨w.heap.size + 1, 2, none⟩ = some (.int .i64 h2) ∧ W.cell? ⟨w.heap.size + 1, 3, none⟩ = some (.int .i64 h3) ∧ W.cell? { block := (ad.add (i * 4)).block, off := (ad.add (i * 4)).off + 1 } = some (.int .i64 L1) ∧ W.cell? { block := (ad.add (i * 4)).block, off := (ad.add (i * 4)).off + 2 } = some (.int .i64 V0) ∧ W.cell? { block := (ad.add (i * 4)).block, off := (ad.add (i * 4)).off + 3 } = some (.int .i64 V1)) W := by
              intro W h
              have e1 := IX W h; have e2 := IH W h
              obtain ⟨ad', e, q0, q1, q2, q3⟩ := HRD.out W (IW W h)
              obtain rfl := Option.some.inj e
              exact ⟨h, by rw [blk_cell e1]; rfl, by rw [blk_cell e1]; rfl, by rw [blk_cell e1]; rfl, by rw [blk_cell e1]; rfl, by rw [blk_cell e1]; rfl, by rw [blk_cell e1]; rfl, by rw [blk_cell e1]; rfl, by rw [blk_cell e2]; rfl, by rw [blk_cell e2]; rfl, by rw [blk_cell e2]; rfl, by rw [blk_cell e2]; rfl, q1, q2, q3⟩
            have HN2 := Aside0.mk (show 0 ≤ now + L0 ∧ now + L0 ≤ 1099511627776 by omega)
            obtain ⟨s0, s1, s2, s3, hst⟩ : ∃ s0 s1 s2 s3, stepP h0 h1 (meansP h2 h3 L1) (now + L0) y0 y1 y2 y3 = (s0, s1, s2, s3) := ⟨_, _, _, _, rfl⟩
            have hstp := step_right y0 y1 y2 y3 y4 y5 y6 h0 h1 _ (now + L0) V0 V1 s0 s1 s2 s3 HI5.out.2 HBV.out (by unfold timeB; exact decide_eq_true HN2.out) hst
            have T : ∀ W, Calls Try.prog 23 #[.agg #[.int .i64 y0, .int .i64 y1, .int .i64 y2, .int .i64 y3, .int .i64 y4, .int .i64 y5, .int .i64 y6], .agg #[.int .i64 h0, .int .i64 h1, .int .i64 h2, .int .i64 h3], .int .i64 L1, .agg #[.int .i64 V0, .int .i64 V1], .int .i64 (now + L0)] W fun e w' => e = .returned (.agg #[.int .i64 s0, .int .i64 s1, .int .i64 s2, .int .i64 s3, .int .i64 (now + L0), .int .i64 V0, .int .i64 V1]) ∧ Below W.heap.size W w' := fun W => state_Step.calls y0 y1 y2 y3 y4 y5 y6 h0 h1 h2 h3 L1 V0 V1 (now + L0) s0 s1 s2 s3 (now + L0) V0 V1 W (by unfold state_Step.f; rw [hst])
            have IB := Aside0.mk IB; have IT := Aside0.mk IT; have IL := Aside0.mk IL; have IX := Aside0.mk IX; have IW := Aside0.mk IW; have IS := Aside0.mk IS; have T := Aside0.mk T; have IH := Aside0.mk IH
            have HSTP := Aside0.mk hstp
            have HI6 := Aside0.mk HI6
            have HA := Aside0.mk (And.intro n0 n1)
            clear hInv hst hstp q0 q1 q2 q3 HX5 HH5 HB5 a1 a2 n0
            go_cut [9] from 81 to 142 (fun s9 wx => ∃ g : Nat, s9 = .pointer (some ⟨g, 0, none⟩) ∧ Aside0 (w.heap.size + 1 < g ∧ wx.heap[g]? = some (.cells #[.int .i64 s0, .int .i64 s1, .int .i64 s2, .int .i64 s3, .int .i64 (now + L0), .int .i64 V0, .int .i64 V1] 25 (0, 0)) ∧ Inv wx))
            case first =>
              have HRF := Aside0.mk (fun W : World => Below.refl W.heap.size W)
              have SF := Aside0.mk (fun W (h : Inv W) => (IS.out W h).2)
              have T10 := Aside0.mk (fun W (h : Inv W) => (T.out W).mono fun e w' ⟨he, hd⟩ => (⟨he, IB.out _ _ h hd, hd⟩ : _ ∧ _ ∧ _))
              refine' wp_region_flow (by kernel_rfl) (by kernel_rfl) Inv (fun W W' => Below W.heap.size W W') HRF.out (IB.out _ _ HI6.out (below_drew1 (Below.refl _ _))) _ ?_
              rotate_left
              refine' Flow.val _ 0 (some 81) (Op.load 25 (Operand.tmp 3)) 25 (none) [] _ rfl (by kernel_rfl) (by kernel_rfl) (by kernel_rfl) (by rfl) ?_ ?_ HRF.out
              rotate_left 2
              · (intro W hW hK; have hF := SF.out W hW; go_simp; first | done | with_reducible rfl)
              try simp only [Act.put, List.setIfInBounds_toArray, List.set_cons_zero, List.set_cons_succ]
              refine' Flow.val _ 1 (some 82) (Op.load 27 (Operand.tmp 4)) 27 (none) [] _ rfl (by kernel_rfl) (by kernel_rfl) (by kernel_rfl) (by rfl) ?_ ?_ HRF.out
              rotate_left 2
              · (intro W hW hK; have hF := SF.out W hW; go_simp; first | done | with_reducible rfl)
              try simp only [Act.put, List.setIfInBounds_toArray, List.set_cons_zero, List.set_cons_succ]
              refine' Flow.val _ 2 (some 83) (Op.move (Operand.tmp 2)) 28 (none) [] _ rfl (by kernel_rfl) (by kernel_rfl) (by kernel_rfl) (by rfl) ?_ ?_ HRF.out
              rotate_left 2
              · (intro W hW hK; go_simp; first | done | with_reducible rfl)
              try simp only [Act.put, List.setIfInBounds_toArray, List.set_cons_zero, List.set_cons_succ]
              refine' Flow.val _ 3 (some 84) (Op.move (Operand.tmp 8)) 3 (none) [] _ rfl (by kernel_rfl) (by kernel_rfl) (by kernel_rfl) (by rfl) ?_ ?_ HRF.out
              rotate_left 2
              · (intro W hW hK; go_simp; first | done | with_reducible rfl)
              try simp only [Act.put, List.setIfInBounds_toArray, List.set_cons_zero, List.set_cons_succ]
              refine' Flow.val _ 4 (some 85) (Op.indexAddr 28 (Operand.tmp 83) (Operand.tmp 84)) 0 (none) [] _ rfl (by kernel_rfl) (by kernel_rfl) (by kernel_rfl) (by rfl) ?_ ?_ HRF.out
              rotate_left 2
              · (intro W hW hK; have hF := SF.out W hW; go_simp; first | done | with_reducible rfl)
              try simp only [Act.put, List.setIfInBounds_toArray, List.set_cons_zero, List.set_cons_succ]
              refine' Flow.val _ 5 (some 86) (Op.fieldAddr 37 (Operand.tmp 85) 1) 0 (none) [] _ rfl (by kernel_rfl) (by kernel_rfl) (by kernel_rfl) (by rfl) ?_ ?_ HRF.out
              rotate_left 2
              · (intro W hW hK; have hF := SF.out W hW; go_simp; first | done | with_reducible rfl)
              try simp only [Act.put, List.setIfInBounds_toArray, List.set_cons_zero, List.set_cons_succ]
              refine' Flow.val _ 6 (some 87) (Op.load 3 (Operand.tmp 86)) 3 (none) [] _ rfl (by kernel_rfl) (by kernel_rfl) (by kernel_rfl) (by rfl) ?_ ?_ HRF.out
              rotate_left 2
              · (intro W hW hK; have hF := SF.out W hW; go_simp; first | done | with_reducible rfl)
              try simp only [Act.put, List.setIfInBounds_toArray, List.set_cons_zero, List.set_cons_succ]
              refine' Flow.val _ 7 (some 88) (Op.move (Operand.tmp 2)) 28 (none) [] _ rfl (by kernel_rfl) (by kernel_rfl) (by kernel_rfl) (by rfl) ?_ ?_ HRF.out
              rotate_left 2
              · (intro W hW hK; go_simp; first | done | with_reducible rfl)
              try simp only [Act.put, List.setIfInBounds_toArray, List.set_cons_zero, List.set_cons_succ]
              refine' Flow.val _ 8 (some 89) (Op.move (Operand.tmp 8)) 3 (none) [] _ rfl (by kernel_rfl) (by kernel_rfl) (by kernel_rfl) (by rfl) ?_ ?_ HRF.out
              rotate_left 2
              · (intro W hW hK; go_simp; first | done | with_reducible rfl)
              try simp only [Act.put, List.setIfInBounds_toArray, List.set_cons_zero, List.set_cons_succ]
              refine' Flow.val _ 9 (some 90) (Op.indexAddr 28 (Operand.tmp 88) (Operand.tmp 89)) 0 (none) [] _ rfl (by kernel_rfl) (by kernel_rfl) (by kernel_rfl) (by rfl) ?_ ?_ HRF.out
              rotate_left 2
              · (intro W hW hK; have hF := SF.out W hW; go_simp; first | done | with_reducible rfl)
              try simp only [Act.put, List.setIfInBounds_toArray, List.set_cons_zero, List.set_cons_succ]
              refine' Flow.val _ 10 (some 91) (Op.fieldAddr 37 (Operand.tmp 90) 2) 0 (none) [] _ rfl (by kernel_rfl) (by kernel_rfl) (by kernel_rfl) (by rfl) ?_ ?_ HRF.out
              rotate_left 2
              · (intro W hW hK; have hF := SF.out W hW; go_simp; first | done | with_reducible rfl)
              try simp only [Act.put, List.setIfInBounds_toArray, List.set_cons_zero, List.set_cons_succ]
              refine' Flow.val _ 11 (some 92) (Op.load 23 (Operand.tmp 91)) 23 (none) [] _ rfl (by kernel_rfl) (by kernel_rfl) (by kernel_rfl) (by rfl) ?_ ?_ HRF.out
              rotate_left 2
              · (intro W hW hK; have hF := SF.out W hW; go_simp; first | done | with_reducible rfl)
              try simp only [Act.put, List.setIfInBounds_toArray, List.set_cons_zero, List.set_cons_succ]
              refine' Flow.val _ 12 (some 93) (Op.move (Operand.tmp 7)) 2 (none) [] _ rfl (by kernel_rfl) (by kernel_rfl) (by kernel_rfl) (by rfl) ?_ ?_ HRF.out
              rotate_left 2
              · (intro W hW hK; go_simp; first | done | with_reducible rfl)
              try simp only [Act.put, List.setIfInBounds_toArray, List.set_cons_zero, List.set_cons_succ]
              refine' Flow.call _ 13 (some 94) (Op.call { callee := Callee.value (Operand.func 23), args := #[Operand.tmp 81, Operand.tmp 82, Operand.tmp 87, Operand.tmp 92, Operand.tmp 93], argTypes := #[25, 27, 3, 23, 2] }) 25 (none) [] _ 23 _ rfl (by kernel_rfl) (by kernel_rfl) (by kernel_rfl) (by rfl) ?_ ?_ ?_
              rotate_left 3
              · (intro W; go_simp; first | done | with_reducible rfl)
              · (intro W hW hK; refine (T10.out W hW).mono ?_; intro e w' h; exact h)
              try simp only [Act.put, List.setIfInBounds_toArray, List.set_cons_zero, List.set_cons_succ]
              refine' Flow.op [] 14 (some 9) (Op.alloc 25) 0 (none) [] (fun v => ∃ g : Nat, v = .pointer (some ⟨g, 0, none⟩) ∧ w.heap.size + 1 < g) (fun v W => ∃ g : Nat, v = .pointer (some ⟨g, 0, none⟩) ∧ W.heap[g]? = some (.cells #[Value.int IntKind.i64 0, Value.int IntKind.i64 0, Value.int IntKind.i64 0, Value.int IntKind.i64 0, Value.int IntKind.i64 0, Value.int IntKind.i64 0, Value.int IntKind.i64 0] 25 (0, 0))) rfl (by kernel_rfl) (by kernel_rfl) (by kernel_rfl) ⟨_, w.heap.size + 2, rfl, by omega⟩ (fun v W W' hb ⟨g, e, h⟩ => ⟨g, e, blk_below h hb⟩) (by rfl) ?_ ?_
              · intro W hW hK
                refine .inl ⟨.pointer (some ⟨W.heap.size, 0, none⟩), W.alloc (.cells #[Value.int IntKind.i64 0, Value.int IntKind.i64 0, Value.int IntKind.i64 0, Value.int IntKind.i64 0, Value.int IntKind.i64 0, Value.int IntKind.i64 0, Value.int IntKind.i64 0] 25), ⟨_, rfl, IL.out W hW⟩, IB.out _ _ hW (below_alloc (Below.refl _ _) _), below_alloc (Below.refl _ _) _, ⟨_, rfl, blk_new W _⟩, ?_⟩
                go_simp
              rintro v ⟨g, rfl, hg⟩
              try simp only [Act.put, List.setIfInBounds_toArray, List.set_cons_zero, List.set_cons_succ]
              refine' Flow.end_ _ 15 (none) (Op.store 25 (Operand.tmp 9) (Operand.tmp 94)) 0 (none) rfl (by kernel_rfl) (by kernel_rfl) (by kernel_rfl) (by rfl) ?_
              intro W hW hK N hN
              have h14 := hK 14 (by kernel_rfl)
              simp only [updK, if_true, if_false, reduceIte] at h14
              clear hK
              obtain ⟨g', e, hz⟩ := h14
              obtain rfl : g = g' := by simpa using e
              clear e
              have zf0 := blk_frozen hz 0; have zf1 := blk_frozen hz 1; have zf2 := blk_frozen hz 2; have zf3 := blk_frozen hz 3; have zf4 := blk_frozen hz 4; have zf5 := blk_frozen hz 5; have zf6 := blk_frozen hz 6
              have zc0 := blk_cell hz 0; have zc1 := blk_cell hz 1; have zc2 := blk_cell hz 2; have zc3 := blk_cell hz 3; have zc4 := blk_cell hz 4; have zc5 := blk_cell hz 5; have zc6 := blk_cell hz 6
              simp only [List.getElem?_toArray, List.getElem?_cons_zero, List.getElem?_cons_succ] at zc0 zc1 zc2 zc3 zc4 zc5 zc6
              have HZ := Aside0.mk hz; have HW := Aside0.mk hW; have HG := Aside0.mk hg; have HN := Aside0.mk hN
              clear hz hW hg hN
              go_simp
              refine HN.out _ _ ?_
              go_wp2_with fail
              go_meet
              refine ⟨g, rfl, ⟨HG.out, ?_, IT.out _ _ _ _ (IT.out _ _ _ _ (IT.out _ _ _ _ (IT.out _ _ _ _ (IT.out _ _ _ _ (IT.out _ _ _ _ (IT.out _ _ _ _ HW.out HG.out) HG.out) HG.out) HG.out) HG.out) HG.out) HG.out⟩⟩
              exact blk_set (blk_set (blk_set (blk_set (blk_set (blk_set (blk_set HZ.out 0 _) 1 _) 2 _) 3 _) 4 _) 5 _) 6 _
            case rest =>
              obtain ⟨g, rfl, HC⟩ := hcut
              obtain ⟨Inv2, hInv2⟩ : ∃ I : World → Prop, I = fun W => Inv W ∧ W.heap[g]? = some (.cells #[.int .i64 s0, .int .i64 s1, .int .i64 s2, .int .i64 s3, .int .i64 (now + L0), .int .i64 V0, .int .i64 V1] 25 (0, 0)) := ⟨_, rfl⟩
              have HI2 : Inv2 wc := by rw [hInv2]; exact ⟨HC.out.2.2, HC.out.2.1⟩
              have IB2 : ∀ W W', Inv2 W → Below W.heap.size W W' → Inv2 W' := by
                rw [hInv2]; rintro W W' ⟨b1, b2⟩ hb
                exact ⟨IB.out _ _ b1 hb, blk_below b2 hb⟩
              have J1 : ∀ W, Inv2 W → Inv W := by rw [hInv2]; exact fun W h => h.1
              have JG : ∀ W, Inv2 W → W.heap[g]? = some (.cells #[.int .i64 s0, .int .i64 s1, .int .i64 s2, .int .i64 s3, .int .i64 (now + L0), .int .i64 V0, .int .i64 V1] 25 (0, 0)) := by rw [hInv2]; exact fun W h => h.2
              have SF2 : ∀ W, Inv2 W → (W.cell? ⟨w.heap.size, 0, none⟩ = some (.int .i64 y0) ∧ W.cell? ⟨w.heap.size, 1, none⟩ = some (.int .i64 y1) ∧ W.cell? ⟨g, 0, none⟩ = some (.int .i64 s0) ∧ W.cell? ⟨g, 1, none⟩ = some (.int .i64 s1) ∧ W.cell? ⟨g, 2, none⟩ = some (.int .i64 s2) ∧ W.cell? ⟨g, 3, none⟩ = some (.int .i64 s3) ∧ W.cell? ⟨g, 4, none⟩ = some (.int .i64 (now + L0)) ∧ W.cell? ⟨g, 5, none⟩ = some (.int .i64 V0) ∧ W.cell? ⟨g, 6, none⟩ = some (.int .i64 V1) ∧ W.cell? { block := (ad.add (i * 4)).block, off := (ad.add (i * 4)).off + 2 } = some (.int .i64 V0) ∧ W.cell? { block := (ad.add (i * 4)).block, off := (ad.add (i * 4)).off + 3 } = some (.int .i64 V1)) := by
                intro W h
                have e1 := IX.out W (J1 W h); have e2 := JG W h
                obtain ⟨ad', e, q0, q1, q2, q3⟩ := HRD.out W (IW.out W (J1 W h))
                obtain rfl := Option.some.inj e
                exact ⟨by rw [blk_cell e1]; rfl, by rw [blk_cell e1]; rfl, by rw [blk_cell e2]; rfl, by rw [blk_cell e2]; rfl, by rw [blk_cell e2]; rfl, by rw [blk_cell e2]; rfl, by rw [blk_cell e2]; rfl, by rw [blk_cell e2]; rfl, by rw [blk_cell e2]; rfl, q2, q3⟩
              have T17 : ∀ W, Inv2 W → Calls Try.prog 17 #[.agg #[.int .i64 s0, .int .i64 s1, .int .i64 s2, .int .i64 s3, .int .i64 (now + L0), .int .i64 V0, .int .i64 V1]] W fun e w' => e = .returned (.int .i64 0) ∧ Inv2 w' := fun W h => (state_Check.calls 3 s0 s1 s2 s3 (now + L0) V0 V1 0 W (by rw [check_prog, if_pos HSTP.out.1])).mono fun e w' ⟨he, hd⟩ => ⟨he, IB2 _ _ h hd⟩
              have N0 : ∀ W, Inv2 W → Calls Try.prog 16 #[.int .i64 0] W fun e w' => e = .returned (.int .i64 0) ∧ Inv2 w' := fun W h => (klaxonlaw17_num.calls 0 0 W rfl).mono fun e w' ⟨he, hd⟩ => ⟨he, IB2 _ _ h (Drawn0.below hd)⟩
              have HI2d := Aside0.mk (IB2 _ _ HI2 (below_drew1 (Below.refl _ _)))
              have SF := Aside0.mk SF2; have T17 := Aside0.mk T17; have N0 := Aside0.mk N0; have J1 := Aside0.mk J1; have JG := Aside0.mk JG
              have HGG := Aside0.mk HC.out.1
              clear hInv2 HI2 IB2 SF2 HC
              go_upto_region 11 with (fail)
              go_cut [141] from 95 to 142 (fun s141 wx => s141 = .bool false ∧ Inv2 wx)
              case first =>
                by_cases hs0 : s0 = y0
                · have hs1 : s1 = y1 := HSTP.out.2.2 hs0
                  have z0 : (s0 == y0) = true := by rw [hs0]; simp
                  have z1 : (s0 != y0) = false := by rw [hs0]; simp
                  have z2 : (s1 != y1) = false := by rw [hs1]; simp
                  have Z3 := Aside0.mk hs1
                  clear hs0 hs1
                  refine wp_region_plan (by kernel_rfl) (by kernel_rfl) Inv2 HI2d.out ?_
                  refine Plan.take 0 (some 95) (Op.load 25 (Operand.tmp 9)) 25 (none) ?_ rfl (by kernel_rfl) (by kernel_rfl) (Tells.val (by rfl) ?_) ?_
                  rotate_left
                  · (intro W hW; have hF := SF.out W hW; go_simp; first | done | with_reducible rfl)
                  try simp only [Act.put, List.setIfInBounds_toArray, List.set_cons_zero, List.set_cons_succ]
                  refine Plan.take 1 (some 96) (Op.call { callee := Callee.value (Operand.func 17), args := #[Operand.tmp 95], argTypes := #[25] }) 32 (none) ?_ rfl (by kernel_rfl) (by kernel_rfl) (Tells.call 17 ?_ (by rfl) ?_ ?_) ?_
                  rotate_left 2
                  · (intro W; go_simp; first | done | with_reducible rfl)
                  · exact T17.out
                  try simp only [Act.put, List.setIfInBounds_toArray, List.set_cons_zero, List.set_cons_succ]
                  refine Plan.take 2 (some 97) (Op.call { callee := Callee.value (Operand.func 16), args := #[Operand.tmp 96], argTypes := #[32] }) 3 (none) ?_ rfl (by kernel_rfl) (by kernel_rfl) (Tells.call 16 ?_ (by rfl) ?_ ?_) ?_
                  rotate_left 2
                  · (intro W; go_simp; first | done | with_reducible rfl)
                  · exact N0.out
                  try simp only [Act.put, List.setIfInBounds_toArray, List.set_cons_zero, List.set_cons_succ]
                  refine Plan.take 3 (some 98) (Op.binOp BinOp.neq 3 (Operand.tmp 97) (Operand.const (Value.int IntKind.i64 0)) 3) 4 (none) ?_ rfl (by kernel_rfl) (by kernel_rfl) (Tells.val (by rfl) ?_) ?_
                  rotate_left
                  · (intro W hW; go_simp; first | done | with_reducible rfl)
                  try simp only [Act.put, List.setIfInBounds_toArray, List.set_cons_zero, List.set_cons_succ]
                  refine Plan.take 4 (some 99) (Op.move (Operand.tmp 98)) 4 (none) ?_ rfl (by kernel_rfl) (by kernel_rfl) (Tells.val (by rfl) ?_) ?_
                  rotate_left
                  · (intro W hW; go_simp; first | done | with_reducible rfl)
                  try simp only [Act.put, List.setIfInBounds_toArray, List.set_cons_zero, List.set_cons_succ]
                  refine Plan.take 5 (some 100) (Op.fieldAddr 25 (Operand.tmp 9) 4) 0 (some (4, false)) ?_ rfl (by kernel_rfl) (by kernel_rfl) (Tells.val (by rfl) ?_) ?_
                  rotate_left
                  · (intro W hW; have hF := SF.out W hW; go_simp; first | done | with_reducible rfl)
                  try simp only [Act.put, List.setIfInBounds_toArray, List.set_cons_zero, List.set_cons_succ]
                  refine Plan.take 6 (some 101) (Op.load 2 (Operand.tmp 100)) 2 (some (4, false)) ?_ rfl (by kernel_rfl) (by kernel_rfl) (Tells.val (by rfl) ?_) ?_
                  rotate_left
                  · (intro W hW; have hF := SF.out W hW; go_simp; first | done | with_reducible rfl)
                  try simp only [Act.put, List.setIfInBounds_toArray, List.set_cons_zero, List.set_cons_succ]
                  refine Plan.take 7 (some 102) (Op.move (Operand.tmp 7)) 2 (some (4, false)) ?_ rfl (by kernel_rfl) (by kernel_rfl) (Tells.val (by rfl) ?_) ?_
                  rotate_left
                  · (intro W hW; go_simp; first | done | with_reducible rfl)
                  try simp only [Act.put, List.setIfInBounds_toArray, List.set_cons_zero, List.set_cons_succ]
                  refine Plan.take 8 (some 103) (Op.binOp BinOp.neq 2 (Operand.tmp 101) (Operand.tmp 102) 2) 4 (some (4, false)) ?_ rfl (by kernel_rfl) (by kernel_rfl) (Tells.val (by rfl) ?_) ?_
                  rotate_left
                  · (intro W hW; go_simp; first | done | with_reducible rfl)
                  try simp only [Act.put, List.setIfInBounds_toArray, List.set_cons_zero, List.set_cons_succ]
                  refine Plan.take 9 (some 104) (Op.pick (Operand.tmp 99) (Operand.const (Value.bool true)) (Operand.tmp 103)) 4 (none) ?_ rfl (by kernel_rfl) (by kernel_rfl) (Tells.val (by rfl) ?_) ?_
                  rotate_left
                  · (intro W hW; go_simp; first | done | with_reducible rfl)
                  try simp only [Act.put, List.setIfInBounds_toArray, List.set_cons_zero, List.set_cons_succ]
                  refine Plan.take 10 (some 105) (Op.move (Operand.tmp 104)) 4 (none) ?_ rfl (by kernel_rfl) (by kernel_rfl) (Tells.val (by rfl) ?_) ?_
                  rotate_left
                  · (intro W hW; go_simp; first | done | with_reducible rfl)
                  try simp only [Act.put, List.setIfInBounds_toArray, List.set_cons_zero, List.set_cons_succ]
                  refine Plan.take 11 (some 106) (Op.fieldAddr 25 (Operand.tmp 9) 5) 0 (some (10, false)) ?_ rfl (by kernel_rfl) (by kernel_rfl) (Tells.val (by rfl) ?_) ?_
                  rotate_left
                  · (intro W hW; have hF := SF.out W hW; go_simp; first | done | with_reducible rfl)
                  try simp only [Act.put, List.setIfInBounds_toArray, List.set_cons_zero, List.set_cons_succ]
                  refine Plan.take 12 (some 107) (Op.load 23 (Operand.tmp 106)) 23 (some (10, false)) ?_ rfl (by kernel_rfl) (by kernel_rfl) (Tells.val (by rfl) ?_) ?_
                  rotate_left
                  · (intro W hW; have hF := SF.out W hW; go_simp; first | done | with_reducible rfl)
                  try simp only [Act.put, List.setIfInBounds_toArray, List.set_cons_zero, List.set_cons_succ]
                  refine Plan.take 13 (some 108) (Op.move (Operand.tmp 2)) 28 (some (10, false)) ?_ rfl (by kernel_rfl) (by kernel_rfl) (Tells.val (by rfl) ?_) ?_
                  rotate_left
                  · (intro W hW; go_simp; first | done | with_reducible rfl)
                  try simp only [Act.put, List.setIfInBounds_toArray, List.set_cons_zero, List.set_cons_succ]
                  refine Plan.take 14 (some 109) (Op.move (Operand.tmp 8)) 3 (some (10, false)) ?_ rfl (by kernel_rfl) (by kernel_rfl) (Tells.val (by rfl) ?_) ?_
                  rotate_left
                  · (intro W hW; go_simp; first | done | with_reducible rfl)
                  try simp only [Act.put, List.setIfInBounds_toArray, List.set_cons_zero, List.set_cons_succ]
                  refine Plan.take 15 (some 110) (Op.indexAddr 28 (Operand.tmp 108) (Operand.tmp 109)) 0 (some (10, false)) ?_ rfl (by kernel_rfl) (by kernel_rfl) (Tells.val (by rfl) ?_) ?_
                  rotate_left
                  · (intro W hW; have hF := SF.out W hW; go_simp; first | done | with_reducible rfl)
                  try simp only [Act.put, List.setIfInBounds_toArray, List.set_cons_zero, List.set_cons_succ]
                  refine Plan.take 16 (some 111) (Op.fieldAddr 37 (Operand.tmp 110) 2) 0 (some (10, false)) ?_ rfl (by kernel_rfl) (by kernel_rfl) (Tells.val (by rfl) ?_) ?_
                  rotate_left
                  · (intro W hW; have hF := SF.out W hW; go_simp; first | done | with_reducible rfl)
                  try simp only [Act.put, List.setIfInBounds_toArray, List.set_cons_zero, List.set_cons_succ]
                  refine Plan.take 17 (some 112) (Op.load 23 (Operand.tmp 111)) 23 (some (10, false)) ?_ rfl (by kernel_rfl) (by kernel_rfl) (Tells.val (by rfl) ?_) ?_
                  rotate_left
                  · (intro W hW; have hF := SF.out W hW; go_simp; first | done | with_reducible rfl)
                  try simp only [Act.put, List.setIfInBounds_toArray, List.set_cons_zero, List.set_cons_succ]
                  refine Plan.take 18 (some 113) (Op.binOp BinOp.neq 23 (Operand.tmp 107) (Operand.tmp 112) 23) 4 (some (10, false)) ?_ rfl (by kernel_rfl) (by kernel_rfl) (Tells.val (by rfl) ?_) ?_
                  rotate_left
                  · (intro W hW; go_simp; first | done | with_reducible rfl)
                  try simp only [Act.put, List.setIfInBounds_toArray, List.set_cons_zero, List.set_cons_succ]
                  refine Plan.take 19 (some 114) (Op.pick (Operand.tmp 105) (Operand.const (Value.bool true)) (Operand.tmp 113)) 4 (none) ?_ rfl (by kernel_rfl) (by kernel_rfl) (Tells.val (by rfl) ?_) ?_
                  rotate_left
                  · (intro W hW; go_simp; first | done | with_reducible rfl)
                  try simp only [Act.put, List.setIfInBounds_toArray, List.set_cons_zero, List.set_cons_succ]
                  refine Plan.take 20 (some 115) (Op.move (Operand.tmp 114)) 4 (none) ?_ rfl (by kernel_rfl) (by kernel_rfl) (Tells.val (by rfl) ?_) ?_
                  rotate_left
                  · (intro W hW; go_simp; first | done | with_reducible rfl)
                  try simp only [Act.put, List.setIfInBounds_toArray, List.set_cons_zero, List.set_cons_succ]
                  refine Plan.take 21 (some 116) (Op.fieldAddr 25 (Operand.tmp 9) 0) 0 (some (20, false)) ?_ rfl (by kernel_rfl) (by kernel_rfl) (Tells.val (by rfl) ?_) ?_
                  rotate_left
                  · (intro W hW; have hF := SF.out W hW; go_simp; first | done | with_reducible rfl)
                  try simp only [Act.put, List.setIfInBounds_toArray, List.set_cons_zero, List.set_cons_succ]
                  refine Plan.take 22 (some 117) (Op.load 3 (Operand.tmp 116)) 3 (some (20, false)) ?_ rfl (by kernel_rfl) (by kernel_rfl) (Tells.val (by rfl) ?_) ?_
                  rotate_left
                  · (intro W hW; have hF := SF.out W hW; go_simp; first | done | with_reducible rfl)
                  try simp only [Act.put, List.setIfInBounds_toArray, List.set_cons_zero, List.set_cons_succ]
                  refine Plan.take 23 (some 118) (Op.fieldAddr 25 (Operand.tmp 3) 0) 0 (some (20, false)) ?_ rfl (by kernel_rfl) (by kernel_rfl) (Tells.val (by rfl) ?_) ?_
                  rotate_left
                  · (intro W hW; have hF := SF.out W hW; go_simp; first | done | with_reducible rfl)
                  try simp only [Act.put, List.setIfInBounds_toArray, List.set_cons_zero, List.set_cons_succ]
                  refine Plan.take 24 (some 119) (Op.load 3 (Operand.tmp 118)) 3 (some (20, false)) ?_ rfl (by kernel_rfl) (by kernel_rfl) (Tells.val (by rfl) ?_) ?_
                  rotate_left
                  · (intro W hW; have hF := SF.out W hW; go_simp; first | done | with_reducible rfl)
                  try simp only [Act.put, List.setIfInBounds_toArray, List.set_cons_zero, List.set_cons_succ]
                  refine Plan.take 25 (some 120) (Op.binOp BinOp.neq 3 (Operand.tmp 117) (Operand.tmp 119) 3) 4 (some (20, false)) ?_ rfl (by kernel_rfl) (by kernel_rfl) (Tells.val (by rfl) ?_) ?_
                  rotate_left
                  · (intro W hW; go_simp; first | done | with_reducible rfl)
                  try simp only [Act.put, List.setIfInBounds_toArray, List.set_cons_zero, List.set_cons_succ]
                  refine Plan.take 26 (some 121) (Op.move (Operand.tmp 120)) 4 (some (20, false)) ?_ rfl (by kernel_rfl) (by kernel_rfl) (Tells.val (by rfl) ?_) ?_
                  rotate_left
                  · (intro W hW; go_simp; first | done | with_reducible rfl)
                  try simp only [Act.put, List.setIfInBounds_toArray, List.set_cons_zero, List.set_cons_succ]
                  refine Plan.take 27 (some 122) (Op.fieldAddr 25 (Operand.tmp 9) 1) 0 (some (26, true)) undef rfl (by kernel_rfl) (by kernel_rfl) (Tells.not (by rfl)) ?_
                  try simp only [Act.put, List.setIfInBounds_toArray, List.set_cons_zero, List.set_cons_succ]
                  refine Plan.take 28 (some 123) (Op.load 2 (Operand.tmp 122)) 2 (some (26, true)) undef rfl (by kernel_rfl) (by kernel_rfl) (Tells.not (by rfl)) ?_
                  try simp only [Act.put, List.setIfInBounds_toArray, List.set_cons_zero, List.set_cons_succ]
                  refine Plan.take 29 (some 124) (Op.move (Operand.tmp 7)) 2 (some (26, true)) undef rfl (by kernel_rfl) (by kernel_rfl) (Tells.not (by rfl)) ?_
                  try simp only [Act.put, List.setIfInBounds_toArray, List.set_cons_zero, List.set_cons_succ]
                  refine Plan.take 30 (some 125) (Op.binOp BinOp.neq 2 (Operand.tmp 123) (Operand.tmp 124) 2) 4 (some (26, true)) undef rfl (by kernel_rfl) (by kernel_rfl) (Tells.not (by rfl)) ?_
                  try simp only [Act.put, List.setIfInBounds_toArray, List.set_cons_zero, List.set_cons_succ]
                  refine Plan.take 31 (some 126) (Op.pick (Operand.tmp 121) (Operand.tmp 125) (Operand.const (Value.bool false))) 4 (some (20, false)) ?_ rfl (by kernel_rfl) (by kernel_rfl) (Tells.val (by rfl) ?_) ?_
                  rotate_left
                  · (intro W hW; go_simp; first | done | with_reducible rfl)
                  try simp only [Act.put, List.setIfInBounds_toArray, List.set_cons_zero, List.set_cons_succ]
                  refine Plan.take 32 (some 127) (Op.pick (Operand.tmp 115) (Operand.const (Value.bool true)) (Operand.tmp 126)) 4 (none) ?_ rfl (by kernel_rfl) (by kernel_rfl) (Tells.val (by rfl) ?_) ?_
                  rotate_left
                  · (intro W hW; go_simp; first | done | with_reducible rfl)
                  try simp only [Act.put, List.setIfInBounds_toArray, List.set_cons_zero, List.set_cons_succ]
                  refine Plan.take 33 (some 128) (Op.move (Operand.tmp 127)) 4 (none) ?_ rfl (by kernel_rfl) (by kernel_rfl) (Tells.val (by rfl) ?_) ?_
                  rotate_left
                  · (intro W hW; go_simp; first | done | with_reducible rfl)
                  try simp only [Act.put, List.setIfInBounds_toArray, List.set_cons_zero, List.set_cons_succ]
                  refine Plan.take 34 (some 129) (Op.fieldAddr 25 (Operand.tmp 9) 0) 0 (some (33, false)) ?_ rfl (by kernel_rfl) (by kernel_rfl) (Tells.val (by rfl) ?_) ?_
                  rotate_left
                  · (intro W hW; have hF := SF.out W hW; go_simp; first | done | with_reducible rfl)
                  try simp only [Act.put, List.setIfInBounds_toArray, List.set_cons_zero, List.set_cons_succ]
                  refine Plan.take 35 (some 130) (Op.load 3 (Operand.tmp 129)) 3 (some (33, false)) ?_ rfl (by kernel_rfl) (by kernel_rfl) (Tells.val (by rfl) ?_) ?_
                  rotate_left
                  · (intro W hW; have hF := SF.out W hW; go_simp; first | done | with_reducible rfl)
                  try simp only [Act.put, List.setIfInBounds_toArray, List.set_cons_zero, List.set_cons_succ]
                  refine Plan.take 36 (some 131) (Op.fieldAddr 25 (Operand.tmp 3) 0) 0 (some (33, false)) ?_ rfl (by kernel_rfl) (by kernel_rfl) (Tells.val (by rfl) ?_) ?_
                  rotate_left
                  · (intro W hW; have hF := SF.out W hW; go_simp; first | done | with_reducible rfl)
                  try simp only [Act.put, List.setIfInBounds_toArray, List.set_cons_zero, List.set_cons_succ]
                  refine Plan.take 37 (some 132) (Op.load 3 (Operand.tmp 131)) 3 (some (33, false)) ?_ rfl (by kernel_rfl) (by kernel_rfl) (Tells.val (by rfl) ?_) ?_
                  rotate_left
                  · (intro W hW; have hF := SF.out W hW; go_simp; first | done | with_reducible rfl)
                  try simp only [Act.put, List.setIfInBounds_toArray, List.set_cons_zero, List.set_cons_succ]
                  refine Plan.take 38 (some 133) (Op.binOp BinOp.eql 3 (Operand.tmp 130) (Operand.tmp 132) 3) 4 (some (33, false)) ?_ rfl (by kernel_rfl) (by kernel_rfl) (Tells.val (by rfl) ?_) ?_
                  rotate_left
                  · (intro W hW; go_simp; first | done | with_reducible rfl)
                  try simp only [Act.put, List.setIfInBounds_toArray, List.set_cons_zero, List.set_cons_succ]
                  refine Plan.take 39 (some 134) (Op.move (Operand.tmp 133)) 4 (some (33, false)) ?_ rfl (by kernel_rfl) (by kernel_rfl) (Tells.val (by rfl) ?_) ?_
                  rotate_left
                  · (intro W hW; go_simp; first | done | with_reducible rfl)
                  try simp only [Act.put, List.setIfInBounds_toArray, List.set_cons_zero, List.set_cons_succ]
                  refine Plan.take 40 (some 135) (Op.fieldAddr 25 (Operand.tmp 9) 1) 0 (some (39, true)) ?_ rfl (by kernel_rfl) (by kernel_rfl) (Tells.val (by rfl) ?_) ?_
                  rotate_left
                  · (intro W hW; have hF := SF.out W hW; go_simp; first | done | with_reducible rfl)
                  try simp only [Act.put, List.setIfInBounds_toArray, List.set_cons_zero, List.set_cons_succ]
                  refine Plan.take 41 (some 136) (Op.load 2 (Operand.tmp 135)) 2 (some (39, true)) ?_ rfl (by kernel_rfl) (by kernel_rfl) (Tells.val (by rfl) ?_) ?_
                  rotate_left
                  · (intro W hW; have hF := SF.out W hW; go_simp; first | done | with_reducible rfl)
                  try simp only [Act.put, List.setIfInBounds_toArray, List.set_cons_zero, List.set_cons_succ]
                  refine Plan.take 42 (some 137) (Op.fieldAddr 25 (Operand.tmp 3) 1) 0 (some (39, true)) ?_ rfl (by kernel_rfl) (by kernel_rfl) (Tells.val (by rfl) ?_) ?_
                  rotate_left
                  · (intro W hW; have hF := SF.out W hW; go_simp; first | done | with_reducible rfl)
                  try simp only [Act.put, List.setIfInBounds_toArray, List.set_cons_zero, List.set_cons_succ]
                  refine Plan.take 43 (some 138) (Op.load 2 (Operand.tmp 137)) 2 (some (39, true)) ?_ rfl (by kernel_rfl) (by kernel_rfl) (Tells.val (by rfl) ?_) ?_
                  rotate_left
                  · (intro W hW; have hF := SF.out W hW; go_simp; first | done | with_reducible rfl)
                  try simp only [Act.put, List.setIfInBounds_toArray, List.set_cons_zero, List.set_cons_succ]
                  refine Plan.take 44 (some 139) (Op.binOp BinOp.neq 2 (Operand.tmp 136) (Operand.tmp 138) 2) 4 (some (39, true)) ?_ rfl (by kernel_rfl) (by kernel_rfl) (Tells.val (by rfl) ?_) ?_
                  rotate_left
                  · (intro W hW; go_simp; first | done | with_reducible rfl)
                  try simp only [Act.put, List.setIfInBounds_toArray, List.set_cons_zero, List.set_cons_succ]
                  refine Plan.take 45 (some 140) (Op.pick (Operand.tmp 134) (Operand.tmp 139) (Operand.const (Value.bool false))) 4 (some (33, false)) ?_ rfl (by kernel_rfl) (by kernel_rfl) (Tells.val (by rfl) ?_) ?_
                  rotate_left
                  · (intro W hW; go_simp; first | done | with_reducible rfl)
                  try simp only [Act.put, List.setIfInBounds_toArray, List.set_cons_zero, List.set_cons_succ]
                  refine Plan.take 46 (some 141) (Op.pick (Operand.tmp 128) (Operand.const (Value.bool true)) (Operand.tmp 140)) 4 (none) ?_ rfl (by kernel_rfl) (by kernel_rfl) (Tells.val (by rfl) ?_) ?_
                  rotate_left
                  · (intro W hW; go_simp; first | done | with_reducible rfl)
                  try simp only [Act.put, List.setIfInBounds_toArray, List.set_cons_zero, List.set_cons_succ]
                  refine Plan.done _ (by kernel_rfl) ?_
                  intro W hW
                  go_wp2_with fail
                  go_meet
                  exact ⟨rfl, hW⟩
                · have hs1 : s1 = now + L0 := HSTP.out.2.1 hs0
                  have z0 : (s0 == y0) = false := by simpa using hs0
                  have z1 : (s0 != y0) = true := by simpa using hs0
                  have z2 : (s1 != now + L0) = false := by rw [hs1]; simp
                  have Z3 := Aside0.mk hs1
                  clear hs0 hs1
                  refine wp_region_plan (by kernel_rfl) (by kernel_rfl) Inv2 HI2d.out ?_
                  refine Plan.take 0 (some 95) (Op.load 25 (Operand.tmp 9)) 25 (none) ?_ rfl (by kernel_rfl) (by kernel_rfl) (Tells.val (by rfl) ?_) ?_
                  rotate_left
                  · (intro W hW; have hF := SF.out W hW; go_simp; first | done | with_reducible rfl)
                  try simp only [Act.put, List.setIfInBounds_toArray, List.set_cons_zero, List.set_cons_succ]
                  refine Plan.take 1 (some 96) (Op.call { callee := Callee.value (Operand.func 17), args := #[Operand.tmp 95], argTypes := #[25] }) 32 (none) ?_ rfl (by kernel_rfl) (by kernel_rfl) (Tells.call 17 ?_ (by rfl) ?_ ?_) ?_
                  rotate_left 2
                  · (intro W; go_simp; first | done | with_reducible rfl)
                  · exact T17.out
                  try simp only [Act.put, List.setIfInBounds_toArray, List.set_cons_zero, List.set_cons_succ]
                  refine Plan.take 2 (some 97) (Op.call { callee := Callee.value (Operand.func 16), args := #[Operand.tmp 96], argTypes := #[32] }) 3 (none) ?_ rfl (by kernel_rfl) (by kernel_rfl) (Tells.call 16 ?_ (by rfl) ?_ ?_) ?_
                  rotate_left 2
                  · (intro W; go_simp; first | done | with_reducible rfl)
                  · exact N0.out
                  try simp only [Act.put, List.setIfInBounds_toArray, List.set_cons_zero, List.set_cons_succ]
                  refine Plan.take 3 (some 98) (Op.binOp BinOp.neq 3 (Operand.tmp 97) (Operand.const (Value.int IntKind.i64 0)) 3) 4 (none) ?_ rfl (by kernel_rfl) (by kernel_rfl) (Tells.val (by rfl) ?_) ?_
                  rotate_left
                  · (intro W hW; go_simp; first | done | with_reducible rfl)
                  try simp only [Act.put, List.setIfInBounds_toArray, List.set_cons_zero, List.set_cons_succ]
                  refine Plan.take 4 (some 99) (Op.move (Operand.tmp 98)) 4 (none) ?_ rfl (by kernel_rfl) (by kernel_rfl) (Tells.val (by rfl) ?_) ?_
                  rotate_left
                  · (intro W hW; go_simp; first | done | with_reducible rfl)
                  try simp only [Act.put, List.setIfInBounds_toArray, List.set_cons_zero, List.set_cons_succ]
                  refine Plan.take 5 (some 100) (Op.fieldAddr 25 (Operand.tmp 9) 4) 0 (some (4, false)) ?_ rfl (by kernel_rfl) (by kernel_rfl) (Tells.val (by rfl) ?_) ?_
                  rotate_left
                  · (intro W hW; have hF := SF.out W hW; go_simp; first | done | with_reducible rfl)
                  try simp only [Act.put, List.setIfInBounds_toArray, List.set_cons_zero, List.set_cons_succ]
                  refine Plan.take 6 (some 101) (Op.load 2 (Operand.tmp 100)) 2 (some (4, false)) ?_ rfl (by kernel_rfl) (by kernel_rfl) (Tells.val (by rfl) ?_) ?_
                  rotate_left
                  · (intro W hW; have hF := SF.out W hW; go_simp; first | done | with_reducible rfl)
                  try simp only [Act.put, List.setIfInBounds_toArray, List.set_cons_zero, List.set_cons_succ]
                  refine Plan.take 7 (some 102) (Op.move (Operand.tmp 7)) 2 (some (4, false)) ?_ rfl (by kernel_rfl) (by kernel_rfl) (Tells.val (by rfl) ?_) ?_
                  rotate_left
                  · (intro W hW; go_simp; first | done | with_reducible rfl)
                  try simp only [Act.put, List.setIfInBounds_toArray, List.set_cons_zero, List.set_cons_succ]
                  refine Plan.take 8 (some 103) (Op.binOp BinOp.neq 2 (Operand.tmp 101) (Operand.tmp 102) 2) 4 (some (4, false)) ?_ rfl (by kernel_rfl) (by kernel_rfl) (Tells.val (by rfl) ?_) ?_
                  rotate_left
                  · (intro W hW; go_simp; first | done | with_reducible rfl)
                  try simp only [Act.put, List.setIfInBounds_toArray, List.set_cons_zero, List.set_cons_succ]
                  refine Plan.take 9 (some 104) (Op.pick (Operand.tmp 99) (Operand.const (Value.bool true)) (Operand.tmp 103)) 4 (none) ?_ rfl (by kernel_rfl) (by kernel_rfl) (Tells.val (by rfl) ?_) ?_
                  rotate_left
                  · (intro W hW; go_simp; first | done | with_reducible rfl)
                  try simp only [Act.put, List.setIfInBounds_toArray, List.set_cons_zero, List.set_cons_succ]
                  refine Plan.take 10 (some 105) (Op.move (Operand.tmp 104)) 4 (none) ?_ rfl (by kernel_rfl) (by kernel_rfl) (Tells.val (by rfl) ?_) ?_
                  rotate_left
                  · (intro W hW; go_simp; first | done | with_reducible rfl)
                  try simp only [Act.put, List.setIfInBounds_toArray, List.set_cons_zero, List.set_cons_succ]
                  refine Plan.take 11 (some 106) (Op.fieldAddr 25 (Operand.tmp 9) 5) 0 (some (10, false)) ?_ rfl (by kernel_rfl) (by kernel_rfl) (Tells.val (by rfl) ?_) ?_
                  rotate_left
                  · (intro W hW; have hF := SF.out W hW; go_simp; first | done | with_reducible rfl)
                  try simp only [Act.put, List.setIfInBounds_toArray, List.set_cons_zero, List.set_cons_succ]
                  refine Plan.take 12 (some 107) (Op.load 23 (Operand.tmp 106)) 23 (some (10, false)) ?_ rfl (by kernel_rfl) (by kernel_rfl) (Tells.val (by rfl) ?_) ?_
                  rotate_left
                  · (intro W hW; have hF := SF.out W hW; go_simp; first | done | with_reducible rfl)
                  try simp only [Act.put, List.setIfInBounds_toArray, List.set_cons_zero, List.set_cons_succ]
                  refine Plan.take 13 (some 108) (Op.move (Operand.tmp 2)) 28 (some (10, false)) ?_ rfl (by kernel_rfl) (by kernel_rfl) (Tells.val (by rfl) ?_) ?_
                  rotate_left
                  · (intro W hW; go_simp; first | done | with_reducible rfl)
                  try simp only [Act.put, List.setIfInBounds_toArray, List.set_cons_zero, List.set_cons_succ]
                  refine Plan.take 14 (some 109) (Op.move (Operand.tmp 8)) 3 (some (10, false)) ?_ rfl (by kernel_rfl) (by kernel_rfl) (Tells.val (by rfl) ?_) ?_
                  rotate_left
                  · (intro W hW; go_simp; first | done | with_reducible rfl)
                  try simp only [Act.put, List.setIfInBounds_toArray, List.set_cons_zero, List.set_cons_succ]
                  refine Plan.take 15 (some 110) (Op.indexAddr 28 (Operand.tmp 108) (Operand.tmp 109)) 0 (some (10, false)) ?_ rfl (by kernel_rfl) (by kernel_rfl) (Tells.val (by rfl) ?_) ?_
                  rotate_left
                  · (intro W hW; have hF := SF.out W hW; go_simp; first | done | with_reducible rfl)
                  try simp only [Act.put, List.setIfInBounds_toArray, List.set_cons_zero, List.set_cons_succ]
                  refine Plan.take 16 (some 111) (Op.fieldAddr 37 (Operand.tmp 110) 2) 0 (some (10, false)) ?_ rfl (by kernel_rfl) (by kernel_rfl) (Tells.val (by rfl) ?_) ?_
                  rotate_left
                  · (intro W hW; have hF := SF.out W hW; go_simp; first | done | with_reducible rfl)
                  try simp only [Act.put, List.setIfInBounds_toArray, List.set_cons_zero, List.set_cons_succ]
                  refine Plan.take 17 (some 112) (Op.load 23 (Operand.tmp 111)) 23 (some (10, false)) ?_ rfl (by kernel_rfl) (by kernel_rfl) (Tells.val (by rfl) ?_) ?_
                  rotate_left
                  · (intro W hW; have hF := SF.out W hW; go_simp; first | done | with_reducible rfl)
                  try simp only [Act.put, List.setIfInBounds_toArray, List.set_cons_zero, List.set_cons_succ]
                  refine Plan.take 18 (some 113) (Op.binOp BinOp.neq 23 (Operand.tmp 107) (Operand.tmp 112) 23) 4 (some (10, false)) ?_ rfl (by kernel_rfl) (by kernel_rfl) (Tells.val (by rfl) ?_) ?_
                  rotate_left
                  · (intro W hW; go_simp; first | done | with_reducible rfl)
                  try simp only [Act.put, List.setIfInBounds_toArray, List.set_cons_zero, List.set_cons_succ]
                  refine Plan.take 19 (some 114) (Op.pick (Operand.tmp 105) (Operand.const (Value.bool true)) (Operand.tmp 113)) 4 (none) ?_ rfl (by kernel_rfl) (by kernel_rfl) (Tells.val (by rfl) ?_) ?_
                  rotate_left
                  · (intro W hW; go_simp; first | done | with_reducible rfl)
                  try simp only [Act.put, List.setIfInBounds_toArray, List.set_cons_zero, List.set_cons_succ]
                  refine Plan.take 20 (some 115) (Op.move (Operand.tmp 114)) 4 (none) ?_ rfl (by kernel_rfl) (by kernel_rfl) (Tells.val (by rfl) ?_) ?_
                  rotate_left
                  · (intro W hW; go_simp; first | done | with_reducible rfl)
                  try simp only [Act.put, List.setIfInBounds_toArray, List.set_cons_zero, List.set_cons_succ]
                  refine Plan.take 21 (some 116) (Op.fieldAddr 25 (Operand.tmp 9) 0) 0 (some (20, false)) ?_ rfl (by kernel_rfl) (by kernel_rfl) (Tells.val (by rfl) ?_) ?_
                  rotate_left
                  · (intro W hW; have hF := SF.out W hW; go_simp; first | done | with_reducible rfl)
                  try simp only [Act.put, List.setIfInBounds_toArray, List.set_cons_zero, List.set_cons_succ]
                  refine Plan.take 22 (some 117) (Op.load 3 (Operand.tmp 116)) 3 (some (20, false)) ?_ rfl (by kernel_rfl) (by kernel_rfl) (Tells.val (by rfl) ?_) ?_
                  rotate_left
                  · (intro W hW; have hF := SF.out W hW; go_simp; first | done | with_reducible rfl)
                  try simp only [Act.put, List.setIfInBounds_toArray, List.set_cons_zero, List.set_cons_succ]
                  refine Plan.take 23 (some 118) (Op.fieldAddr 25 (Operand.tmp 3) 0) 0 (some (20, false)) ?_ rfl (by kernel_rfl) (by kernel_rfl) (Tells.val (by rfl) ?_) ?_
                  rotate_left
                  · (intro W hW; have hF := SF.out W hW; go_simp; first | done | with_reducible rfl)
                  try simp only [Act.put, List.setIfInBounds_toArray, List.set_cons_zero, List.set_cons_succ]
                  refine Plan.take 24 (some 119) (Op.load 3 (Operand.tmp 118)) 3 (some (20, false)) ?_ rfl (by kernel_rfl) (by kernel_rfl) (Tells.val (by rfl) ?_) ?_
                  rotate_left
                  · (intro W hW; have hF := SF.out W hW; go_simp; first | done | with_reducible rfl)
                  try simp only [Act.put, List.setIfInBounds_toArray, List.set_cons_zero, List.set_cons_succ]
                  refine Plan.take 25 (some 120) (Op.binOp BinOp.neq 3 (Operand.tmp 117) (Operand.tmp 119) 3) 4 (some (20, false)) ?_ rfl (by kernel_rfl) (by kernel_rfl) (Tells.val (by rfl) ?_) ?_
                  rotate_left
                  · (intro W hW; go_simp; first | done | with_reducible rfl)
                  try simp only [Act.put, List.setIfInBounds_toArray, List.set_cons_zero, List.set_cons_succ]
                  refine Plan.take 26 (some 121) (Op.move (Operand.tmp 120)) 4 (some (20, false)) ?_ rfl (by kernel_rfl) (by kernel_rfl) (Tells.val (by rfl) ?_) ?_
                  rotate_left
                  · (intro W hW; go_simp; first | done | with_reducible rfl)
                  try simp only [Act.put, List.setIfInBounds_toArray, List.set_cons_zero, List.set_cons_succ]
                  refine Plan.take 27 (some 122) (Op.fieldAddr 25 (Operand.tmp 9) 1) 0 (some (26, true)) ?_ rfl (by kernel_rfl) (by kernel_rfl) (Tells.val (by rfl) ?_) ?_
                  rotate_left
                  · (intro W hW; have hF := SF.out W hW; go_simp; first | done | with_reducible rfl)
                  try simp only [Act.put, List.setIfInBounds_toArray, List.set_cons_zero, List.set_cons_succ]
                  refine Plan.take 28 (some 123) (Op.load 2 (Operand.tmp 122)) 2 (some (26, true)) ?_ rfl (by kernel_rfl) (by kernel_rfl) (Tells.val (by rfl) ?_) ?_
                  rotate_left
                  · (intro W hW; have hF := SF.out W hW; go_simp; first | done | with_reducible rfl)
                  try simp only [Act.put, List.setIfInBounds_toArray, List.set_cons_zero, List.set_cons_succ]
                  refine Plan.take 29 (some 124) (Op.move (Operand.tmp 7)) 2 (some (26, true)) ?_ rfl (by kernel_rfl) (by kernel_rfl) (Tells.val (by rfl) ?_) ?_
                  rotate_left
                  · (intro W hW; go_simp; first | done | with_reducible rfl)
                  try simp only [Act.put, List.setIfInBounds_toArray, List.set_cons_zero, List.set_cons_succ]
                  refine Plan.take 30 (some 125) (Op.binOp BinOp.neq 2 (Operand.tmp 123) (Operand.tmp 124) 2) 4 (some (26, true)) ?_ rfl (by kernel_rfl) (by kernel_rfl) (Tells.val (by rfl) ?_) ?_
                  rotate_left
                  · (intro W hW; go_simp; first | done | with_reducible rfl)
                  try simp only [Act.put, List.setIfInBounds_toArray, List.set_cons_zero, List.set_cons_succ]
                  refine Plan.take 31 (some 126) (Op.pick (Operand.tmp 121) (Operand.tmp 125) (Operand.const (Value.bool false))) 4 (some (20, false)) ?_ rfl (by kernel_rfl) (by kernel_rfl) (Tells.val (by rfl) ?_) ?_
                  rotate_left
                  · (intro W hW; go_simp; first | done | with_reducible rfl)
                  try simp only [Act.put, List.setIfInBounds_toArray, List.set_cons_zero, List.set_cons_succ]
                  refine Plan.take 32 (some 127) (Op.pick (Operand.tmp 115) (Operand.const (Value.bool true)) (Operand.tmp 126)) 4 (none) ?_ rfl (by kernel_rfl) (by kernel_rfl) (Tells.val (by rfl) ?_) ?_
                  rotate_left
                  · (intro W hW; go_simp; first | done | with_reducible rfl)
                  try simp only [Act.put, List.setIfInBounds_toArray, List.set_cons_zero, List.set_cons_succ]
                  refine Plan.take 33 (some 128) (Op.move (Operand.tmp 127)) 4 (none) ?_ rfl (by kernel_rfl) (by kernel_rfl) (Tells.val (by rfl) ?_) ?_
                  rotate_left
                  · (intro W hW; go_simp; first | done | with_reducible rfl)
                  try simp only [Act.put, List.setIfInBounds_toArray, List.set_cons_zero, List.set_cons_succ]
                  refine Plan.take 34 (some 129) (Op.fieldAddr 25 (Operand.tmp 9) 0) 0 (some (33, false)) ?_ rfl (by kernel_rfl) (by kernel_rfl) (Tells.val (by rfl) ?_) ?_
                  rotate_left
                  · (intro W hW; have hF := SF.out W hW; go_simp; first | done | with_reducible rfl)
                  try simp only [Act.put, List.setIfInBounds_toArray, List.set_cons_zero, List.set_cons_succ]
                  refine Plan.take 35 (some 130) (Op.load 3 (Operand.tmp 129)) 3 (some (33, false)) ?_ rfl (by kernel_rfl) (by kernel_rfl) (Tells.val (by rfl) ?_) ?_
                  rotate_left
                  · (intro W hW; have hF := SF.out W hW; go_simp; first | done | with_reducible rfl)
                  try simp only [Act.put, List.setIfInBounds_toArray, List.set_cons_zero, List.set_cons_succ]
                  refine Plan.take 36 (some 131) (Op.fieldAddr 25 (Operand.tmp 3) 0) 0 (some (33, false)) ?_ rfl (by kernel_rfl) (by kernel_rfl) (Tells.val (by rfl) ?_) ?_
                  rotate_left
                  · (intro W hW; have hF := SF.out W hW; go_simp; first | done | with_reducible rfl)
                  try simp only [Act.put, List.setIfInBounds_toArray, List.set_cons_zero, List.set_cons_succ]
                  refine Plan.take 37 (some 132) (Op.load 3 (Operand.tmp 131)) 3 (some (33, false)) ?_ rfl (by kernel_rfl) (by kernel_rfl) (Tells.val (by rfl) ?_) ?_
                  rotate_left
                  · (intro W hW; have hF := SF.out W hW; go_simp; first | done | with_reducible rfl)
                  try simp only [Act.put, List.setIfInBounds_toArray, List.set_cons_zero, List.set_cons_succ]
                  refine Plan.take 38 (some 133) (Op.binOp BinOp.eql 3 (Operand.tmp 130) (Operand.tmp 132) 3) 4 (some (33, false)) ?_ rfl (by kernel_rfl) (by kernel_rfl) (Tells.val (by rfl) ?_) ?_
                  rotate_left
                  · (intro W hW; go_simp; first | done | with_reducible rfl)
                  try simp only [Act.put, List.setIfInBounds_toArray, List.set_cons_zero, List.set_cons_succ]
                  refine Plan.take 39 (some 134) (Op.move (Operand.tmp 133)) 4 (some (33, false)) ?_ rfl (by kernel_rfl) (by kernel_rfl) (Tells.val (by rfl) ?_) ?_
                  rotate_left
                  · (intro W hW; go_simp; first | done | with_reducible rfl)
                  try simp only [Act.put, List.setIfInBounds_toArray, List.set_cons_zero, List.set_cons_succ]
                  refine Plan.take 40 (some 135) (Op.fieldAddr 25 (Operand.tmp 9) 1) 0 (some (39, true)) undef rfl (by kernel_rfl) (by kernel_rfl) (Tells.not (by rfl)) ?_
                  try simp only [Act.put, List.setIfInBounds_toArray, List.set_cons_zero, List.set_cons_succ]
                  refine Plan.take 41 (some 136) (Op.load 2 (Operand.tmp 135)) 2 (some (39, true)) undef rfl (by kernel_rfl) (by kernel_rfl) (Tells.not (by rfl)) ?_
                  try simp only [Act.put, List.setIfInBounds_toArray, List.set_cons_zero, List.set_cons_succ]
                  refine Plan.take 42 (some 137) (Op.fieldAddr 25 (Operand.tmp 3) 1) 0 (some (39, true)) undef rfl (by kernel_rfl) (by kernel_rfl) (Tells.not (by rfl)) ?_
                  try simp only [Act.put, List.setIfInBounds_toArray, List.set_cons_zero, List.set_cons_succ]
                  refine Plan.take 43 (some 138) (Op.load 2 (Operand.tmp 137)) 2 (some (39, true)) undef rfl (by kernel_rfl) (by kernel_rfl) (Tells.not (by rfl)) ?_
                  try simp only [Act.put, List.setIfInBounds_toArray, List.set_cons_zero, List.set_cons_succ]
                  refine Plan.take 44 (some 139) (Op.binOp BinOp.neq 2 (Operand.tmp 136) (Operand.tmp 138) 2) 4 (some (39, true)) undef rfl (by kernel_rfl) (by kernel_rfl) (Tells.not (by rfl)) ?_
                  try simp only [Act.put, List.setIfInBounds_toArray, List.set_cons_zero, List.set_cons_succ]
                  refine Plan.take 45 (some 140) (Op.pick (Operand.tmp 134) (Operand.tmp 139) (Operand.const (Value.bool false))) 4 (some (33, false)) ?_ rfl (by kernel_rfl) (by kernel_rfl) (Tells.val (by rfl) ?_) ?_
                  rotate_left
                  · (intro W hW; go_simp; first | done | with_reducible rfl)
                  try simp only [Act.put, List.setIfInBounds_toArray, List.set_cons_zero, List.set_cons_succ]
                  refine Plan.take 46 (some 141) (Op.pick (Operand.tmp 128) (Operand.const (Value.bool true)) (Operand.tmp 140)) 4 (none) ?_ rfl (by kernel_rfl) (by kernel_rfl) (Tells.val (by rfl) ?_) ?_
                  rotate_left
                  · (intro W hW; go_simp; first | done | with_reducible rfl)
                  try simp only [Act.put, List.setIfInBounds_toArray, List.set_cons_zero, List.set_cons_succ]
                  refine Plan.done _ (by kernel_rfl) ?_
                  intro W hW
                  go_wp2_with fail
                  go_meet
                  exact ⟨rfl, hW⟩
              case rest =>
                obtain ⟨rfl, hW⟩ := hcut
                have e1 := IX.out _ (J1.out _ hW); have e2 := JG.out _ hW
                have zf0 := blk_frozen e1 0; have zf1 := blk_frozen e1 1; have zf2 := blk_frozen e1 2; have zf3 := blk_frozen e1 3; have zf4 := blk_frozen e1 4; have zf5 := blk_frozen e1 5; have zf6 := blk_frozen e1 6
                have zc0 := blk_cell e1 0; have zc1 := blk_cell e1 1; have zc2 := blk_cell e1 2; have zc3 := blk_cell e1 3; have zc4 := blk_cell e1 4; have zc5 := blk_cell e1 5; have zc6 := blk_cell e1 6
                have zg0 := blk_cell e2 0; have zg1 := blk_cell e2 1; have zg2 := blk_cell e2 2; have zg3 := blk_cell e2 3; have zg4 := blk_cell e2 4; have zg5 := blk_cell e2 5; have zg6 := blk_cell e2 6
                simp only [List.getElem?_toArray, List.getElem?_cons_zero, List.getElem?_cons_succ] at zc0 zc1 zc2 zc3 zc4 zc5 zc6 zg0 zg1 zg2 zg3 zg4 zg5 zg6
                have E1 := Aside0.mk e1; have HW := Aside0.mk hW
                clear e1 e2 hW
                go_wp2_with fail
                go_roundg (l.length - (i + 1))
                case measure => have := HI5.out.1; omega
                case rel =>
                  refine ⟨i + 1, now + L0, s0, s1, s2, s3, now + L0, V0, V1, rfl, by first | rfl | simp, ⟨by omega, by omega, HN2.out.1, HN2.out.2, HSTP.out.1, ?_, ?_, ?_⟩⟩
                  · exact blk_set (blk_set (blk_set (blk_set (blk_set (blk_set (blk_set (E1.out) 0 _) 1 _) 2 _) 3 _) 4 _) 5 _) 6 _
                  · exact blk_far (blk_far (blk_far (blk_far (blk_far (blk_far (blk_far (IH.out _ (J1.out _ HW.out)) (by simp) _) (by simp) _) (by simp) _) (by simp) _) (by simp) _) (by simp) _) (by simp) _
                  · exact below_set (below_set (below_set (below_set (below_set (below_set (below_set (IW.out _ (J1.out _ HW.out)) (Nat.le_refl _)) (Nat.le_refl _)) (Nat.le_refl _)) (Nat.le_refl _)) (Nat.le_refl _)) (Nat.le_refl _)) (Nat.le_refl _)
        · have hd : decide ((i : Int) < (l.length : Int)) = false := decide_eq_false (by omega)
          clear HI
          go_wp2_with fail
          refine (klaxonlaw17_live.calls kl true _ HLV.out).mono ?_
          rintro e w4 ⟨rfl, hb⟩
          have HB := Aside0.mk (below_step HBr.out hb)
          clear hb
          go_wp2_with fail
          go_ret
          exact ⟨rfl, HB.out⟩
end Right
def klaxonlaw17_StateRight.f (a0_0 a0_1 a0_2 a0_3 a0_4 a0_5 a0_6 a1_0 a1_1 a1_2 a1_3 : Int) (l2 : List S37) : Option Bool := some true
theorem klaxonlaw17_StateRight.calls (a0_0 a0_1 a0_2 a0_3 a0_4 a0_5 a0_6 a1_0 a1_1 a1_2 a1_3 : Int) (A2 : Option Addr) (c2 : Nat) (l2 : List S37) (r : Bool) (w : World) (hr2 : Kd.C k37 w A2 l2.length l2) (hc2 : l2.length ≤ c2) (h : klaxonlaw17_StateRight.f a0_0 a0_1 a0_2 a0_3 a0_4 a0_5 a0_6 a1_0 a1_1 a1_2 a1_3 l2 = some r) :
    Calls Try.prog 5 #[.agg #[.int .i64 a0_0, .int .i64 a0_1, .int .i64 a0_2, .int .i64 a0_3, .int .i64 a0_4, .int .i64 a0_5, .int .i64 a0_6], .agg #[.int .i64 a1_0, .int .i64 a1_1, .int .i64 a1_2, .int .i64 a1_3], .slice A2 l2.length c2] w fun e w' => e = .returned (.bool r) ∧ Below w.heap.size w w' := by
  obtain rfl : true = r := Option.some.inj h
  exact Right.right_law a0_0 a0_1 a0_2 a0_3 a0_4 a0_5 a0_6 a1_0 a1_1 a1_2 a1_3 A2 c2 l2 w hr2 hc2

end Go.Proofs.Ytmcnipjfigbkeaa.PRight
