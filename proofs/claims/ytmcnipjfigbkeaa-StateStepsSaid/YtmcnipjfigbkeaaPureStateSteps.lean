/- The pure statement of the law klaxonlaw17.StateSteps: plain Lean over the printed functions. -/
import Derived.Test.YtmcnipjfigbkeaaSStateSteps
import Derived.Test.YtmcnipjfigbkeaaKEv
namespace Go.Proofs.Ytmcnipjfigbkeaa.Pure
open Go.RowKit Go.Proofs.YtmcnipjfigbkeaaW.PrintWords Go.Proofs.Ytmcnipjfigbkeaa.PState Go.Proofs.YtmcnipjfigbkeaaK Go.KState
namespace StepsP
def timeB (a : Int) : Bool := decide (0 ≤ a ∧ a ≤ 1099511627776)
theorem isTime_eq (a : Int) : state_isTime.f a = some (timeB a) := by
  unfold state_isTime.f timeB; split <;> simp [*]
theorem time_eq (a : Int) : klaxonref17_time.f a = some (timeB a) := by
  unfold klaxonref17_time.f timeB; split <;> simp [*]
def mayB (a : Int) : Bool := decide (a = -1) || timeB a
theorem maybe_eq (a : Int) : state_maybe.f a = some (mayB a) := by
  unfold state_maybe.f mayB; rw [isTime_eq]; split <;> simp [*]
theorem is_eq (k n : Int) : klaxonref08_Is.f k n = some (isV k n) := by
  unfold klaxonref08_Is.f isV
  by_cases h : k = 1
  · simp [h]; split <;> simp [*]
  · simp only [h, if_false]
    by_cases h2 : k ≥ 2
    · by_cases h5 : k ≤ 5
      · have : k = 2 ∨ k = 3 ∨ k = 4 ∨ k = 5 := by omega
        simp [h2, h5, this]; rfl
      · have : ¬ (k = 2 ∨ k = 3 ∨ k = 4 ∨ k = 5) := by omega
        simp [h2, h5, this]
    · have : ¬ (k = 2 ∨ k = 3 ∨ k = 4 ∨ k = 5) := by omega
      simp [h2, this]
/-- May an instance be? -/
def okI (x0 x1 x2 x3 x4 x5 x6 : Int) : Bool :=
  timeB x1 && timeB x4 && mayB x2 && mayB x3 && isV x5 x6 && (if x0 = 1 ∨ x0 = 4 ∨ x0 = 5 then decide (x2 = -1 ∧ x3 = -1) else if x0 = 2 then decide (x2 ≠ -1 ∧ x3 = -1) else decide (x0 = 3))
theorem check_prog (x0 x1 x2 x3 x4 x5 x6 : Int) : state_Check.f 3 x0 x1 x2 x3 x4 x5 x6 = some (if okI x0 x1 x2 x3 x4 x5 x6 = true then 0 else 2) := by
  unfold state_Check.f okI
  rw [isTime_eq, isTime_eq, maybe_eq, maybe_eq]
  simp only [Option.bind_some, value_Check.f, List.length_cons, List.length_nil, List.all_cons, List.all_nil, Bool.and_true]
  rw [if_pos (show 0 + 1 ≤ 9223372036854775807 by omega)]
  simp only [Option.bind_some, state_Check.j0, state_Check.j1, state_Check.j2]
  generalize timeB x1 = t1; generalize timeB x4 = t4; generalize mayB x2 = m2; generalize mayB x3 = m3; generalize isV x5 x6 = v
  by_cases a1 : x0 = 1
  · subst a1; by_cases b2 : x2 = -1 <;> by_cases b3 : x3 = -1 <;> cases t1 <;> cases t4 <;> cases m2 <;> cases m3 <;> cases v <;> simp_all
  by_cases a4 : x0 = 4
  · subst a4; by_cases b2 : x2 = -1 <;> by_cases b3 : x3 = -1 <;> cases t1 <;> cases t4 <;> cases m2 <;> cases m3 <;> cases v <;> simp_all
  by_cases a5 : x0 = 5
  · subst a5; by_cases b2 : x2 = -1 <;> by_cases b3 : x3 = -1 <;> cases t1 <;> cases t4 <;> cases m2 <;> cases m3 <;> cases v <;> simp_all
  by_cases a2 : x0 = 2
  · subst a2; by_cases b2 : x2 = -1 <;> by_cases b3 : x3 = -1 <;> cases t1 <;> cases t4 <;> cases m2 <;> cases m3 <;> cases v <;> simp_all
  by_cases a3 : x0 = 3
  · subst a3; cases t1 <;> cases t4 <;> cases m2 <;> cases m3 <;> cases v <;> simp_all
  · cases t1 <;> cases t4 <;> cases m2 <;> cases m3 <;> cases v <;> simp_all
set_option maxHeartbeats 1000000 in
theorem check_ref_ (x0 x1 x2 x3 x4 x5 x6 : Int) : klaxonref17_Check.f 4 x0 x1 x2 x3 x4 x5 x6 = some (if okI x0 x1 x2 x3 x4 x5 x6 = true then 0 else 2) := by
  unfold klaxonref17_Check.f okI
  rw [time_eq, time_eq, is_eq]
  simp only [Option.bind_some, klaxonref17_Check.j0, klaxonref17_Check.j1, klaxonref17_Check.j2, klaxonref17_Check.j3]
  rw [time_eq, time_eq]
  simp only [Option.bind_some, mayB]
  by_cases h1 : x0 < 1
  · have a : ¬ (x0 = 1 ∨ x0 = 4 ∨ x0 = 5) ∧ ¬ x0 = 2 ∧ ¬ x0 = 3 := by omega
    simp [h1, a]
  by_cases h5 : x0 > 5
  · have a : ¬ (x0 = 1 ∨ x0 = 4 ∨ x0 = 5) ∧ ¬ x0 = 2 ∧ ¬ x0 = 3 := by omega
    simp [h1, h5, a]
  have : x0 = 1 ∨ x0 = 2 ∨ x0 = 3 ∨ x0 = 4 ∨ x0 = 5 := by omega
  clear h1 h5
  rcases this with rfl | rfl | rfl | rfl | rfl <;> by_cases b2 : x2 = -1 <;> by_cases b3 : x3 = -1 <;> rcases Bool.eq_false_or_eq_true (timeB x1) with e1 | e1 <;> rcases Bool.eq_false_or_eq_true (timeB x4) with e4 | e4 <;> rcases Bool.eq_false_or_eq_true (timeB x2) with e2 | e2 <;> rcases Bool.eq_false_or_eq_true (timeB x3) with e3 | e3 <;> rcases Bool.eq_false_or_eq_true (isV x5 x6) with ev | ev <;> simp [*]

theorem right_eq (h0 h1 h2 h3 a : Int) : klaxonlaw17_right.f h0 h1 h2 h3 a = some (decide (0 ≤ a ∧ a ≤ 1099511627776 ∧ 0 ≤ h0 ∧ h0 ≤ 1000000 ∧ 0 ≤ h1 ∧ h1 ≤ 1000000)) := by
  unfold klaxonlaw17_right.f
  by_cases a1 : a ≥ 0 <;> by_cases a2 : a ≤ 1099511627776 <;> by_cases a3 : h0 ≥ 0 <;> by_cases a4 : h0 ≤ 1000000 <;> by_cases a5 : h1 ≥ 0 <;> simp [*]
theorem live_ok : ∃ k, klaxonlaw17_live.f k = some true := ⟨30, by decide +kernel⟩
theorem live_ev : Ev (fun k => (klaxonlaw17_live.f k).bind fun t => some t) true := Ev.again_ (Ev.from_ klaxonlaw17_live.mono live_ok)
theorem num_eq (a : Int) : klaxonlaw17_num.f a = some a := rfl
theorem null_eq : klaxonref08_Null.f = some (2, 0) := rfl

theorem means_ref_ev (h0 h1 h2 h3 a : Int) : Ev (fun k => klaxonref17_Means.f k h0 h1 h2 h3 a) (meansP h2 h3 a) := Ev.from_ (klaxonref17_Means.mono h0 h1 h2 h3 a) ⟨2, means_ref h0 h1 h2 h3 a⟩
theorem check_ev (x0 x1 x2 x3 x4 x5 x6 : Int) : Ev (fun k => state_Check.f k x0 x1 x2 x3 x4 x5 x6) (if okI x0 x1 x2 x3 x4 x5 x6 = true then 0 else 2) := Ev.from_ (state_Check.mono x0 x1 x2 x3 x4 x5 x6) ⟨3, check_prog ..⟩
theorem check_ref_ev (x0 x1 x2 x3 x4 x5 x6 : Int) : Ev (fun k => klaxonref17_Check.f k x0 x1 x2 x3 x4 x5 x6) (if okI x0 x1 x2 x3 x4 x5 x6 = true then 0 else 2) := Ev.from_ (klaxonref17_Check.mono x0 x1 x2 x3 x4 x5 x6) ⟨4, check_ref_ ..⟩

theorem loop (h0 h1 h2 h3 : Int) (l : List S37) (hl : l.length ≤ 100) (d : Nat) : ∀ (now i x0 x1 x2 x3 x4 x5 x6 : Int), 0 ≤ i → (l.length : Int) - i = d →
    Ev (fun k => klaxonlaw17_StateSteps.l0 k now l i x0 x1 x2 x3 x4 x5 x6 h0 h1 h2 h3 x0 x1 x2 x3 x4 x5 x6) true := by
  have j3t : ∀ (now i x0 x1 x2 x3 x4 x5 x6 : Int), Ev (fun k => klaxonlaw17_StateSteps.j3 k now l i true x0 x1 x2 x3 x4 x5 x6 h0 h1 h2 h3 x0 x1 x2 x3 x4 x5 x6) true := fun now i x0 x1 x2 x3 x4 x5 x6 =>
    Ev.step (fun k => by rw [klaxonlaw17_StateSteps.j3]) (Ev.pos_ rfl live_ev)
  induction d with
  | zero =>
    intro now i x0 x1 x2 x3 x4 x5 x6 hi hd
    refine Ev.step (fun k => by rw [klaxonlaw17_StateSteps.l0]) ?_
    exact Ev.neg_ (by omega) live_ev
  | succ d ih =>
    intro now i x0 x1 x2 x3 x4 x5 x6 hi hd
    have hlt : i < (l.length : Int) := by omega
    have hw : wrap64 (i + 1) = i + 1 := wrap64_id (by omega) (by omega)
    have j3f : Ev (fun k => klaxonlaw17_StateSteps.j3 k now l i false x0 x1 x2 x3 x4 x5 x6 h0 h1 h2 h3 x0 x1 x2 x3 x4 x5 x6) true := by
      refine Ev.step (fun k => by rw [klaxonlaw17_StateSteps.j3]) ?_
      refine Ev.neg_ (by simp) (Ev.pos_ hi (Ev.pos_ hlt ?_))
      refine Ev.some_bind rfl ?_
      refine Ev.bind_ (means_ref_ev ..) ?_
      refine Ev.pos_ rfl ?_
      refine Ev.some_bind rfl (Ev.some_bind rfl ?_)
      refine Ev.neg_ (by simp) ?_
      rw [hw]
      exact ih _ _ _ _ _ _ _ _ _ (by omega) (by omega)
    refine Ev.step (fun k => by rw [klaxonlaw17_StateSteps.l0]) ?_
    refine Ev.pos_ hlt (Ev.pos_ hi ?_)
    refine Ev.ite_ (fun _ => j3t ..) (fun _ => Ev.ite_ (fun _ => j3t ..) (fun _ => ?_))
    cases decide (now > wrap64 (1099511627776 - (rd_T37 l i).f0))
    · exact j3f
    · exact j3t ..

theorem main (x0 x1 x2 x3 x4 x5 x6 h0 h1 h2 h3 now : Int) (l : List S37) : Ev (fun k => klaxonlaw17_StateSteps.f k x0 x1 x2 x3 x4 x5 x6 h0 h1 h2 h3 now l) true := by
  have j1t : Ev (fun k => klaxonlaw17_StateSteps.j1 k now l true x0 x1 x2 x3 x4 x5 x6 h0 h1 h2 h3) true := Ev.step (fun k => by rw [klaxonlaw17_StateSteps.j1]) (Ev.pos_ rfl live_ev)
  have j0t : Ev (fun k => klaxonlaw17_StateSteps.j0 k now l true x0 x1 x2 x3 x4 x5 x6 h0 h1 h2 h3) true := Ev.step (fun k => by rw [klaxonlaw17_StateSteps.j0]) (Ev.pos_ rfl live_ev)
  refine Ev.congr (fun k => by rw [klaxonlaw17_StateSteps.f]) ?_
  refine Ev.ite_ (fun _ => j0t) (fun hl => Ev.some_bind (right_eq ..) ?_)
  cases decide (0 ≤ now ∧ now ≤ 1099511627776 ∧ 0 ≤ h0 ∧ h0 ≤ 1000000 ∧ 0 ≤ h1 ∧ h1 ≤ 1000000)
  · exact j0t
  · have j1f : Ev (fun k => klaxonlaw17_StateSteps.j1 k now l false x0 x1 x2 x3 x4 x5 x6 h0 h1 h2 h3) true := by
      refine Ev.step (fun k => by rw [klaxonlaw17_StateSteps.j1]) ?_
      refine Ev.neg_ (by simp) (Ev.some_bind rfl (Ev.some_bind rfl ?_))
      refine Ev.neg_ (by simp) ?_
      exact loop h0 h1 h2 h3 l (by omega) l.length _ _ _ _ _ _ _ _ _ (by omega) (by omega)
    refine Ev.step (fun k => by rw [klaxonlaw17_StateSteps.j0]) ?_
    refine Ev.neg_ (by simp) (Ev.bind_ (check_ev ..) (Ev.some_bind (num_eq _) (Ev.bind_ (check_ref_ev ..) (Ev.pos_ rfl (Ev.bind_ (check_ref_ev ..) ?_)))))
    refine Ev.ite_ (fun _ => ?_) (fun _ => j1t)
    cases decide (mx (mx (mx x1 x4) x2) x3 > now)
    · exact j1f
    · exact j1t
end StepsP
theorem StateSteps : klaxonlaw17_StateSteps.PureS := fun _ _ _ _ _ _ _ _ => Ev.at_ (StepsP.main ..)
end Go.Proofs.Ytmcnipjfigbkeaa.Pure
