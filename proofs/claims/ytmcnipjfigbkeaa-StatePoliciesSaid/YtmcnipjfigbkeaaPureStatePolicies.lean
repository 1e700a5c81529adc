/- The pure statement of the law klaxonlaw17.StatePolicies: plain Lean over the printed functions. -/
import Derived.Test.YtmcnipjfigbkeaaSStatePolicies
import Derived.Test.YtmcnipjfigbkeaaKEv
namespace Go.Proofs.Ytmcnipjfigbkeaa.Pure
open Go.RowKit Go.Proofs.YtmcnipjfigbkeaaW.PrintWords Go.Proofs.Ytmcnipjfigbkeaa.PState Go.Proofs.YtmcnipjfigbkeaaK Go.KState
namespace PoliciesP
def timeB (a : Int) : Bool := decide (0 ≤ a ∧ a ≤ 1099511627776)
theorem isTime_eq (a : Int) : state_isTime.f a = some (timeB a) := by
  unfold state_isTime.f timeB; split <;> simp [*]
def mayB (a : Int) : Bool := decide (a = -1) || timeB a
theorem maybe_eq (a : Int) : state_maybe.f a = some (mayB a) := by
  unfold state_maybe.f mayB; rw [isTime_eq]; split <;> simp [*]
/-- May an instance be? -/
def okI (x0 x1 x2 x3 x4 x5 x6 : Int) : Bool :=
  timeB x1 && timeB x4 && mayB x2 && mayB x3 && isV x5 x6 && (if x0 = 1 ∨ x0 = 4 ∨ x0 = 5 then decide (x2 = -1 ∧ x3 = -1) else if x0 = 2 then decide (x2 ≠ -1 ∧ x3 = -1) else decide (x0 = 3))
theorem check_prog (x0 x1 x2 x3 x4 x5 x6 : Int) : state_Check.f 3 x0 x1 x2 x3 x4 x5 x6 = some (if okI x0 x1 x2 x3 x4 x5 x6 = true then 0 else 2) := by
  unfold state_Check.f okI
  rw [isTime_eq, isTime_eq, maybe_eq, maybe_eq]
  simp only [Option.bind_some, value_Check.f, List.length_cons, List.length_nil, List.all_cons, List.all_nil, Bool.and_true]
  rw [if_pos (show 0 + 1 ≤ 9223372036854775807 by omega)]
  simp only [Option.bind_some, state_Check.j0, state_Check.j1, state_Check.j2]
  generalize timeB x1 = t1; generalize timeB x4 = t4; generalize mayB x2 = m2; generalize mayB x3 = m3; generalize isV x5 x6 = v
  by_cases a1 : x0 = 1
  · subst a1; by_cases b2 : x2 = -1 <;> by_cases b3 : x3 = -1 <;> cases t1 <;> cases t4 <;> cases m2 <;> cases m3 <;> cases v <;> simp_all
  by_cases a4 : x0 = 4
  · subst a4; by_cases b2 : x2 = -1 <;> by_cases b3 : x3 = -1 <;> cases t1 <;> cases t4 <;> cases m2 <;> cases m3 <;> cases v <;> simp_all
  by_cases a5 : x0 = 5
  · subst a5; by_cases b2 : x2 = -1 <;> by_cases b3 : x3 = -1 <;> cases t1 <;> cases t4 <;> cases m2 <;> cases m3 <;> cases v <;> simp_all
  by_cases a2 : x0 = 2
  · subst a2; by_cases b2 : x2 = -1 <;> by_cases b3 : x3 = -1 <;> cases t1 <;> cases t4 <;> cases m2 <;> cases m3 <;> cases v <;> simp_all
  by_cases a3 : x0 = 3
  · subst a3; cases t1 <;> cases t4 <;> cases m2 <;> cases m3 <;> cases v <;> simp_all
  · cases t1 <;> cases t4 <;> cases m2 <;> cases m3 <;> cases v <;> simp_all
theorem right_eq (h0 h1 h2 h3 a : Int) : klaxonlaw17_right.f h0 h1 h2 h3 a = some (decide (0 ≤ a ∧ a ≤ 1099511627776 ∧ 0 ≤ h0 ∧ h0 ≤ 1000000 ∧ 0 ≤ h1 ∧ h1 ≤ 1000000)) := by
  unfold klaxonlaw17_right.f
  by_cases a1 : a ≥ 0 <;> by_cases a2 : a ≤ 1099511627776 <;> by_cases a3 : h0 ≥ 0 <;> by_cases a4 : h0 ≤ 1000000 <;> by_cases a5 : h1 ≥ 0 <;> simp [*]
theorem live_ok : ∃ k, klaxonlaw17_live.f k = some true := ⟨30, by decide +kernel⟩
theorem live_ev : Ev (fun k => (klaxonlaw17_live.f k).bind fun t => some t) true := Ev.again_ (Ev.from_ klaxonlaw17_live.mono live_ok)
theorem num_eq (a : Int) : klaxonlaw17_num.f a = some a := rfl

theorem check_ev (x0 x1 x2 x3 x4 x5 x6 : Int) : Ev (fun k => state_Check.f k x0 x1 x2 x3 x4 x5 x6) (if okI x0 x1 x2 x3 x4 x5 x6 = true then 0 else 2) := Ev.from_ (state_Check.mono x0 x1 x2 x3 x4 x5 x6) ⟨3, check_prog ..⟩
theorem m2 (r : Int) (h : r = 3 ∨ r = 4) : meansP 2 2 r = 2 := by rcases h with rfl | rfl <;> decide
theorem m3 (r : Int) (h : r = 3 ∨ r = 4) : meansP 3 3 r = 1 := by rcases h with rfl | rfl <;> decide
theorem m4 (r : Int) (h : r = 3 ∨ r = 4) : meansP 4 4 r = 0 := by rcases h with rfl | rfl <;> decide
theorem m22 : meansP 2 2 2 = 2 := by decide
theorem m31 : meansP 3 3 1 = 1 := by decide
theorem one (x0 x1 x2 x3 x4 x5 x6 h0 h1 h2 h3 v0 v1 now i : Int) (hi : 0 ≤ i) (hi2 : i < 2) (hr : rd [3, 4] i = 3 ∨ rd [3, 4] i = 4)
    (hn : Ev (fun k => klaxonlaw17_StatePolicies.l0 k now [3, 4] (i + 1) x0 x1 x2 x3 x4 x5 x6 h0 h1 h2 h3 v0 v1) true) : Ev (fun k => klaxonlaw17_StatePolicies.l0 k now [3, 4] i x0 x1 x2 x3 x4 x5 x6 h0 h1 h2 h3 v0 v1) true := by
  have hw : wrap64 (i + 1) = i + 1 := wrap64_id (by omega) (by omega)
  refine Ev.step (fun k => by rw [klaxonlaw17_StatePolicies.l0]) ?_
  refine Ev.pos_ (by simpa using hi2) (Ev.pos_ hi ?_)
  refine Ev.some_bind rfl (Ev.some_bind rfl (Ev.neg_ (by simp [m2 _ hr, m22]) ?_))
  refine Ev.some_bind rfl (Ev.some_bind rfl (Ev.neg_ (by simp [m3 _ hr, m31]) ?_))
  refine Ev.some_bind rfl (Ev.neg_ (by simp [m4 _ hr, stepP]) ?_)
  rw [hw]
  exact hn
theorem main (x0 x1 x2 x3 x4 x5 x6 h0 h1 h2 h3 v0 v1 now : Int) : Ev (fun k => klaxonlaw17_StatePolicies.f k x0 x1 x2 x3 x4 x5 x6 h0 h1 h2 h3 v0 v1 now) true := by
  have j0t : Ev (fun k => klaxonlaw17_StatePolicies.j0 k now true x0 x1 x2 x3 x4 x5 x6 h0 h1 h2 h3 v0 v1) true := Ev.step (fun k => by rw [klaxonlaw17_StatePolicies.j0]) (Ev.pos_ rfl live_ev)
  have j0f : Ev (fun k => klaxonlaw17_StatePolicies.j0 k now false x0 x1 x2 x3 x4 x5 x6 h0 h1 h2 h3 v0 v1) true := by
    refine Ev.step (fun k => by rw [klaxonlaw17_StatePolicies.j0]) (Ev.neg_ (by simp) ?_)
    refine one _ _ _ _ _ _ _ _ _ _ _ _ _ _ 0 (by omega) (by omega) (by decide) (one _ _ _ _ _ _ _ _ _ _ _ _ _ _ 1 (by omega) (by omega) (by decide) ?_)
    refine Ev.step (fun k => by rw [klaxonlaw17_StatePolicies.l0]) ?_
    exact Ev.neg_ (by simp) live_ev
  refine Ev.congr (fun k => by rw [klaxonlaw17_StatePolicies.f]) ?_
  refine Ev.some_bind (right_eq ..) (Ev.ite_ (fun _ => Ev.bind_ (check_ev ..) (Ev.some_bind (num_eq _) (Ev.ite_ (fun _ => ?_) (fun _ => j0t)))) (fun _ => j0t))
  cases decide (mx (mx (mx x1 x4) x2) x3 > now)
  · exact j0f
  · exact j0t
end PoliciesP
theorem StatePolicies : klaxonlaw17_StatePolicies.PureS := fun _ _ _ _ _ _ _ _ => Ev.at_ (PoliciesP.main ..)
end Go.Proofs.Ytmcnipjfigbkeaa.Pure
