/- The pure statement of the law klaxonlaw17.StateHold: plain Lean over the printed functions. -/
import Derived.Test.YtmcnipjfigbkeaaSStateHold
import Derived.Test.YtmcnipjfigbkeaaKEv
namespace Go.Proofs.Ytmcnipjfigbkeaa.Pure
open Go.RowKit Go.Proofs.YtmcnipjfigbkeaaW.PrintWords Go.Proofs.Ytmcnipjfigbkeaa.PState Go.Proofs.YtmcnipjfigbkeaaK Go.KState
namespace HoldP
def timeB (a : Int) : Bool := decide (0 ≤ a ∧ a ≤ 1099511627776)
theorem isTime_eq (a : Int) : state_isTime.f a = some (timeB a) := by
  unfold state_isTime.f timeB; split <;> simp [*]
def mayB (a : Int) : Bool := decide (a = -1) || timeB a
theorem maybe_eq (a : Int) : state_maybe.f a = some (mayB a) := by
  unfold state_maybe.f mayB; rw [isTime_eq]; split <;> simp [*]
/-- May an instance be? -/
def okI (x0 x1 x2 x3 x4 x5 x6 : Int) : Bool :=
  timeB x1 && timeB x4 && mayB x2 && mayB x3 && isV x5 x6 && (if x0 = 1 ∨ x0 = 4 ∨ x0 = 5 then decide (x2 = -1 ∧ x3 = -1) else if x0 = 2 then decide (x2 ≠ -1 ∧ x3 = -1) else decide (x0 = 3))
theorem check_prog (x0 x1 x2 x3 x4 x5 x6 : Int) : state_Check.f 3 x0 x1 x2 x3 x4 x5 x6 = some (if okI x0 x1 x2 x3 x4 x5 x6 = true then 0 else 2) := by
  unfold state_Check.f okI
  rw [isTime_eq, isTime_eq, maybe_eq, maybe_eq]
  simp only [Option.bind_some, value_Check.f, List.length_cons, List.length_nil, List.all_cons, List.all_nil, Bool.and_true]
  rw [if_pos (show 0 + 1 ≤ 9223372036854775807 by omega)]
  simp only [Option.bind_some, state_Check.j0, state_Check.j1, state_Check.j2]
  generalize timeB x1 = t1; generalize timeB x4 = t4; generalize mayB x2 = m2; generalize mayB x3 = m3; generalize isV x5 x6 = v
  by_cases a1 : x0 = 1
  · subst a1; by_cases b2 : x2 = -1 <;> by_cases b3 : x3 = -1 <;> cases t1 <;> cases t4 <;> cases m2 <;> cases m3 <;> cases v <;> simp_all
  by_cases a4 : x0 = 4
  · subst a4; by_cases b2 : x2 = -1 <;> by_cases b3 : x3 = -1 <;> cases t1 <;> cases t4 <;> cases m2 <;> cases m3 <;> cases v <;> simp_all
  by_cases a5 : x0 = 5
  · subst a5; by_cases b2 : x2 = -1 <;> by_cases b3 : x3 = -1 <;> cases t1 <;> cases t4 <;> cases m2 <;> cases m3 <;> cases v <;> simp_all
  by_cases a2 : x0 = 2
  · subst a2; by_cases b2 : x2 = -1 <;> by_cases b3 : x3 = -1 <;> cases t1 <;> cases t4 <;> cases m2 <;> cases m3 <;> cases v <;> simp_all
  by_cases a3 : x0 = 3
  · subst a3; cases t1 <;> cases t4 <;> cases m2 <;> cases m3 <;> cases v <;> simp_all
  · cases t1 <;> cases t4 <;> cases m2 <;> cases m3 <;> cases v <;> simp_all
theorem right_eq (h0 h1 h2 h3 a : Int) : klaxonlaw17_right.f h0 h1 h2 h3 a = some (decide (0 ≤ a ∧ a ≤ 1099511627776 ∧ 0 ≤ h0 ∧ h0 ≤ 1000000 ∧ 0 ≤ h1 ∧ h1 ≤ 1000000)) := by
  unfold klaxonlaw17_right.f
  by_cases a1 : a ≥ 0 <;> by_cases a2 : a ≤ 1099511627776 <;> by_cases a3 : h0 ≥ 0 <;> by_cases a4 : h0 ≤ 1000000 <;> by_cases a5 : h1 ≥ 0 <;> simp [*]
theorem live_ok : ∃ k, klaxonlaw17_live.f k = some true := ⟨30, by decide +kernel⟩
theorem live_ev : Ev (fun k => (klaxonlaw17_live.f k).bind fun t => some t) true := Ev.again_ (Ev.from_ klaxonlaw17_live.mono live_ok)
theorem num_eq (a : Int) : klaxonlaw17_num.f a = some a := rfl

/-- How it stands ahead of evaluation i. -/
def Inv (h0 begun now i x0 x2 : Int) : Prop := begun ≤ now ∧ now ≤ 549755813888 + i * 1000000 ∧ 0 ≤ begun ∧ ((i = 0 ∧ now = begun ∧ (x0 = 1 ∨ x0 = 4 ∨ x0 = 5)) ∨ (0 < i ∧ x2 = begun ∧ (x0 = 2 ∨ (x0 = 3 ∧ h0 ≤ now - begun))))
theorem step_inv (h0 h1 begun now i x0 x1 x2 x3 : Int) (h : begun ≤ now ∧ now ≤ 1099511627776 ∧ 0 ≤ begun) (hi : (i = 0 ∧ now = begun ∧ (x0 = 1 ∨ x0 = 4 ∨ x0 = 5)) ∨ (x2 = begun ∧ (x0 = 2 ∨ (x0 = 3 ∧ h0 ≤ now - begun)))) :
    (stepP h0 h1 2 now x0 x1 x2 x3).1 = (if wrap64 (now - begun) ≥ h0 then 3 else 2) ∧ (stepP h0 h1 2 now x0 x1 x2 x3).2.2.1 = begun := by
  have hw : wrap64 (now - begun) = now - begun := wrap64_id (by omega) (by omega)
  rw [hw]
  unfold stepP alertP
  simp only [if_true]
  rcases hi with ⟨_, rfl, hx⟩ | ⟨rfl, hx | ⟨hx, hg⟩⟩
  · have a3 : ¬ x0 = 3 := by omega
    have a2 : ¬ x0 = 2 := by omega
    simp only [a3, a2, if_false, Int.sub_self, wrap_zero]
    by_cases hh : h0 ≤ 0
    · simp [hh, toF]
    · simp [hh, toF]
  · subst hx
    simp only [hw, if_true]
    rw [if_neg (by decide)]
    by_cases hh : h0 ≤ now - x2
    · simp [hh, toF]
    · simp [hh, toF]
  · subst hx
    simp [hg]
theorem loop (h0 h1 h2 h3 begun : Int) (l : List Int) (hl : l.length ≤ 100) (d : Nat) : ∀ (now i x0 x1 x2 x3 x4 x5 x6 : Int), 0 ≤ i → (l.length : Int) - i = d → Inv h0 begun now i x0 x2 →
    Ev (fun k => klaxonlaw17_StateHold.l0 k now l begun i h0 h1 h2 h3 x0 x1 x2 x3 x4 x5 x6) true := by
  induction d with
  | zero =>
    intro now i x0 x1 x2 x3 x4 x5 x6 hi hd hI
    refine Ev.step (fun k => by rw [klaxonlaw17_StateHold.l0]) ?_
    exact Ev.neg_ (by omega) live_ev
  | succ d ih =>
    intro now i x0 x1 x2 x3 x4 x5 x6 hi hd hI
    have hlt : i < (l.length : Int) := by omega
    have hw : wrap64 (i + 1) = i + 1 := wrap64_id (by omega) (by omega)
    have j4t : Ev (fun k => klaxonlaw17_StateHold.j4 k now l begun i true h0 h1 h2 h3 x0 x1 x2 x3 x4 x5 x6) true := Ev.step (fun k => by rw [klaxonlaw17_StateHold.j4]) (Ev.pos_ rfl live_ev)
    have j5 : ∀ now', begun ≤ now' → now' ≤ 549755813888 + (i + 1) * 1000000 → ((i = 0 ∧ now' = begun ∧ (x0 = 1 ∨ x0 = 4 ∨ x0 = 5)) ∨ (x2 = begun ∧ (x0 = 2 ∨ (x0 = 3 ∧ h0 ≤ now' - begun)))) →
        Ev (fun k => klaxonlaw17_StateHold.j5 k now' l begun i h0 h1 h2 h3 x0 x1 x2 x3 x4 x5 x6) true := by
      intro now' hb hn hs
      obtain ⟨_, _, hb0, _⟩ := hI
      obtain ⟨s1, s2⟩ := step_inv h0 h1 begun now' i x0 x1 x2 x3 ⟨hb, by omega, hb0⟩ hs
      have hw2 : wrap64 (now' - begun) = now' - begun := wrap64_id (by omega) (by omega)
      refine Ev.step (fun k => by rw [klaxonlaw17_StateHold.j5]) ?_
      refine Ev.some_bind rfl (Ev.some_bind rfl ?_)
      have m : meansP h2 h3 2 = 2 := rfl
      simp only [m]
      have fin : ∀ want : Int, want = (if wrap64 (now' - begun) ≥ h0 then 3 else 2) → Ev (fun k => klaxonlaw17_StateHold.j6 k now' l begun i want h0 h1 h2 h3 (stepP h0 h1 2 now' x0 x1 x2 x3).1 (stepP h0 h1 2 now' x0 x1 x2 x3).2.1 (stepP h0 h1 2 now' x0 x1 x2 x3).2.2.1 (stepP h0 h1 2 now' x0 x1 x2 x3).2.2.2 now' 1 1) true := by
        intro want hwt
        refine Ev.step (fun k => by rw [klaxonlaw17_StateHold.j6]) ?_
        refine Ev.pos_ (by rw [s1, hwt]) (Ev.pos_ s2 ?_)
        refine Ev.step (fun k => by rw [klaxonlaw17_StateHold.j7]) ?_
        refine Ev.neg_ (by simp) ?_
        rw [hw]
        refine ih _ _ _ _ _ _ _ _ _ (by omega) (by omega) ⟨hb, by omega, hb0, .inr ⟨by omega, s2, ?_⟩⟩
        rw [s1, hw2]
        by_cases hh : h0 ≤ now' - begun
        · right; simp [hh]
        · left; simp [hh]
      refine Ev.ite_ (fun h => fin 3 (by rw [if_pos h])) (fun h => fin 2 (by rw [if_neg h]))
    refine Ev.step (fun k => by rw [klaxonlaw17_StateHold.l0]) ?_
    refine Ev.pos_ hlt (Ev.pos_ hi ?_)
    refine Ev.ite_ (fun _ => j4t) (fun hg0 => ?_)
    by_cases hg : rd l i > 1000000
    · rw [decide_eq_true hg]; exact j4t
    · rw [decide_eq_false hg]
      refine Ev.step (fun k => by rw [klaxonlaw17_StateHold.j4]) ?_
      refine Ev.neg_ (by simp) ?_
      obtain ⟨hb, hn, hb0, hs⟩ := hI
      refine Ev.ite_ (fun hp => Ev.pos_ hi (Ev.pos_ hlt ?_)) (fun hp => ?_)
      · have hww : wrap64 (now + rd l i) = now + rd l i := wrap64_id (by omega) (by omega)
        rw [hww]
        refine j5 _ (by omega) (by omega) (.inr ?_)
        rcases hs with ⟨h, _⟩ | ⟨_, h2, h3⟩
        · omega
        · exact ⟨h2, by rcases h3 with h | ⟨h, g⟩; exact .inl h; exact .inr ⟨h, by omega⟩⟩
      · refine j5 _ hb (by omega) ?_
        rcases hs with h | ⟨h, _⟩
        · exact .inl h
        · omega
theorem main (h0 h1 h2 h3 now ahead : Int) (l : List Int) : Ev (fun k => klaxonlaw17_StateHold.f k h0 h1 h2 h3 now l ahead) true := by
  have j0t : Ev (fun k => klaxonlaw17_StateHold.j0 k now l ahead true h0 h1 h2 h3) true := Ev.step (fun k => by rw [klaxonlaw17_StateHold.j0]) (Ev.pos_ rfl live_ev)
  refine Ev.congr (fun k => by rw [klaxonlaw17_StateHold.f]) ?_
  refine Ev.ite_ (fun _ => j0t) (fun hl => Ev.some_bind (right_eq ..) (Ev.ite_ (fun hr => ?_) (fun _ => j0t)))
  have hr := of_decide_eq_true hr
  by_cases hn : now > 549755813888
  · rw [decide_eq_true hn]; exact j0t
  · rw [decide_eq_false hn]
    refine Ev.step (fun k => by rw [klaxonlaw17_StateHold.j0]) ?_
    refine Ev.neg_ (by simp) (Ev.some_bind rfl ?_)
    have j2 : ∀ x0 x1 x2 x3 x4 x5 x6 : Int, (x0 = 1 ∨ x0 = 4 ∨ x0 = 5) → Ev (fun k => klaxonlaw17_StateHold.j2 k now l h0 h1 h2 h3 x0 x1 x2 x3 x4 x5 x6) true := by
      intro x0 x1 x2 x3 x4 x5 x6 hx
      refine Ev.step (fun k => by rw [klaxonlaw17_StateHold.j2]) ?_
      exact loop h0 h1 h2 h3 now l (by omega) l.length _ _ _ _ _ _ _ _ _ (by omega) (by omega) ⟨by omega, by omega, hr.1, .inl ⟨rfl, rfl, hx⟩⟩
    have j1t : (ahead = 3 ∨ ahead = 4) → Ev (fun k => klaxonlaw17_StateHold.j1 k now l ahead true h0 h1 h2 h3 1 now (-1) (-1) now 2 0) true := by
      intro ha
      refine Ev.step (fun k => by rw [klaxonlaw17_StateHold.j1]) ?_
      refine Ev.pos_ rfl (Ev.some_bind rfl (Ev.some_bind rfl (j2 _ _ _ _ _ _ _ ?_)))
      rcases ha with rfl | rfl
      · right; left; rfl
      · right; right; rfl
    refine Ev.ite_ (fun h => j1t (.inl h)) (fun h => ?_)
    by_cases h4 : ahead = 4
    · rw [show (ahead == 4) = true from beq_iff_eq.mpr h4]; exact j1t (.inr h4)
    · rw [show (ahead == 4) = false from beq_eq_false_iff_ne.mpr h4]
      refine Ev.step (fun k => by rw [klaxonlaw17_StateHold.j1]) ?_
      exact Ev.neg_ (by simp) (j2 _ _ _ _ _ _ _ (.inl rfl))
end HoldP
theorem StateHold : klaxonlaw17_StateHold.PureS := fun _ _ _ _ _ _ _ _ => Ev.at_ (HoldP.main ..)
end Go.Proofs.Ytmcnipjfigbkeaa.Pure
