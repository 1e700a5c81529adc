/- The pure statement of the law klaxonlaw17.StateQuiet: plain Lean over the printed functions. -/
import Derived.Test.YtmcnipjfigbkeaaSStateQuiet
import Derived.Test.YtmcnipjfigbkeaaKEv
namespace Go.Proofs.Ytmcnipjfigbkeaa.Pure
open Go.RowKit Go.Proofs.YtmcnipjfigbkeaaW.PrintWords Go.Proofs.Ytmcnipjfigbkeaa.PState Go.Proofs.YtmcnipjfigbkeaaK Go.KState
namespace QuietP
def timeB (a : Int) : Bool := decide (0 ≤ a ∧ a ≤ 1099511627776)
theorem isTime_eq (a : Int) : state_isTime.f a = some (timeB a) := by
  unfold state_isTime.f timeB; split <;> simp [*]
def mayB (a : Int) : Bool := decide (a = -1) || timeB a
theorem maybe_eq (a : Int) : state_maybe.f a = some (mayB a) := by
  unfold state_maybe.f mayB; rw [isTime_eq]; split <;> simp [*]
/-- May an instance be? -/
def okI (x0 x1 x2 x3 x4 x5 x6 : Int) : Bool :=
  timeB x1 && timeB x4 && mayB x2 && mayB x3 && isV x5 x6 && (if x0 = 1 ∨ x0 = 4 ∨ x0 = 5 then decide (x2 = -1 ∧ x3 = -1) else if x0 = 2 then decide (x2 ≠ -1 ∧ x3 = -1) else decide (x0 = 3))
theorem check_prog (x0 x1 x2 x3 x4 x5 x6 : Int) : state_Check.f 3 x0 x1 x2 x3 x4 x5 x6 = some (if okI x0 x1 x2 x3 x4 x5 x6 = true then 0 else 2) := by
  unfold state_Check.f okI
  rw [isTime_eq, isTime_eq, maybe_eq, maybe_eq]
  simp only [Option.bind_some, value_Check.f, List.length_cons, List.length_nil, List.all_cons, List.all_nil, Bool.and_true]
  rw [if_pos (show 0 + 1 ≤ 9223372036854775807 by omega)]
  simp only [Option.bind_some, state_Check.j0, state_Check.j1, state_Check.j2]
  generalize timeB x1 = t1; generalize timeB x4 = t4; generalize mayB x2 = m2; generalize mayB x3 = m3; generalize isV x5 x6 = v
  by_cases a1 : x0 = 1
  · subst a1; by_cases b2 : x2 = -1 <;> by_cases b3 : x3 = -1 <;> cases t1 <;> cases t4 <;> cases m2 <;> cases m3 <;> cases v <;> simp_all
  by_cases a4 : x0 = 4
  · subst a4; by_cases b2 : x2 = -1 <;> by_cases b3 : x3 = -1 <;> cases t1 <;> cases t4 <;> cases m2 <;> cases m3 <;> cases v <;> simp_all
  by_cases a5 : x0 = 5
  · subst a5; by_cases b2 : x2 = -1 <;> by_cases b3 : x3 = -1 <;> cases t1 <;> cases t4 <;> cases m2 <;> cases m3 <;> cases v <;> simp_all
  by_cases a2 : x0 = 2
  · subst a2; by_cases b2 : x2 = -1 <;> by_cases b3 : x3 = -1 <;> cases t1 <;> cases t4 <;> cases m2 <;> cases m3 <;> cases v <;> simp_all
  by_cases a3 : x0 = 3
  · subst a3; cases t1 <;> cases t4 <;> cases m2 <;> cases m3 <;> cases v <;> simp_all
  · cases t1 <;> cases t4 <;> cases m2 <;> cases m3 <;> cases v <;> simp_all
theorem right_eq (h0 h1 h2 h3 a : Int) : klaxonlaw17_right.f h0 h1 h2 h3 a = some (decide (0 ≤ a ∧ a ≤ 1099511627776 ∧ 0 ≤ h0 ∧ h0 ≤ 1000000 ∧ 0 ≤ h1 ∧ h1 ≤ 1000000)) := by
  unfold klaxonlaw17_right.f
  by_cases a1 : a ≥ 0 <;> by_cases a2 : a ≤ 1099511627776 <;> by_cases a3 : h0 ≥ 0 <;> by_cases a4 : h0 ≤ 1000000 <;> by_cases a5 : h1 ≥ 0 <;> simp [*]
theorem live_ok : ∃ k, klaxonlaw17_live.f k = some true := ⟨30, by decide +kernel⟩
theorem live_ev : Ev (fun k => (klaxonlaw17_live.f k).bind fun t => some t) true := Ev.again_ (Ev.from_ klaxonlaw17_live.mono live_ok)
theorem num_eq (a : Int) : klaxonlaw17_num.f a = some a := rfl

/-- How it stands ahead of a round: alerting, with what Quiet says; or normal. -/
def Inv (now i quiet s q : Int) : Prop := 0 ≤ now ∧ now ≤ 549755813888 + i * 1000000 ∧ (s = 1 ∨ (s = 3 ∧ ((quiet < 0 ∧ q = -1) ∨ (0 ≤ quiet ∧ quiet ≤ now ∧ q = quiet))))
theorem alert_to (h1 now x0 x1 x2 x3 : Int) (hx : x0 = 1 ∨ x0 = 3) : (stepP 0 h1 2 now x0 x1 x2 x3).1 = 3 ∧ (stepP 0 h1 2 now x0 x1 x2 x3).2.2.2 = -1 := by
  unfold stepP alertP
  rcases hx with rfl | rfl <;> simp [wrap_zero, toQ]
theorem normal_of_normal (h0 h1 now x1 x2 x3 : Int) : (stepP h0 h1 1 now 1 x1 x2 x3).1 = 1 := by
  unfold stepP normalP; simp
theorem normal_to (h0 keep now quiet x1 x2 x3 : Int) (hk : 0 ≤ keep) (hn : 0 ≤ now ∧ now ≤ 1099511627776) (hq : 0 ≤ quiet ∧ quiet ≤ now) (h : quiet = if x3 = -1 then now else x3) :
    (stepP h0 keep 1 now 3 x1 x2 x3).1 = (if keep = 0 ∨ now - quiet ≥ keep then 1 else 3) ∧ ((stepP h0 keep 1 now 3 x1 x2 x3).1 = 3 → (stepP h0 keep 1 now 3 x1 x2 x3).2.2.2 = quiet) := by
  have hw : wrap64 (now - quiet) = now - quiet := wrap64_id (by omega) (by omega)
  unfold stepP normalP
  rw [if_neg (by decide), if_pos rfl, ← h, hw]
  clear h hw
  by_cases k0 : keep = 0
  · subst k0; simp
  · have : 0 < keep := by omega
    by_cases hh : now - quiet < keep
    · have : ¬ now - quiet ≥ keep := by omega
      simp [*]
    · have : now - quiet ≥ keep := by omega
      simp [*]
theorem loop (keep again : Int) (hk : 0 ≤ keep) (l : List Int) (hl : l.length ≤ 100) (d : Nat) : ∀ (now i quiet x0 x1 x2 x3 x4 x5 x6 : Int), 0 ≤ i → (l.length : Int) - i = d → Inv now i quiet x0 x3 →
    Ev (fun k => klaxonlaw17_StateQuiet.l0 k keep now l again quiet i 0 keep 1 1 x0 x1 x2 x3 x4 x5 x6) true := by
  induction d with
  | zero =>
    intro now i quiet x0 x1 x2 x3 x4 x5 x6 hi hd hI
    refine Ev.step (fun k => by rw [klaxonlaw17_StateQuiet.l0]) ?_
    exact Ev.neg_ (by omega) live_ev
  | succ d ih =>
    intro now i quiet x0 x1 x2 x3 x4 x5 x6 hi hd hI
    obtain ⟨hn0, hn1, hs⟩ := hI
    have hlt : i < (l.length : Int) := by omega
    have hw : wrap64 (i + 1) = i + 1 := wrap64_id (by omega) (by omega)
    have j2t : Ev (fun k => klaxonlaw17_StateQuiet.j2 k keep now l again quiet i true 0 keep 1 1 x0 x1 x2 x3 x4 x5 x6) true := Ev.step (fun k => by rw [klaxonlaw17_StateQuiet.j2]) (Ev.pos_ rfl live_ev)
    refine Ev.step (fun k => by rw [klaxonlaw17_StateQuiet.l0]) ?_
    refine Ev.pos_ hlt (Ev.pos_ hi ?_)
    refine Ev.ite_ (fun _ => j2t) (fun hg0 => ?_)
    by_cases hg : rd l i > 1000000
    · rw [decide_eq_true hg]; exact j2t
    rw [decide_eq_false hg]
    refine Ev.step (fun k => by rw [klaxonlaw17_StateQuiet.j2]) ?_
    refine Ev.neg_ (by simp) (Ev.pos_ hi (Ev.pos_ hlt ?_))
    have hww : wrap64 (now + rd l i) = now + rd l i := wrap64_id (by omega) (by omega)
    rw [hww]
    have NOW0 : 0 ≤ now + rd l i := by omega
    have NOW1 : now + rd l i ≤ 549755813888 + (i + 1) * 1000000 := by omega
    have NOW2 : now ≤ now + rd l i := by omega
    generalize now + rd l i = now' at *
    have m2 : meansP 1 1 2 = 2 := rfl
    have m1 : meansP 1 1 1 = 1 := rfl
    refine Ev.ite_ (fun ha => ?_) (fun ha => ?_)
    · refine Ev.some_bind rfl (Ev.some_bind rfl ?_)
      simp only [m2]
      obtain ⟨a1, a2⟩ := alert_to keep now' x0 x1 x2 x3 (by rcases hs with h | ⟨h, _⟩; exact .inl h; exact .inr h)
      refine Ev.pos_ a1 ?_
      rw [show ((stepP 0 keep 2 now' x0 x1 x2 x3).2.2.2 != -1) = false from by rw [a2]; rfl]
      refine Ev.step (fun k => by rw [klaxonlaw17_StateQuiet.j3]) ?_
      refine Ev.neg_ (by simp) ?_
      rw [hw]
      exact ih _ _ _ _ _ _ _ _ _ _ (by omega) (by omega) ⟨NOW0, NOW1, .inr ⟨a1, .inl ⟨by omega, a2⟩⟩⟩
    · refine Ev.some_bind rfl (Ev.some_bind rfl ?_)
      simp only [m1]
      refine Ev.ite_ (fun h1 => ?_) (fun h1 => ?_)
      · subst h1
        exact Ev.pos_ (normal_of_normal ..) live_ev
      · have h3 : x0 = 3 := by rcases hs with h | ⟨h, _⟩; exact absurd h h1; exact h
        subst h3
        have hq := hs.resolve_left (by decide)
        have j4 : ∀ quiet', 0 ≤ quiet' ∧ quiet' ≤ now' → (quiet' = if x3 = -1 then now' else x3) → Ev (fun k => klaxonlaw17_StateQuiet.j4 k keep now' l again quiet' i 0 keep 1 1 (stepP 0 keep 1 now' 3 x1 x2 x3).1 (stepP 0 keep 1 now' 3 x1 x2 x3).2.1 (stepP 0 keep 1 now' 3 x1 x2 x3).2.2.1 (stepP 0 keep 1 now' 3 x1 x2 x3).2.2.2 now' 1 0) true := by
          intro quiet' hq' hqe
          obtain ⟨b1, b2⟩ := normal_to 0 keep now' quiet' x1 x2 x3 hk ⟨NOW0, by omega⟩ hq' hqe
          have hw2 : wrap64 (now' - quiet') = now' - quiet' := wrap64_id (by omega) (by omega)
          have j6 : ∀ want : Int, want = (if keep = 0 ∨ now' - quiet' ≥ keep then 1 else 3) → Ev (fun k => klaxonlaw17_StateQuiet.j6 k keep now' l again quiet' i want 0 keep 1 1 (stepP 0 keep 1 now' 3 x1 x2 x3).1 (stepP 0 keep 1 now' 3 x1 x2 x3).2.1 (stepP 0 keep 1 now' 3 x1 x2 x3).2.2.1 (stepP 0 keep 1 now' 3 x1 x2 x3).2.2.2 now' 1 0) true := by
            intro want hwt
            refine Ev.step (fun k => by rw [klaxonlaw17_StateQuiet.j6]) ?_
            refine Ev.pos_ (by rw [b1, hwt]) ?_
            rw [hw]
            refine ih _ _ _ _ _ _ _ _ _ _ (by omega) (by omega) ⟨NOW0, NOW1, ?_⟩
            by_cases hc : keep = 0 ∨ now' - quiet' ≥ keep
            · left; rw [b1, if_pos hc]
            · right; rw [if_neg hc] at b1; exact ⟨b1, .inr ⟨hq'.1, hq'.2, b2 b1⟩⟩
          have j5 : ∀ b : Bool, (b = true ↔ (keep = 0 ∨ now' - quiet' ≥ keep)) → Ev (fun k => klaxonlaw17_StateQuiet.j5 k keep now' l again quiet' i 3 b 0 keep 1 1 (stepP 0 keep 1 now' 3 x1 x2 x3).1 (stepP 0 keep 1 now' 3 x1 x2 x3).2.1 (stepP 0 keep 1 now' 3 x1 x2 x3).2.2.1 (stepP 0 keep 1 now' 3 x1 x2 x3).2.2.2 now' 1 0) true := by
            intro b hb
            refine Ev.step (fun k => by rw [klaxonlaw17_StateQuiet.j5]) ?_
            exact Ev.ite_ (fun h => j6 1 (by rw [if_pos (hb.1 h)])) (fun h => j6 3 (by rw [if_neg (fun c => h (hb.2 c))]))
          refine Ev.step (fun k => by rw [klaxonlaw17_StateQuiet.j4]) ?_
          exact Ev.ite_ (fun h => j5 true (by simp [h])) (fun h => j5 _ (by rw [hw2]; simp [h]))
        refine Ev.ite_ (fun hlq => j4 now' ⟨NOW0, by omega⟩ ?_) (fun hlq => j4 quiet ?_ ?_)
        · rcases hq with ⟨_, ⟨_, h⟩ | ⟨h, _⟩⟩
          · rw [if_pos h]
          · omega
        · rcases hq with ⟨_, ⟨h, _⟩ | ⟨a, b, _⟩⟩
          · omega
          · exact ⟨a, by omega⟩
        · rcases hq with ⟨_, ⟨h, _⟩ | ⟨a, b, c⟩⟩
          · omega
          · rw [if_neg (by omega), c]
theorem main (keep now again : Int) (l : List Int) : Ev (fun k => klaxonlaw17_StateQuiet.f k keep now l again) true := by
  have j0t : Ev (fun k => klaxonlaw17_StateQuiet.j0 k keep now l again true) true := Ev.step (fun k => by rw [klaxonlaw17_StateQuiet.j0]) (Ev.pos_ rfl live_ev)
  refine Ev.congr (fun k => by rw [klaxonlaw17_StateQuiet.f]) ?_
  refine Ev.ite_ (fun _ => j0t) (fun h1 => Ev.ite_ (fun _ => j0t) (fun h2 => Ev.ite_ (fun _ => j0t) (fun h3 => Ev.ite_ (fun _ => j0t) (fun h4 => ?_))))
  by_cases hl : (l.length : Int) > 100
  · rw [decide_eq_true hl]; exact j0t
  rw [decide_eq_false hl]
  refine Ev.step (fun k => by rw [klaxonlaw17_StateQuiet.j0]) ?_
  refine Ev.neg_ (by simp) (Ev.some_bind rfl (Ev.some_bind rfl (Ev.some_bind rfl ?_)))
  have m2 : meansP 1 1 2 = 2 := rfl
  simp only [m2]
  obtain ⟨a1, a2⟩ := alert_to keep now 1 now (-1) (-1) (.inl rfl)
  refine Ev.pos_ a1 ?_
  exact loop keep again (by omega) l (by omega) l.length _ _ _ _ _ _ _ _ _ _ (by omega) (by omega) ⟨by omega, by omega, .inr ⟨a1, .inl ⟨by omega, a2⟩⟩⟩
end QuietP
theorem StateQuiet : klaxonlaw17_StateQuiet.PureS := fun _ _ _ _ _ _ _ _ => Ev.at_ (QuietP.main ..)
end Go.Proofs.Ytmcnipjfigbkeaa.Pure
