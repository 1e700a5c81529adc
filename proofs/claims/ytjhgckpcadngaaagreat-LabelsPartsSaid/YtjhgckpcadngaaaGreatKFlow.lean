/- A region that draws its order, whose operations come each to a value of a kind (an address that is not known beforehand too) and lay a fact that lasts: it may be walked in one order. -/
import Derived.Test.YtjhgckpcadngaaaGreatKPlan
namespace Go
section
variable {P : Program} {ops : Array Oper} {Q : Exit → Act → World → Prop} {md : Region.Mode} {S : World → Prop} {Up : World → World → Prop}
/-- From every world that meets S and H the operation comes to a value of the kind C, to a world that meets S, and lays the fact R. -/
def SemFlow (P : Program) (S : World → Prop) (Up : World → World → Prop) (s : Sem Next) (H : World → Prop) (C : Value → Prop) (R : Value → World → Prop) : Prop :=
  ∀ w, S w → H w → (∃ v w1, C v ∧ S w1 ∧ Up w w1 ∧ R v w1 ∧ s.run P w = .ok (.value v) w1) ∨ (∃ f args, s.run P w = .ok (.enter f args) w ∧ Calls P f args w fun e w' => ∃ v, e = .returned v ∧ C v ∧ S w' ∧ Up w w' ∧ R v w')
def Flows (P : Program) (md : Region.Mode) (ops : Array Oper) (S : World → Prop) (Up : World → World → Prop) (o : Oper) (K : Nat → World → Prop) (C : Value → Prop) (R : Value → World → Prop) (a : Act) : Prop :=
  (Region.wanted o (yielded ops a.tmps) = true ∧ SemFlow P S Up (execOp a.eval o) (fun w => ∀ e ∈ o.after, Region.binds md e = true → K e.on w) C R) ∨ (Region.wanted o (yielded ops a.tmps) = false ∧ C undef ∧ ∀ w, R undef w)
def updK (K : Nat → World → Prop) (i : Nat) (p : World → Prop) : Nat → World → Prop := fun k => if k = i then p else K k
theorem updK_same (K : Nat → World → Prop) (i : Nat) (p : World → Prop) : updK K i p i = p := if_pos rfl
theorem updK_ne {K : Nat → World → Prop} {i k : Nat} (p : World → Prop) (h : k ≠ i) : updK K i p k = K k := if_neg h
theorem updK_comm (K : Nat → World → Prop) {i j : Nat} (p q : World → Prop) (h : i ≠ j) : updK (updK K i p) j q = updK (updK K j q) i p := by
  funext k
  unfold updK
  by_cases h1 : k = j <;> by_cases h2 : k = i <;> simp [h1, h2]
  · exact absurd (h2.symm.trans h1) h
  · intro e; exact absurd e.symm h
  · intro e; exact absurd e h
theorem Flows.of_same {o : Oper} {K K' : Nat → World → Prop} {C : Value → Prop} {R : Value → World → Prop} {a a' : Act} (hy : Flows P md ops S Up o K C R a) (he : execOp a'.eval o = execOp a.eval o) (hw : Region.wanted o (yielded ops a'.tmps) = Region.wanted o (yielded ops a.tmps)) (hK : ∀ e ∈ o.after, Region.binds md e = true → K e.on = K' e.on) : Flows P md ops S Up o K' C R a' := by
  unfold Flows at *
  rw [he, hw]
  refine hy.imp (fun ⟨h1, h2⟩ => ⟨h1, fun w hS hH => h2 w hS fun e h3 h4 => ?_⟩) id
  have := hK e h3 h4
  rw [this]; exact hH e h3 h4
theorem Flows.wpOp {i : Nat} {o : Oper} {K : Nat → World → Prop} {C : Value → Prop} {R : Value → World → Prop} {a : Act} (hi : ops[i]? = some o) (hrefl : ∀ w, Up w w) (hy : Flows P md ops S Up o K C R a) {N : Act → World → Prop} {w : World} (hS : S w) (hH : ∀ e ∈ o.after, Region.binds md e = true → K e.on w) (h : ∀ v w', C v → S w' → Up w w' → R v w' → N (a.put o.dst v) w') : wpOp P ops Q i N a w := by
  unfold Go.wpOp
  simp only [hi]
  rcases hy with ⟨hw, hv⟩ | ⟨hw, hc, hr⟩
  · simp only [hw, if_true]
    refine .inl ?_
    unfold Oper.wp
    rcases hv w hS hH with ⟨v, w1, hc, h1, hu, hR, hr⟩ | ⟨f, args, hr, hcl⟩
    · rw [hr]; exact h v w1 hc h1 hu hR
    · rw [hr]
      refine Calls.mono hcl ?_
      rintro e w' ⟨v, rfl, hc, hS', hu, hR⟩
      exact h v w' hc hS' hu hR
  · simp only [hw, Bool.false_eq_true, if_false]; exact h undef w hc hS (hrefl w) (hr w)
abbrev Step := Nat × (Value → Prop) × (Value → World → Prop)
/-- The operations that have not come up yet, in one order in which they may; the last one may be met by hand. -/
inductive Flow (P : Program) (md : Region.Mode) (ops : Array Oper) (Q : Exit → Act → World → Prop) (S : World → Prop) (Up : World → World → Prop) : Nat → List Step → (Nat → World → Prop) → Array Bool → Act → Prop
  | done {K : Nat → World → Prop} {listed : Array Bool} {a : Act} (n : Nat) (hr : Region.ready md ops listed = []) (h : ∀ w, S w → (∀ k, listed.getD k false = true → K k w) → Q .normal a w) : Flow P md ops Q S Up n [] K listed a
  | last {K : Nat → World → Prop} {listed : Array Bool} {a : Act} (n m : Nat) {om : Oper} (hm : ops[m]? = some om) (hall : ∀ k, k < ops.size → k ≠ m → ∃ e ∈ om.after, Region.binds md e = true ∧ e.on = k) (hr : Region.ready md ops listed = [m]) (hr2 : Region.ready md ops (listed.setIfInBounds m true) = [])
      (h : ∀ w, S w → (∀ k, listed.getD k false = true → K k w) → wpOp P ops Q m (fun a' w' => Q .normal a' w') a w) : Flow P md ops Q S Up (n + 1) [] K listed a
  | step {n : Nat} {L : List Step} {K : Nat → World → Prop} {listed : Array Bool} {a : Act} (i : Nat) {oi : Oper} (C : Value → Prop) (R : Value → World → Prop) (hi : ops[i]? = some oi) (hne : ∃ v, C v) (hup : ∀ v w w', Up w w' → R v w → R v w')
      (hf : ∀ j oj, ops[j]? = some oj → j ≠ i → listed.getD j true = false → (∀ e ∈ oj.after, Region.binds md e = true → e.on ≠ i) → oi.apart ops oj = true) (hr : i ∈ Region.ready md ops listed) (hy : Flows P md ops S Up oi K C R a)
      (h : ∀ v, C v → Flow P md ops Q S Up n L (updK K i (R v)) (listed.setIfInBounds i true) (a.put oi.dst v)) : Flow P md ops Q S Up (n + 1) ((i, C, R) :: L) K listed a
theorem Flow.swap (hsel : ∀ (j : Nat) (o : Oper) cs b, ops[j]? = some o → o.op ≠ .select cs b) : ∀ {L : List Step} {n : Nat} {K : Nat → World → Prop} {listed : Array Bool} {a : Act}, Flow P md ops Q S Up n L K listed a → L ≠ [] → ∀ {j : Nat} {oj : Oper}, ops[j]? = some oj → j ∈ Region.ready md ops listed →
    ∃ C R m, n = m + 1 ∧ L.find? (fun x => x.1 == j) = some (j, C, R) ∧ (∃ v, C v) ∧ (∀ v w w', Up w w' → R v w → R v w') ∧ Flows P md ops S Up oj K C R a ∧ ∀ u, C u → Flow P md ops Q S Up m (L.eraseP (fun x => x.1 == j)) (updK K j (R u)) (listed.setIfInBounds j true) (a.put oj.dst u) := by
  intro L
  induction L with
  | nil => intro n K listed a h hne; exact absurd rfl hne
  | cons x L ih =>
    intro n K listed a h hnil j oj hj hr
    cases h with
    | step i C R hi hne hup hf hri hy hp =>
      rename_i n oi
      by_cases hji : j = i
      · subst hji
        rw [hi] at hj
        obtain rfl := Option.some.inj hj
        exact ⟨C, R, n, rfl, by simp, hne, hup, hy, fun u hu => by simpa using hp u hu⟩
      · have hF : List.find? (fun x : Step => x.1 == j) ((i, C, R) :: L) = List.find? (fun x : Step => x.1 == j) L := List.find?_cons_of_neg (by simpa using fun e : i = j => hji e.symm)
        have hE : List.eraseP (fun x : Step => x.1 == j) ((i, C, R) :: L) = (i, C, R) :: List.eraseP (fun x : Step => x.1 == j) L := List.eraseP_cons_of_neg (by simpa using fun e : i = j => hji e.symm)
        have hap := hf j oj hj hji (mem_ready.1 hr).1 (ready_waits hj hr hri)
        obtain ⟨h1, h2, h3⟩ := Oper.apart_spec hap
        obtain ⟨v0, hv0⟩ := hne
        have hL : L ≠ [] := by
          intro e
          subst e
          have hp0 := hp v0 hv0
          have hr' := ready_mono hr hji
          cases hp0 with
          | done _ h0 _ => rw [h0] at hr'; cases hr'
          | last n m hm hall h0 _ _ =>
            rw [h0] at hr'
            obtain rfl : j = m := by simpa using hr'
            rw [hj] at hm
            obtain rfl := Option.some.inj hm
            have hilt : i < ops.size := (Array.getElem?_eq_some_iff.1 hi).1
            obtain ⟨e, he, hb, heq⟩ := hall i hilt (Ne.symm hji)
            exact ready_waits hj hr hri e he hb heq
        obtain ⟨Cj, Rj, m, e, hfind, hnej, hupj, ht, hq⟩ := ih (hp v0 hv0) hL hj (ready_mono hr hji)
        subst e
        refine ⟨Cj, Rj, m + 1, rfl, by rw [hF]; exact hfind, hnej, hupj, ht.of_same (execOp_put oj (fun cs b => hsel j oj cs b hj) a oi.dst v0 h1).symm (wanted_put oj a oi.dst v0 h1).symm (fun e he hb => updK_ne _ (ready_waits hj hr hri e he hb)), ?_⟩
        intro u hu
        rw [hE]
        refine Flow.step i C R hi ⟨v0, hv0⟩ hup (fun k ok hk hki hun hno => ?_) (ready_mono hri (Ne.symm hji)) (hy.of_same (execOp_put oi (fun cs b => hsel i oi cs b hi) a oj.dst u h3) (wanted_put oi a oj.dst u h3) (fun e he hb => (updK_ne _ (ready_waits hi hri hr e he hb)).symm)) (fun v hv => ?_)
        · refine hf k ok hk hki ?_ hno
          by_cases hjk : j = k
          · subst hjk; exact (mem_ready.1 hr).1
          · rw [getD_set_ne true hjk] at hun; exact hun
        · obtain ⟨Cj', Rj', m', e', hfind', _, _, _, hq'⟩ := ih (hp v hv) hL hj (ready_mono hr hji)
          obtain rfl : m = m' := by omega
          rw [hfind] at hfind'
          simp only [Option.some.injEq, Prod.mk.injEq, true_and] at hfind'
          obtain ⟨rfl, rfl⟩ := hfind'
          have := hq' u hu
          rw [Act.put_comm a v u h2, Array.setIfInBounds_comm _ _ (Ne.symm hji), updK_comm K _ _ (Ne.symm hji)] at this
          exact this
theorem Flow.sound (hsel : ∀ (j : Nat) (o : Oper) cs b, ops[j]? = some o → o.op ≠ .select cs b) (hrefl : ∀ w, Up w w) {n : Nat} : ∀ {L : List Step} {K : Nat → World → Prop} {listed : Array Bool} {a : Act}, Flow P md ops Q S Up n L K listed a → (∀ k, listed.getD k false = true → ∀ w w', Up w w' → K k w → K k w') → ∀ w, S w → (∀ k, listed.getD k false = true → K k w) → wpAny P md ops Q n listed a w := by
  induction n with
  | zero =>
    intro L K listed a h hst w hS hK
    cases h with
    | done _ h0 hq => exact ⟨h0, hq w hS hK⟩
  | succ n ih =>
    intro L K listed a h hst w hS hK
    cases h with
    | done _ h0 hq => exact ⟨fun _ => hq w hS hK, fun j hj => by (rw [h0] at hj; cases hj)⟩
    | last _ m hm hall h0 h02 hq =>
      refine ⟨(fun e => by (rw [h0] at e; cases e)), fun j hj => ?_⟩
      rw [h0] at hj
      obtain rfl : j = m := by simpa using hj
      refine wpOp_mono (fun a' w' hQ => ?_) (hq w hS hK)
      exact wpAny_done h02 hQ n
    | step i C R hi hne hup hf hri hy hp =>
      refine ⟨(fun e => by (rw [e] at hri; cases hri)), fun j hj => ?_⟩
      obtain ⟨hjun, oj, hoj, hall⟩ := mem_ready.1 hj
      obtain ⟨Cj, Rj, m, e, _, hnej, hupj, ht, hq⟩ := (Flow.step i C R hi hne hup hf hri hy hp).swap hsel (by simp) hoj hj
      obtain rfl : m = n := by omega
      have hpre : ∀ e ∈ oj.after, Region.binds md e = true → K e.on w := fun e he hb => hK _ (by
        have := hall e he hb
        exact this)
      refine ht.wpOp hoj hrefl hS hpre fun v w' hv hS' hu hR => ih (hq v hv) (fun k hk w1 w2 hu12 => ?_) w' hS' (fun k hk => ?_)
      · by_cases hkj : k = j
        · subst hkj; rw [updK_same]; exact hupj v w1 w2 hu12
        · rw [updK_ne _ hkj]; rw [getD_set_ne false (Ne.symm hkj)] at hk; exact hst k hk w1 w2 hu12
      · by_cases hkj : k = j
        · subst hkj; rw [updK_same]; exact hR
        · rw [updK_ne _ hkj]; rw [getD_set_ne false (Ne.symm hkj)] at hk; exact hst k hk w w' hu (hK k hk)
theorem wp_region_flow {id : Nat} {a : Act} {w : World} (hm : P.follows .mixedOrders = true) (hs : Region.noSelect ops = true) (S : World → Prop) (Up : World → World → Prop) (hrefl : ∀ w, Up w w) (hS : S w.drew) (L : List Step) (h : Flow P .any ops Q S Up ops.size L (fun _ _ => True) (Array.replicate ops.size false) a) : (Code.region id ops true).wp P Q a w := by
  refine wp_region_any hm (h.sound (Region.noSelect_spec hs) hrefl (fun _ _ _ _ _ h => h) _ hS (fun _ _ => trivial))
/-- An operation by its parts; ps: those of the operations that it waits for whose facts it uses. -/
def waitsFor (md : Region.Mode) (ops : Array Oper) (i : Nat) (ps : List Nat) : Bool := ps.all fun k => match ops[i]? with
  | some o => o.after.any fun e => Region.binds md e && e.on == k
  | none => false
theorem waitsFor_spec {i : Nat} {o : Oper} {ps : List Nat} (hi : ops[i]? = some o) (h : waitsFor md ops i ps = true) : ∀ k ∈ ps, ∃ e ∈ o.after, Region.binds md e = true ∧ e.on = k := by
  intro k hk
  have := List.all_eq_true.mp h k hk
  simp only [hi] at this
  obtain ⟨e, he, hb⟩ := Array.any_eq_true'.1 this
  simp only [Bool.and_eq_true, beq_iff_eq] at hb
  exact ⟨e, he, hb.1, hb.2⟩
theorem Flow.op {n : Nat} (L : List Step) {K : Nat → World → Prop} {listed : Array Bool} {a : Act} (i : Nat) (d : Option Tmp) (op : Op) (ty : TypeId) (g : Option (Nat × Bool)) (ps : List Nat) (C : Value → Prop) (R : Value → World → Prop)
    (hi : (ops[i]?).map (fun o => (o.dst, o.op, o.type, o.guard)) = some (d, op, ty, g)) (hf : Region.free md ops listed i = true) (hr : (Region.ready md ops listed).contains i = true) (hp : waitsFor md ops i ps = true) (hne : ∃ v, C v) (hup : ∀ v w w', Up w w' → R v w → R v w')
    (hw : Region.wanted (opOf op ty g) (yielded ops a.tmps) = true) (hy : SemFlow P S Up (execOp a.eval (opOf op ty g)) (fun w => ∀ k ∈ ps, K k w) C R)
    (h : ∀ v, C v → Flow P md ops Q S Up n L (updK K i (R v)) (listed.setIfInBounds i true) (a.put d v)) : Flow P md ops Q S Up (n + 1) ((i, C, R) :: L) K listed a := by
  cases ho : ops[i]? with
  | none => rw [ho] at hi; cases hi
  | some oi =>
    rw [ho] at hi
    simp only [Option.map_some, Option.some.injEq, Prod.mk.injEq] at hi
    obtain ⟨rfl, rfl, rfl, rfl⟩ := hi
    refine Flow.step i C R ho hne hup (Region.free_spec ho hf) (by simpa using hr) (.inl ⟨hw, ?_⟩) h
    rw [execOp_parts]
    intro w hS hH
    exact hy w hS fun k hk => by
      obtain ⟨e, he, hb, rfl⟩ := waitsFor_spec ho hp k hk
      exact hH e he hb
/-- An operation without a call that comes to one value and leaves the world alone. -/
theorem Flow.val {n : Nat} (L : List Step) {K : Nat → World → Prop} {listed : Array Bool} {a : Act} (i : Nat) (d : Option Tmp) (op : Op) (ty : TypeId) (g : Option (Nat × Bool)) (ps : List Nat) (v : Value)
    (hi : (ops[i]?).map (fun o => (o.dst, o.op, o.type, o.guard)) = some (d, op, ty, g)) (hf : Region.free md ops listed i = true) (hr : (Region.ready md ops listed).contains i = true) (hp : waitsFor md ops i ps = true)
    (hw : Region.wanted (opOf op ty g) (yielded ops a.tmps) = true) (hy : ∀ w, S w → (∀ k ∈ ps, K k w) → (execOp a.eval (opOf op ty g)).run P w = .ok (.value v) w)
    (h : Flow P md ops Q S Up n L (updK K i (fun _ => True)) (listed.setIfInBounds i true) (a.put d v)) (hrefl : ∀ w, Up w w) : Flow P md ops Q S Up (n + 1) ((i, (fun u => u = v), fun _ _ => True) :: L) K listed a :=
  Flow.op L i d op ty g ps _ _ hi hf hr hp ⟨v, rfl⟩ (fun _ _ _ _ h => h) hw (fun w hS hH => .inl ⟨v, w, rfl, hS, hrefl w, trivial, hy w hS hH⟩) (fun u hu => by subst hu; exact h)
/-- A call that comes to one value. -/
theorem Flow.call {n : Nat} (L : List Step) {K : Nat → World → Prop} {listed : Array Bool} {a : Act} (i : Nat) (d : Option Tmp) (op : Op) (ty : TypeId) (g : Option (Nat × Bool)) (ps : List Nat) (v : Value) (f : FuncId) (args : Array Value)
    (hi : (ops[i]?).map (fun o => (o.dst, o.op, o.type, o.guard)) = some (d, op, ty, g)) (hf : Region.free md ops listed i = true) (hr : (Region.ready md ops listed).contains i = true) (hp : waitsFor md ops i ps = true)
    (hw : Region.wanted (opOf op ty g) (yielded ops a.tmps) = true) (he : ∀ w, (execOp a.eval (opOf op ty g)).run P w = .ok (.enter f args) w) (hc : ∀ w, S w → (∀ k ∈ ps, K k w) → Calls P f args w fun e w' => e = .returned v ∧ S w' ∧ Up w w')
    (h : Flow P md ops Q S Up n L (updK K i (fun _ => True)) (listed.setIfInBounds i true) (a.put d v)) : Flow P md ops Q S Up (n + 1) ((i, (fun u => u = v), fun _ _ => True) :: L) K listed a :=
  Flow.op L i d op ty g ps _ _ hi hf hr hp ⟨v, rfl⟩ (fun _ _ _ _ h => h) hw (fun w hS hH => .inr ⟨f, args, he w, (hc w hS hH).mono fun e w' ⟨e1, e2, e3⟩ => ⟨v, e1, rfl, e2, e3, trivial⟩⟩) (fun u hu => by subst hu; exact h)
/-- An operation that is passed over. -/
theorem Flow.not {n : Nat} (L : List Step) {K : Nat → World → Prop} {listed : Array Bool} {a : Act} (i : Nat) (d : Option Tmp) (op : Op) (ty : TypeId) (g : Option (Nat × Bool))
    (hi : (ops[i]?).map (fun o => (o.dst, o.op, o.type, o.guard)) = some (d, op, ty, g)) (hf : Region.free md ops listed i = true) (hr : (Region.ready md ops listed).contains i = true)
    (hw : Region.wanted (opOf op ty g) (yielded ops a.tmps) = false)
    (h : Flow P md ops Q S Up n L (updK K i (fun _ => True)) (listed.setIfInBounds i true) (a.put d undef)) : Flow P md ops Q S Up (n + 1) ((i, (fun u => u = undef), fun _ _ => True) :: L) K listed a := by
  cases ho : ops[i]? with
  | none => rw [ho] at hi; cases hi
  | some oi =>
    rw [ho] at hi
    simp only [Option.map_some, Option.some.injEq, Prod.mk.injEq] at hi
    obtain ⟨rfl, rfl, rfl, rfl⟩ := hi
    exact Flow.step i _ _ ho ⟨undef, rfl⟩ (fun _ _ _ _ h => h) (Region.free_spec ho hf) (by simpa using hr) (.inr ⟨hw, rfl, fun _ => trivial⟩) (fun u hu => by subst hu; exact h)
def lastOk (md : Region.Mode) (ops : Array Oper) (m : Nat) : Bool := waitsFor md ops m ((List.range ops.size).filter fun k => k != m)
/-- The last operation, met by hand: it waits for all others. -/
theorem Flow.end_ {K : Nat → World → Prop} {listed : Array Bool} {a : Act} (n m : Nat) (d : Option Tmp) (op : Op) (ty : TypeId) (g : Option (Nat × Bool)) (hm : (ops[m]?).map (fun o => (o.dst, o.op, o.type, o.guard)) = some (d, op, ty, g)) (hall : lastOk md ops m = true) (hr : Region.ready md ops listed = [m]) (hr2 : Region.ready md ops (listed.setIfInBounds m true) = [])
    (hw : Region.wanted (opOf op ty g) (yielded ops a.tmps) = true)
    (h : ∀ w, S w → (∀ k, listed.getD k false = true → K k w) → ∀ N : Act → World → Prop, (∀ a' w', Q .normal a' w' → N a' w') → Oper.wp P { dst := d, op := op, type := ty, pos := "", after := #[], guard := g } a w N Q) : Flow P md ops Q S Up (n + 1) [] K listed a := by
  cases ho : ops[m]? with
  | none => rw [ho] at hm; cases hm
  | some om =>
    rw [ho] at hm
    simp only [Option.map_some, Option.some.injEq, Prod.mk.injEq] at hm
    obtain ⟨rfl, rfl, rfl, rfl⟩ := hm
    refine Flow.last n m ho (fun k hk hkm => ?_) hr hr2 (fun w hS hK => ?_)
    · exact waitsFor_spec ho hall k (by simp; exact ⟨hk, hkm⟩)
    · unfold wpOp
      simp only [ho]
      have hw' : Region.wanted om (yielded ops a.tmps) = true := hw
      rw [if_pos hw']
      refine .inl ?_
      have := h w hS hK _ (fun _ _ h => h)
      unfold Oper.wp Oper.upon at this ⊢
      rw [execOp_parts] at this ⊢
      exact this
end
end Go
