/- KFlow with an end of two operations: a call that waits for all others and changes what they read, and an assignment behind it. -/
import Derived.Test.YtjhgckpcadngaaaGreatKFlow
namespace Go
section
variable {P : Program} {ops : Array Oper} {Q : Exit → Act → World → Prop} {md : Region.Mode} {S : World → Prop} {Up : World → World → Prop}
theorem getD_set_own {l : Array Bool} {i : Nat} (h : l.getD i true = false) : (l.setIfInBounds i true).getD i false = true := by
  have hi : i < l.size := by
    by_cases hi : i < l.size
    · exact hi
    · rw [Array.getD, dif_neg hi] at h; cases h
  rw [Array.setIfInBounds, dif_pos hi, Array.getD, dif_pos (by simpa using hi)]
  simp
def depsOf (md : Region.Mode) (ops : Array Oper) (i : Nat) : List Nat := match ops[i]? with
  | some o => (o.after.toList.filter fun e => Region.binds md e).map fun e => e.on
  | none => []
def ancOf (md : Region.Mode) (ops : Array Oper) : Nat → List Nat → List Nat
  | 0, l => l
  | n + 1, l => l ++ ancOf md ops n (l.flatMap (depsOf md ops))
/-- What is listed has all listed that it waits for. -/
def Closed (md : Region.Mode) (ops : Array Oper) (listed : Array Bool) : Prop := ∀ k, listed.getD k false = true → ∀ d ∈ depsOf md ops k, listed.getD d false = true
theorem Closed.anc {listed : Array Bool} (h : Closed md ops listed) : ∀ (n : Nat) (l : List Nat), (∀ x ∈ l, listed.getD x false = true) → ∀ x ∈ ancOf md ops n l, listed.getD x false = true
  | 0, l, hl, x, hx => hl x hx
  | n + 1, l, hl, x, hx => by
    rcases List.mem_append.1 hx with hx | hx
    · exact hl x hx
    · refine h.anc n _ (fun y hy => ?_) x hx
      obtain ⟨z, hz, hy⟩ := List.mem_flatMap.1 hy
      exact h z (hl z hz) y hy
theorem deps_ready {listed : Array Bool} {j : Nat} (hj : j ∈ Region.ready md ops listed) : ∀ d ∈ depsOf md ops j, listed.getD d false = true := by
  obtain ⟨_, oj, hoj, hall⟩ := mem_ready.1 hj
  intro d hd
  unfold depsOf at hd
  rw [hoj] at hd
  obtain ⟨e, he, rfl⟩ := List.mem_map.1 hd
  rw [List.mem_filter] at he
  exact hall e (by simpa using he.1) he.2
theorem Closed.set {listed : Array Bool} (h : Closed md ops listed) {i : Nat} (hi : i ∈ Region.ready md ops listed) : Closed md ops (listed.setIfInBounds i true) := by
  intro k hk d hd
  have hold : listed.getD d false = true := by
    by_cases e : i = k
    · subst e; exact deps_ready hi d hd
    · rw [getD_set_ne false e] at hk; exact h k hk d hd
  by_cases e : i = d
  · subst e; exact getD_set_own (mem_ready.1 hi).1
  · rw [getD_set_ne false e]; exact hold
/-- The operations that have not come up yet, in one order in which they may; the last one may be met by hand. -/
inductive Flow2 (P : Program) (md : Region.Mode) (ops : Array Oper) (Q : Exit → Act → World → Prop) (S : World → Prop) (Up : World → World → Prop) : Nat → List Step → (Nat → World → Prop) → Array Bool → Act → Prop
  | done {K : Nat → World → Prop} {listed : Array Bool} {a : Act} (n : Nat) (hr : Region.ready md ops listed = []) (h : ∀ w, S w → (∀ k, listed.getD k false = true → K k w) → Q .normal a w) : Flow2 P md ops Q S Up n [] K listed a
  | last {K : Nat → World → Prop} {listed : Array Bool} {a : Act} (n m : Nat) {om : Oper} (hm : ops[m]? = some om) (hall : ∃ q, ∀ k, listed.getD k false = true → k ∈ ancOf md ops q (depsOf md ops m)) (hr : Region.ready md ops listed = [m])
      (h : ∀ w, S w → (∀ k, listed.getD k false = true → K k w) → wpOp P ops Q m (fun a' w' => wpAny P md ops Q n (listed.setIfInBounds m true) a' w') a w) : Flow2 P md ops Q S Up (n + 1) [] K listed a
  | step {n : Nat} {L : List Step} {K : Nat → World → Prop} {listed : Array Bool} {a : Act} (i : Nat) {oi : Oper} (C : Value → Prop) (R : Value → World → Prop) (hi : ops[i]? = some oi) (hne : ∃ v, C v) (hup : ∀ v w w', Up w w' → R v w → R v w')
      (hf : ∀ j oj, ops[j]? = some oj → j ≠ i → listed.getD j true = false → (∀ e ∈ oj.after, Region.binds md e = true → e.on ≠ i) → oi.apart ops oj = true) (hr : i ∈ Region.ready md ops listed) (hy : Flows P md ops S Up oi K C R a)
      (h : ∀ v, C v → Flow2 P md ops Q S Up n L (updK K i (R v)) (listed.setIfInBounds i true) (a.put oi.dst v)) : Flow2 P md ops Q S Up (n + 1) ((i, C, R) :: L) K listed a
theorem Flow2.swap (hsel : ∀ (j : Nat) (o : Oper) cs b, ops[j]? = some o → o.op ≠ .select cs b) : ∀ {L : List Step} {n : Nat} {K : Nat → World → Prop} {listed : Array Bool} {a : Act}, Flow2 P md ops Q S Up n L K listed a → Closed md ops listed → L ≠ [] → ∀ {j : Nat} {oj : Oper}, ops[j]? = some oj → j ∈ Region.ready md ops listed →
    ∃ C R m, n = m + 1 ∧ L.find? (fun x => x.1 == j) = some (j, C, R) ∧ (∃ v, C v) ∧ (∀ v w w', Up w w' → R v w → R v w') ∧ Flows P md ops S Up oj K C R a ∧ ∀ u, C u → Flow2 P md ops Q S Up m (L.eraseP (fun x => x.1 == j)) (updK K j (R u)) (listed.setIfInBounds j true) (a.put oj.dst u) := by
  intro L
  induction L with
  | nil => intro n K listed a h _ hne; exact absurd rfl hne
  | cons x L ih =>
    intro n K listed a h hcl hnil j oj hj hr
    cases h with
    | step i C R hi hne hup hf hri hy hp =>
      rename_i n oi
      by_cases hji : j = i
      · subst hji
        rw [hi] at hj
        obtain rfl := Option.some.inj hj
        exact ⟨C, R, n, rfl, by simp, hne, hup, hy, fun u hu => by simpa using hp u hu⟩
      · have hF : List.find? (fun x : Step => x.1 == j) ((i, C, R) :: L) = List.find? (fun x : Step => x.1 == j) L := List.find?_cons_of_neg (by simpa using fun e : i = j => hji e.symm)
        have hE : List.eraseP (fun x : Step => x.1 == j) ((i, C, R) :: L) = (i, C, R) :: List.eraseP (fun x : Step => x.1 == j) L := List.eraseP_cons_of_neg (by simpa using fun e : i = j => hji e.symm)
        have hap := hf j oj hj hji (mem_ready.1 hr).1 (ready_waits hj hr hri)
        obtain ⟨h1, h2, h3⟩ := Oper.apart_spec hap
        obtain ⟨v0, hv0⟩ := hne
        have hL : L ≠ [] := by
          intro e
          subst e
          have hp0 := hp v0 hv0
          have hr' := ready_mono hr hji
          cases hp0 with
          | done _ h0 _ => rw [h0] at hr'; cases hr'
          | last n m hm hall h0 _ =>
            rw [h0] at hr'
            obtain rfl : j = m := by simpa using hr'
            rw [hj] at hm
            obtain rfl := Option.some.inj hm
            obtain ⟨q, hq⟩ := hall
            have h1 := hcl.anc q _ (deps_ready hr) i (hq i (getD_set_own (mem_ready.1 hri).1))
            have h2 := (mem_ready.1 hri).1
            rw [Array.getD] at h1 h2
            split at h1
            · rw [dif_pos (by assumption)] at h2; rw [h1] at h2; cases h2
            · cases h1
        obtain ⟨Cj, Rj, m, e, hfind, hnej, hupj, ht, hq⟩ := ih (hp v0 hv0) (hcl.set hri) hL hj (ready_mono hr hji)
        subst e
        refine ⟨Cj, Rj, m + 1, rfl, by rw [hF]; exact hfind, hnej, hupj, ht.of_same (execOp_put oj (fun cs b => hsel j oj cs b hj) a oi.dst v0 h1).symm (wanted_put oj a oi.dst v0 h1).symm (fun e he hb => updK_ne _ (ready_waits hj hr hri e he hb)), ?_⟩
        intro u hu
        rw [hE]
        refine Flow2.step i C R hi ⟨v0, hv0⟩ hup (fun k ok hk hki hun hno => ?_) (ready_mono hri (Ne.symm hji)) (hy.of_same (execOp_put oi (fun cs b => hsel i oi cs b hi) a oj.dst u h3) (wanted_put oi a oj.dst u h3) (fun e he hb => (updK_ne _ (ready_waits hi hri hr e he hb)).symm)) (fun v hv => ?_)
        · refine hf k ok hk hki ?_ hno
          by_cases hjk : j = k
          · subst hjk; exact (mem_ready.1 hr).1
          · rw [getD_set_ne true hjk] at hun; exact hun
        · obtain ⟨Cj', Rj', m', e', hfind', _, _, _, hq'⟩ := ih (hp v hv) (hcl.set hri) hL hj (ready_mono hr hji)
          obtain rfl : m = m' := by omega
          rw [hfind] at hfind'
          simp only [Option.some.injEq, Prod.mk.injEq, true_and] at hfind'
          obtain ⟨rfl, rfl⟩ := hfind'
          have := hq' u hu
          rw [Act.put_comm a v u h2, Array.setIfInBounds_comm _ _ (Ne.symm hji), updK_comm K _ _ (Ne.symm hji)] at this
          exact this
theorem Flow2.sound (hsel : ∀ (j : Nat) (o : Oper) cs b, ops[j]? = some o → o.op ≠ .select cs b) (hrefl : ∀ w, Up w w) {n : Nat} : ∀ {L : List Step} {K : Nat → World → Prop} {listed : Array Bool} {a : Act}, Flow2 P md ops Q S Up n L K listed a → Closed md ops listed → (∀ k, listed.getD k false = true → ∀ w w', Up w w' → K k w → K k w') → ∀ w, S w → (∀ k, listed.getD k false = true → K k w) → wpAny P md ops Q n listed a w := by
  induction n with
  | zero =>
    intro L K listed a h hcl hst w hS hK
    cases h with
    | done _ h0 hq => exact ⟨h0, hq w hS hK⟩
  | succ n ih =>
    intro L K listed a h hcl hst w hS hK
    cases h with
    | done _ h0 hq => exact ⟨fun _ => hq w hS hK, fun j hj => by (rw [h0] at hj; cases hj)⟩
    | last _ m hm hall h0 hq =>
      refine ⟨(fun e => by (rw [h0] at e; cases e)), fun j hj => ?_⟩
      rw [h0] at hj
      obtain rfl : j = m := by simpa using hj
      exact hq w hS hK
    | step i C R hi hne hup hf hri hy hp =>
      refine ⟨(fun e => by (rw [e] at hri; cases hri)), fun j hj => ?_⟩
      obtain ⟨hjun, oj, hoj, hall⟩ := mem_ready.1 hj
      obtain ⟨Cj, Rj, m, e, _, hnej, hupj, ht, hq⟩ := (Flow2.step i C R hi hne hup hf hri hy hp).swap hsel hcl (by simp) hoj hj
      obtain rfl : m = n := by omega
      have hpre : ∀ e ∈ oj.after, Region.binds md e = true → K e.on w := fun e he hb => hK _ (by
        have := hall e he hb
        exact this)
      refine ht.wpOp hoj hrefl hS hpre fun v w' hv hS' hu hR => ih (hq v hv) (hcl.set hj) (fun k hk w1 w2 hu12 => ?_) w' hS' (fun k hk => ?_)
      · by_cases hkj : k = j
        · subst hkj; rw [updK_same]; exact hupj v w1 w2 hu12
        · rw [updK_ne _ hkj]; rw [getD_set_ne false (Ne.symm hkj)] at hk; exact hst k hk w1 w2 hu12
      · by_cases hkj : k = j
        · subst hkj; rw [updK_same]; exact hR
        · rw [updK_ne _ hkj]; rw [getD_set_ne false (Ne.symm hkj)] at hk; exact hst k hk w w' hu (hK k hk)
theorem wp_region_flow2 {id : Nat} {a : Act} {w : World} (hm : P.follows .mixedOrders = true) (hs : Region.noSelect ops = true) (S : World → Prop) (Up : World → World → Prop) (hrefl : ∀ w, Up w w) (hS : S w.drew) (L : List Step) (h : Flow2 P .any ops Q S Up ops.size L (fun _ _ => True) (Array.replicate ops.size false) a) : (Code.region id ops true).wp P Q a w := by
  refine wp_region_any hm (h.sound (Region.noSelect_spec hs) hrefl (fun k hk => by (simp [Array.getD] at hk)) (fun _ _ _ _ _ h => h) _ hS (fun _ _ => trivial))
theorem Flow2.op {n : Nat} (L : List Step) {K : Nat → World → Prop} {listed : Array Bool} {a : Act} (i : Nat) (d : Option Tmp) (op : Op) (ty : TypeId) (g : Option (Nat × Bool)) (ps : List Nat) (C : Value → Prop) (R : Value → World → Prop)
    (hi : (ops[i]?).map (fun o => (o.dst, o.op, o.type, o.guard)) = some (d, op, ty, g)) (hf : Region.free md ops listed i = true) (hr : (Region.ready md ops listed).contains i = true) (hp : waitsFor md ops i ps = true) (hne : ∃ v, C v) (hup : ∀ v w w', Up w w' → R v w → R v w')
    (hw : Region.wanted (opOf op ty g) (yielded ops a.tmps) = true) (hy : SemFlow P S Up (execOp a.eval (opOf op ty g)) (fun w => ∀ k ∈ ps, K k w) C R)
    (h : ∀ v, C v → Flow2 P md ops Q S Up n L (updK K i (R v)) (listed.setIfInBounds i true) (a.put d v)) : Flow2 P md ops Q S Up (n + 1) ((i, C, R) :: L) K listed a := by
  cases ho : ops[i]? with
  | none => rw [ho] at hi; cases hi
  | some oi =>
    rw [ho] at hi
    simp only [Option.map_some, Option.some.injEq, Prod.mk.injEq] at hi
    obtain ⟨rfl, rfl, rfl, rfl⟩ := hi
    refine Flow2.step i C R ho hne hup (Region.free_spec ho hf) (by simpa using hr) (.inl ⟨hw, ?_⟩) h
    rw [execOp_parts]
    intro w hS hH
    exact hy w hS fun k hk => by
      obtain ⟨e, he, hb, rfl⟩ := waitsFor_spec ho hp k hk
      exact hH e he hb
/-- An operation without a call that comes to one value and leaves the world alone. -/
theorem Flow2.val {n : Nat} (L : List Step) {K : Nat → World → Prop} {listed : Array Bool} {a : Act} (i : Nat) (d : Option Tmp) (op : Op) (ty : TypeId) (g : Option (Nat × Bool)) (ps : List Nat) (v : Value)
    (hi : (ops[i]?).map (fun o => (o.dst, o.op, o.type, o.guard)) = some (d, op, ty, g)) (hf : Region.free md ops listed i = true) (hr : (Region.ready md ops listed).contains i = true) (hp : waitsFor md ops i ps = true)
    (hw : Region.wanted (opOf op ty g) (yielded ops a.tmps) = true) (hy : ∀ w, S w → (∀ k ∈ ps, K k w) → (execOp a.eval (opOf op ty g)).run P w = .ok (.value v) w)
    (h : Flow2 P md ops Q S Up n L (updK K i (fun _ => True)) (listed.setIfInBounds i true) (a.put d v)) (hrefl : ∀ w, Up w w) : Flow2 P md ops Q S Up (n + 1) ((i, (fun u => u = v), fun _ _ => True) :: L) K listed a :=
  Flow2.op L i d op ty g ps _ _ hi hf hr hp ⟨v, rfl⟩ (fun _ _ _ _ h => h) hw (fun w hS hH => .inl ⟨v, w, rfl, hS, hrefl w, trivial, hy w hS hH⟩) (fun u hu => by subst hu; exact h)
/-- A call that comes to one value. -/
theorem Flow2.call {n : Nat} (L : List Step) {K : Nat → World → Prop} {listed : Array Bool} {a : Act} (i : Nat) (d : Option Tmp) (op : Op) (ty : TypeId) (g : Option (Nat × Bool)) (ps : List Nat) (v : Value) (f : FuncId) (args : Array Value)
    (hi : (ops[i]?).map (fun o => (o.dst, o.op, o.type, o.guard)) = some (d, op, ty, g)) (hf : Region.free md ops listed i = true) (hr : (Region.ready md ops listed).contains i = true) (hp : waitsFor md ops i ps = true)
    (hw : Region.wanted (opOf op ty g) (yielded ops a.tmps) = true) (he : ∀ w, (execOp a.eval (opOf op ty g)).run P w = .ok (.enter f args) w) (hc : ∀ w, S w → (∀ k ∈ ps, K k w) → Calls P f args w fun e w' => e = .returned v ∧ S w' ∧ Up w w')
    (h : Flow2 P md ops Q S Up n L (updK K i (fun _ => True)) (listed.setIfInBounds i true) (a.put d v)) : Flow2 P md ops Q S Up (n + 1) ((i, (fun u => u = v), fun _ _ => True) :: L) K listed a :=
  Flow2.op L i d op ty g ps _ _ hi hf hr hp ⟨v, rfl⟩ (fun _ _ _ _ h => h) hw (fun w hS hH => .inr ⟨f, args, he w, (hc w hS hH).mono fun e w' ⟨e1, e2, e3⟩ => ⟨v, e1, rfl, e2, e3, trivial⟩⟩) (fun u hu => by subst hu; exact h)
/-- An operation that is passed over. -/
theorem Flow2.not {n : Nat} (L : List Step) {K : Nat → World → Prop} {listed : Array Bool} {a : Act} (i : Nat) (d : Option Tmp) (op : Op) (ty : TypeId) (g : Option (Nat × Bool))
    (hi : (ops[i]?).map (fun o => (o.dst, o.op, o.type, o.guard)) = some (d, op, ty, g)) (hf : Region.free md ops listed i = true) (hr : (Region.ready md ops listed).contains i = true)
    (hw : Region.wanted (opOf op ty g) (yielded ops a.tmps) = false)
    (h : Flow2 P md ops Q S Up n L (updK K i (fun _ => True)) (listed.setIfInBounds i true) (a.put d undef)) : Flow2 P md ops Q S Up (n + 1) ((i, (fun u => u = undef), fun _ _ => True) :: L) K listed a := by
  cases ho : ops[i]? with
  | none => rw [ho] at hi; cases hi
  | some oi =>
    rw [ho] at hi
    simp only [Option.map_some, Option.some.injEq, Prod.mk.injEq] at hi
    obtain ⟨rfl, rfl, rfl, rfl⟩ := hi
    exact Flow2.step i _ _ ho ⟨undef, rfl⟩ (fun _ _ _ _ h => h) (Region.free_spec ho hf) (by simpa using hr) (.inr ⟨hw, rfl, fun _ => trivial⟩) (fun u hu => by subst hu; exact h)

def onlyOk (md : Region.Mode) (ops : Array Oper) (listed : Array Bool) (m q : Nat) : Bool := (List.range listed.size).all fun k => !(listed.getD k false) || (ancOf md ops q (depsOf md ops m)).contains k
/-- The end: a call that waits for all others, and the assignment of what it came to. -/
theorem Flow2.end2 {K : Nat → World → Prop} {listed : Array Bool} {a : Act} (n m m2 : Nat) (d : Option Tmp) (op : Op) (ty : TypeId) (g : Option (Nat × Bool)) (d2 : Option Tmp) (op2 : Op) (ty2 : TypeId) (g2 : Option (Nat × Bool)) (f : FuncId) (args : Array Value)
    (hm : (ops[m]?).map (fun o => (o.dst, o.op, o.type, o.guard)) = some (d, op, ty, g)) (hm2 : (ops[m2]?).map (fun o => (o.dst, o.op, o.type, o.guard)) = some (d2, op2, ty2, g2))
    (q : Nat) (hall : onlyOk md ops listed m q = true) (hr : Region.ready md ops listed = [m]) (hr2 : Region.ready md ops (listed.setIfInBounds m true) = [m2]) (hr3 : Region.ready md ops ((listed.setIfInBounds m true).setIfInBounds m2 true) = [])
    (hw : Region.wanted (opOf op ty g) (yielded ops a.tmps) = true) (he : ∀ w, (execOp a.eval (opOf op ty g)).run P w = .ok (.enter f args) w)
    (h : ∀ w, S w → Calls P f args w fun e w' => ∃ v u, e = .returned v ∧ Region.wanted (opOf op2 ty2 g2) (yielded ops (a.put d v).tmps) = true ∧ (execOp (a.put d v).eval (opOf op2 ty2 g2)).run P w' = .ok (.value u) w' ∧ Q .normal ((a.put d v).put d2 u) w') : Flow2 P md ops Q S Up (n + 2) [] K listed a := by
  cases ho : ops[m]? with
  | none => rw [ho] at hm; cases hm
  | some om =>
    rw [ho] at hm
    simp only [Option.map_some, Option.some.injEq, Prod.mk.injEq] at hm
    obtain ⟨rfl, rfl, rfl, rfl⟩ := hm
    cases ho2 : ops[m2]? with
    | none => rw [ho2] at hm2; cases hm2
    | some om2 =>
      rw [ho2] at hm2
      simp only [Option.map_some, Option.some.injEq, Prod.mk.injEq] at hm2
      obtain ⟨rfl, rfl, rfl, rfl⟩ := hm2
      refine Flow2.last (n + 1) m ho ⟨q, fun k hk => ?_⟩ hr (fun w hS hK => ?_)
      · have hlt : k < listed.size := by
          by_cases hlt : k < listed.size
          · exact hlt
          · rw [Array.getD, dif_neg hlt] at hk; cases hk
        have := List.all_eq_true.1 hall k (List.mem_range.2 hlt)
        rw [hk] at this
        simpa using this
      · unfold Go.wpOp
        simp only [ho]
        have hw' : Region.wanted om (yielded ops a.tmps) = true := hw
        rw [if_pos hw']
        refine .inl ?_
        unfold Oper.wp
        have he' := he w
        rw [← execOp_parts] at he'
        rw [he']
        refine Calls.mono (h w hS) ?_
        rintro e w' ⟨v, u, rfl, hv, hu, hq⟩
        refine ⟨fun e => by (rw [hr2] at e; cases e), fun j hj => ?_⟩
        rw [hr2] at hj
        obtain rfl : j = m2 := by simpa using hj
        unfold Go.wpOp
        simp only [ho2]
        have hv' : Region.wanted om2 (yielded ops (a.put om.dst v).tmps) = true := hv
        rw [if_pos hv']
        refine .inl ?_
        unfold Oper.wp
        rw [← execOp_parts] at hu
        rw [hu]
        exact wpAny_done hr3 hq n
end
end Go
