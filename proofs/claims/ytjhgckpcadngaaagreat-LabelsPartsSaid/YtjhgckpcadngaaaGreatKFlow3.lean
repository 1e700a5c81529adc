/- KFlow3 with one operation of its own kind (sp): behind it the facts of the operations marked by dr need not hold any more (a row that it writes on). It may end at any operation that waits for all that came up. -/
import Derived.Test.YtjhgckpcadngaaaGreatKFlow2
namespace Go
section
variable {P : Program} {ops : Array Oper} {Q : Exit → Act → World → Prop} {md : Region.Mode} {S : World → Prop} {Up UpN : World → World → Prop} {sp : Nat} {dr : Nat → Bool}
/-- What an operation may use of the facts: the special one all, any other one those that last. -/
def wrapK (md : Region.Mode) (ops : Array Oper) (sp : Nat) (dr : Nat → Bool) (i : Nat) (K : Nat → World → Prop) : Nat → World → Prop := fun k w => ((i ≠ sp ∧ (ancOf md ops 12 (depsOf md ops sp)).contains i = false) ∧ dr k = true) ∨ K k w
def upOf (Up UpN : World → World → Prop) (sp i : Nat) : World → World → Prop := if i = sp then UpN else Up
theorem wrapK_congr {i k : Nat} {K K' : Nat → World → Prop} (h : K k = K' k) : wrapK md ops sp dr i K k = wrapK md ops sp dr i K' k := by unfold wrapK; rw [h]
theorem upOf_ne {i : Nat} (h : i ≠ sp) : upOf Up UpN sp i = Up := by unfold upOf; rw [if_neg h]
theorem upOf_eq : upOf Up UpN sp sp = UpN := by unfold upOf; rw [if_pos rfl]
theorem upOf_refl (h : ∀ w, Up w w) (hN : ∀ w, UpN w w) (i : Nat) (w : World) : upOf Up UpN sp i w w := by unfold upOf; split; exact hN w; exact h w
/-- The operations that have not come up yet, in one order in which they may; the last one may be met by hand. -/
inductive Flow3 (P : Program) (md : Region.Mode) (ops : Array Oper) (Q : Exit → Act → World → Prop) (S : World → Prop) (Up UpN : World → World → Prop) (sp : Nat) (dr : Nat → Bool) : Nat → List Step → (Nat → World → Prop) → Array Bool → Act → Prop
  | done {K : Nat → World → Prop} {listed : Array Bool} {a : Act} (n : Nat) (hr : Region.ready md ops listed = []) (h : ∀ w, S w → (∀ k, listed.getD k false = true → (dr k = true → listed.getD sp false = false) → K k w) → Q .normal a w) : Flow3 P md ops Q S Up UpN sp dr n [] K listed a
  | last {K : Nat → World → Prop} {listed : Array Bool} {a : Act} (n m : Nat) {om : Oper} (hm : ops[m]? = some om) (hall : ∃ q, ∀ k, listed.getD k false = true → k ∈ ancOf md ops q (depsOf md ops m)) (hr : Region.ready md ops listed = [m])
      (h : ∀ w, S w → (∀ k, listed.getD k false = true → (dr k = true → listed.getD sp false = false) → K k w) → wpOp P ops Q m (fun a' w' => wpAny P md ops Q n (listed.setIfInBounds m true) a' w') a w) : Flow3 P md ops Q S Up UpN sp dr (n + 1) [] K listed a
  | step {n : Nat} {L : List Step} {K : Nat → World → Prop} {listed : Array Bool} {a : Act} (i : Nat) {oi : Oper} (C : Value → Prop) (R : Value → World → Prop) (hi : ops[i]? = some oi) (hne : ∃ v, C v) (hup : ∀ v w w', Up w w' → R v w → R v w') (hupN : dr i = false → i ≠ sp → ∀ v w w', UpN w w' → R v w → R v w')
      (hf : ∀ j oj, ops[j]? = some oj → j ≠ i → listed.getD j true = false → (∀ e ∈ oj.after, Region.binds md e = true → e.on ≠ i) → oi.apart ops oj = true) (hr : i ∈ Region.ready md ops listed) (hy : Flows P md ops S (upOf Up UpN sp i) oi (wrapK md ops sp dr i K) C R a)
      (h : ∀ v, C v → Flow3 P md ops Q S Up UpN sp dr n L (updK K i (R v)) (listed.setIfInBounds i true) (a.put oi.dst v)) : Flow3 P md ops Q S Up UpN sp dr (n + 1) ((i, C, R) :: L) K listed a
theorem Flow3.swap (hsel : ∀ (j : Nat) (o : Oper) cs b, ops[j]? = some o → o.op ≠ .select cs b) : ∀ {L : List Step} {n : Nat} {K : Nat → World → Prop} {listed : Array Bool} {a : Act}, Flow3 P md ops Q S Up UpN sp dr n L K listed a → Closed md ops listed → L ≠ [] → ∀ {j : Nat} {oj : Oper}, ops[j]? = some oj → j ∈ Region.ready md ops listed →
    ∃ C R m, n = m + 1 ∧ L.find? (fun x => x.1 == j) = some (j, C, R) ∧ (∃ v, C v) ∧ (∀ v w w', Up w w' → R v w → R v w') ∧ (dr j = false → j ≠ sp → ∀ v w w', UpN w w' → R v w → R v w') ∧ Flows P md ops S (upOf Up UpN sp j) oj (wrapK md ops sp dr j K) C R a ∧ ∀ u, C u → Flow3 P md ops Q S Up UpN sp dr m (L.eraseP (fun x => x.1 == j)) (updK K j (R u)) (listed.setIfInBounds j true) (a.put oj.dst u) := by
  intro L
  induction L with
  | nil => intro n K listed a h _ hne; exact absurd rfl hne
  | cons x L ih =>
    intro n K listed a h hcl hnil j oj hj hr
    cases h with
    | step i C R hi hne hup hupN hf hri hy hp =>
      rename_i n oi
      by_cases hji : j = i
      · subst hji
        rw [hi] at hj
        obtain rfl := Option.some.inj hj
        exact ⟨C, R, n, rfl, by simp, hne, hup, hupN, hy, fun u hu => by simpa using hp u hu⟩
      · have hF : List.find? (fun x : Step => x.1 == j) ((i, C, R) :: L) = List.find? (fun x : Step => x.1 == j) L := List.find?_cons_of_neg (by simpa using fun e : i = j => hji e.symm)
        have hE : List.eraseP (fun x : Step => x.1 == j) ((i, C, R) :: L) = (i, C, R) :: List.eraseP (fun x : Step => x.1 == j) L := List.eraseP_cons_of_neg (by simpa using fun e : i = j => hji e.symm)
        have hap := hf j oj hj hji (mem_ready.1 hr).1 (ready_waits hj hr hri)
        obtain ⟨h1, h2, h3⟩ := Oper.apart_spec hap
        obtain ⟨v0, hv0⟩ := hne
        have hL : L ≠ [] := by
          intro e
          subst e
          have hp0 := hp v0 hv0
          have hr' := ready_mono hr hji
          cases hp0 with
          | done _ h0 _ => rw [h0] at hr'; cases hr'
          | last n m hm hall h0 _ =>
            rw [h0] at hr'
            obtain rfl : j = m := by simpa using hr'
            rw [hj] at hm
            obtain rfl := Option.some.inj hm
            obtain ⟨q, hq⟩ := hall
            have h1 := hcl.anc q _ (deps_ready hr) i (hq i (getD_set_own (mem_ready.1 hri).1))
            have h2 := (mem_ready.1 hri).1
            rw [Array.getD] at h1 h2
            split at h1
            · rw [dif_pos (by assumption)] at h2; rw [h1] at h2; cases h2
            · cases h1
        obtain ⟨Cj, Rj, m, e, hfind, hnej, hupj, hupNj, ht, hq⟩ := ih (hp v0 hv0) (hcl.set hri) hL hj (ready_mono hr hji)
        subst e
        refine ⟨Cj, Rj, m + 1, rfl, by rw [hF]; exact hfind, hnej, hupj, hupNj, ht.of_same (execOp_put oj (fun cs b => hsel j oj cs b hj) a oi.dst v0 h1).symm (wanted_put oj a oi.dst v0 h1).symm (fun e he hb => wrapK_congr (updK_ne _ (ready_waits hj hr hri e he hb))), ?_⟩
        intro u hu
        rw [hE]
        refine Flow3.step i C R hi ⟨v0, hv0⟩ hup hupN (fun k ok hk hki hun hno => ?_) (ready_mono hri (Ne.symm hji)) (hy.of_same (execOp_put oi (fun cs b => hsel i oi cs b hi) a oj.dst u h3) (wanted_put oi a oj.dst u h3) (fun e he hb => wrapK_congr (updK_ne _ (ready_waits hi hri hr e he hb)).symm)) (fun v hv => ?_)
        · refine hf k ok hk hki ?_ hno
          by_cases hjk : j = k
          · subst hjk; exact (mem_ready.1 hr).1
          · rw [getD_set_ne true hjk] at hun; exact hun
        · obtain ⟨Cj', Rj', m', e', hfind', _, _, _, _, hq'⟩ := ih (hp v hv) (hcl.set hri) hL hj (ready_mono hr hji)
          obtain rfl : m = m' := by omega
          rw [hfind] at hfind'
          simp only [Option.some.injEq, Prod.mk.injEq, true_and] at hfind'
          obtain ⟨rfl, rfl⟩ := hfind'
          have := hq' u hu
          rw [Act.put_comm a v u h2, Array.setIfInBounds_comm _ _ (Ne.symm hji), updK_comm K _ _ (Ne.symm hji)] at this
          exact this
theorem Flow3.sound (hsel : ∀ (j : Nat) (o : Oper) cs b, ops[j]? = some o → o.op ≠ .select cs b) (hrefl : ∀ w, Up w w) (hreflN : ∀ w, UpN w w) {n : Nat} : ∀ {L : List Step} {K : Nat → World → Prop} {listed : Array Bool} {a : Act}, Flow3 P md ops Q S Up UpN sp dr n L K listed a → Closed md ops listed → (∀ k, listed.getD k false = true → (∀ w w', Up w w' → K k w → K k w') ∧ (dr k = false → k ≠ sp → ∀ w w', UpN w w' → K k w → K k w')) → ∀ w, S w → (∀ k, listed.getD k false = true → (dr k = true → listed.getD sp false = false) → K k w) → wpAny P md ops Q n listed a w := by
  induction n with
  | zero =>
    intro L K listed a h hcl hst w hS hK
    cases h with
    | done _ h0 hq => exact ⟨h0, hq w hS hK⟩
  | succ n ih =>
    intro L K listed a h hcl hst w hS hK
    cases h with
    | done _ h0 hq => exact ⟨fun _ => hq w hS hK, fun j hj => by (rw [h0] at hj; cases hj)⟩
    | last _ m hm hall h0 hq =>
      refine ⟨(fun e => by (rw [h0] at e; cases e)), fun j hj => ?_⟩
      rw [h0] at hj
      obtain rfl : j = m := by simpa using hj
      exact hq w hS hK
    | step i C R hi hne hup hupN hf hri hy hp =>
      refine ⟨(fun e => by (rw [e] at hri; cases hri)), fun j hj => ?_⟩
      obtain ⟨hjun, oj, hoj, hall⟩ := mem_ready.1 hj
      obtain ⟨Cj, Rj, m, e, _, hnej, hupj, hupNj, ht, hq⟩ := (Flow3.step i C R hi hne hup hupN hf hri hy hp).swap hsel hcl (by simp) hoj hj
      obtain rfl : m = n := by omega
      have hjf : listed.getD j false = false := by
        rw [Array.getD] at hjun ⊢
        split at hjun
        · rw [dif_pos (by assumption)]; exact hjun
        · cases hjun
      have hpre : ∀ e ∈ oj.after, Region.binds md e = true → wrapK md ops sp dr j K e.on w := fun e he hb => by
        have hl : listed.getD e.on false = true := hall e he hb
        by_cases hjs : j = sp
        · exact .inr (hK _ hl (fun _ => hjs ▸ hjf))
        · by_cases hd : dr e.on = true
          · by_cases ha : (ancOf md ops 12 (depsOf md ops sp)).contains j = true
            · refine .inr (hK _ hl fun _ => ?_)
              cases hsp : listed.getD sp false with
              | false => rfl
              | true =>
                have h1 := hcl.anc 12 _ (hcl sp hsp) j (by simpa using ha)
                rw [hjf] at h1; cases h1
            · exact .inl ⟨⟨hjs, by simpa using ha⟩, hd⟩
          · exact .inr (hK _ hl (fun h => absurd h hd))
      refine ht.wpOp hoj (upOf_refl hrefl hreflN j) hS hpre fun v w' hv hS' hu hR => ih (hq v hv) (hcl.set hj) (fun k hk => ?_) w' hS' (fun k hk hc => ?_)
      · by_cases hkj : k = j
        · subst hkj
          refine ⟨fun w1 w2 hu12 => ?_, fun hd hne w1 w2 hu12 => ?_⟩
          · rw [updK_same]; exact hupj v w1 w2 hu12
          · rw [updK_same]; exact hupNj hd hne v w1 w2 hu12
        · rw [getD_set_ne false (Ne.symm hkj)] at hk
          rw [updK_ne _ hkj]; exact hst k hk
      · by_cases hkj : k = j
        · subst hkj; rw [updK_same]; exact hR
        · rw [updK_ne _ hkj]; rw [getD_set_ne false (Ne.symm hkj)] at hk
          by_cases hjs : j = sp
          · have hd : dr k = false := by
              cases hdk : dr k with
              | false => rfl
              | true =>
                have h1 := hc hdk
                rw [← hjs, getD_set_own (mem_ready.1 hj).1] at h1
                cases h1
            have hu' : UpN w w' := by unfold upOf at hu; rwa [if_pos hjs] at hu
            exact (hst k hk).2 hd (fun e => hkj (e.trans hjs.symm)) w w' hu' (hK k hk (fun h => by rw [hd] at h; cases h))
          · have hu' : Up w w' := by unfold upOf at hu; rwa [if_neg hjs] at hu
            exact (hst k hk).1 w w' hu' (hK k hk (fun h => by have := hc h; rwa [getD_set_ne false hjs] at this))
def closedB (md : Region.Mode) (ops : Array Oper) (listed : Array Bool) : Bool := (List.range listed.size).all fun k => !(listed.getD k false) || (depsOf md ops k).all fun d => listed.getD d false
theorem closedB_spec {listed : Array Bool} (h : closedB md ops listed = true) : Closed md ops listed := by
  intro k hk d hd
  have hlt : k < listed.size := by
    by_cases hlt : k < listed.size
    · exact hlt
    · rw [Array.getD, dif_neg hlt] at hk; cases hk
  have := List.all_eq_true.1 h k (List.mem_range.2 hlt)
  rw [hk] at this
  rw [Bool.not_true, Bool.false_or] at this
  exact List.all_eq_true.1 this d hd
/-- A region that is begun, or its rest. -/
theorem wpAny_flow3 {n : Nat} {listed : Array Bool} {a : Act} {w : World} (hs : Region.noSelect ops = true) (S : World → Prop) (Up UpN : World → World → Prop) (sp : Nat) (dr : Nat → Bool) (hrefl : ∀ w, Up w w) (hreflN : ∀ w, UpN w w) (hS : S w) (hc : closedB md ops listed = true) (L : List Step) (h : Flow3 P md ops Q S Up UpN sp dr n L (fun _ _ => True) listed a) : wpAny P md ops Q n listed a w :=
  h.sound (Region.noSelect_spec hs) hrefl hreflN (closedB_spec hc) (fun _ _ => ⟨fun _ _ _ h => h, fun _ _ _ _ _ h => h⟩) w hS (fun _ _ _ => trivial)
theorem Flow3.op {n : Nat} (L : List Step) {K : Nat → World → Prop} {listed : Array Bool} {a : Act} (i : Nat) (d : Option Tmp) (op : Op) (ty : TypeId) (g : Option (Nat × Bool)) (ps : List Nat) (C : Value → Prop) (R : Value → World → Prop)
    (hi : (ops[i]?).map (fun o => (o.dst, o.op, o.type, o.guard)) = some (d, op, ty, g)) (hf : Region.free md ops listed i = true) (hr : (Region.ready md ops listed).contains i = true) (hp : waitsFor md ops i ps = true) (hps : (i == sp || (ancOf md ops 12 (depsOf md ops sp)).contains i || ps.all fun k => !(dr k)) = true) (hne : ∃ v, C v) (hup : ∀ v w w', Up w w' → R v w → R v w') (hupN : dr i = false → i ≠ sp → ∀ v w w', UpN w w' → R v w → R v w')
    (hw : Region.wanted (opOf op ty g) (yielded ops a.tmps) = true) (hy : SemFlow P S (upOf Up UpN sp i) (execOp a.eval (opOf op ty g)) (fun w => ∀ k ∈ ps, K k w) C R)
    (h : ∀ v, C v → Flow3 P md ops Q S Up UpN sp dr n L (updK K i (R v)) (listed.setIfInBounds i true) (a.put d v)) : Flow3 P md ops Q S Up UpN sp dr (n + 1) ((i, C, R) :: L) K listed a := by
  cases ho : ops[i]? with
  | none => rw [ho] at hi; cases hi
  | some oi =>
    rw [ho] at hi
    simp only [Option.map_some, Option.some.injEq, Prod.mk.injEq] at hi
    obtain ⟨rfl, rfl, rfl, rfl⟩ := hi
    refine Flow3.step i C R ho hne hup hupN (Region.free_spec ho hf) (by simpa using hr) (.inl ⟨hw, ?_⟩) h
    rw [execOp_parts]
    intro w hS hH
    exact hy w hS fun k hk => by
      obtain ⟨e, he, hb, rfl⟩ := waitsFor_spec ho hp k hk
      rcases hH e he hb with ⟨⟨h1, h3⟩, h2⟩ | h1
      · rw [Bool.or_eq_true, Bool.or_eq_true] at hps
        rcases hps with (hps | hps) | hps
        · exact absurd (by simpa using hps) h1
        · rw [h3] at hps; cases hps
        · have := List.all_eq_true.1 hps _ hk
          rw [h2] at this; cases this
      · exact h1
/-- An operation without a call that comes to one value and leaves the world alone. -/
theorem Flow3.val {n : Nat} (L : List Step) {K : Nat → World → Prop} {listed : Array Bool} {a : Act} (i : Nat) (d : Option Tmp) (op : Op) (ty : TypeId) (g : Option (Nat × Bool)) (ps : List Nat) (v : Value)
    (hi : (ops[i]?).map (fun o => (o.dst, o.op, o.type, o.guard)) = some (d, op, ty, g)) (hf : Region.free md ops listed i = true) (hr : (Region.ready md ops listed).contains i = true) (hp : waitsFor md ops i ps = true) (hps : (i == sp || (ancOf md ops 12 (depsOf md ops sp)).contains i || ps.all fun k => !(dr k)) = true)
    (hw : Region.wanted (opOf op ty g) (yielded ops a.tmps) = true) (hy : ∀ w, S w → (∀ k ∈ ps, K k w) → (execOp a.eval (opOf op ty g)).run P w = .ok (.value v) w)
    (h : Flow3 P md ops Q S Up UpN sp dr n L (updK K i (fun _ => True)) (listed.setIfInBounds i true) (a.put d v)) (hrefl : ∀ w, Up w w) (hreflN : ∀ w, UpN w w) : Flow3 P md ops Q S Up UpN sp dr (n + 1) ((i, (fun u => u = v), fun _ _ => True) :: L) K listed a :=
  Flow3.op L i d op ty g ps _ _ hi hf hr hp hps ⟨v, rfl⟩ (fun _ _ _ _ h => h) (fun _ _ _ _ _ _ h => h) hw (fun w hS hH => .inl ⟨v, w, rfl, hS, upOf_refl hrefl hreflN i w, trivial, hy w hS hH⟩) (fun u hu => by subst hu; exact h)
def onlyOk3 (md : Region.Mode) (ops : Array Oper) (listed : Array Bool) (m q : Nat) : Bool := (List.range listed.size).all fun k => !(listed.getD k false) || (ancOf md ops q (depsOf md ops m)).contains k
/-- The end of a part: an operation that waits for all that came up and comes to one value; what is left goes on. -/
theorem Flow3.part {K : Nat → World → Prop} {listed : Array Bool} {a : Act} (n m : Nat) (d : Option Tmp) (op : Op) (ty : TypeId) (g : Option (Nat × Bool)) (v : Value)
    (hm : (ops[m]?).map (fun o => (o.dst, o.op, o.type, o.guard)) = some (d, op, ty, g)) (q : Nat) (hall : onlyOk3 md ops listed m q = true) (hr : Region.ready md ops listed = [m])
    (hw : Region.wanted (opOf op ty g) (yielded ops a.tmps) = true) (hy : ∀ w, S w → (execOp a.eval (opOf op ty g)).run P w = .ok (.value v) w)
    (h : ∀ w, S w → (∀ k, listed.getD k false = true → (dr k = true → listed.getD sp false = false) → K k w) → wpAny P md ops Q n (listed.setIfInBounds m true) (a.put d v) w) : Flow3 P md ops Q S Up UpN sp dr (n + 1) [] K listed a := by
  cases ho : ops[m]? with
  | none => rw [ho] at hm; cases hm
  | some om =>
    rw [ho] at hm
    simp only [Option.map_some, Option.some.injEq, Prod.mk.injEq] at hm
    obtain ⟨rfl, rfl, rfl, rfl⟩ := hm
    refine Flow3.last n m ho ⟨q, fun k hk => ?_⟩ hr (fun w hS hK => ?_)
    · have hlt : k < listed.size := by
        by_cases hlt : k < listed.size
        · exact hlt
        · rw [Array.getD, dif_neg hlt] at hk; cases hk
      have := List.all_eq_true.1 hall k (List.mem_range.2 hlt)
      rw [hk] at this
      simpa using this
    · unfold Go.wpOp
      simp only [ho]
      have hw' : Region.wanted om (yielded ops a.tmps) = true := hw
      rw [if_pos hw']
      refine .inl ?_
      unfold Oper.wp
      have he' := hy w hS
      rw [← execOp_parts] at he'
      rw [he']
      exact h w hS hK
end
end Go
