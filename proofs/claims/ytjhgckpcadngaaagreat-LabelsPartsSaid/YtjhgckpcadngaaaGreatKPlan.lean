/- A region that draws its order, each of whose operations comes to one value in every world that meets S and leaves a world that meets S: it may be walked in one order, calls of Go functions too. -/
import Derived.Deep.RegionHeld
import Derived.Lib.Bytes
import Derived.BigRegion
import Derived.Deep.CutRange
import Derived.Deep.DeepCutAuto
import Derived.Laws.DeepStrings4
namespace Go
section
variable {P : Program} {ops : Array Oper} {Q : Exit → Act → World → Prop} {md : Region.Mode} {S : World → Prop}
/-- From every world that meets S the operation comes to v, and to a world that meets S. -/
def SemTells (P : Program) (S : World → Prop) (s : Sem Next) (v : Value) : Prop :=
  ∀ w, S w → (∃ w1, S w1 ∧ s.run P w = .ok (.value v) w1) ∨ (∃ w1, S w1 ∧ v = undef ∧ s.run P w = .ok .skip w1) ∨ ∃ f args, s.run P w = .ok (.enter f args) w ∧ Calls P f args w fun e w' => e = .returned v ∧ S w'
def Tells (P : Program) (ops : Array Oper) (S : World → Prop) (o : Oper) (v : Value) (a : Act) : Prop :=
  (Region.wanted o (yielded ops a.tmps) = true ∧ SemTells P S (execOp a.eval o) v) ∨ (Region.wanted o (yielded ops a.tmps) = false ∧ v = undef)
theorem Tells.of_same {o : Oper} {v : Value} {a a' : Act} (hy : Tells P ops S o v a) (he : execOp a'.eval o = execOp a.eval o) (hw : Region.wanted o (yielded ops a'.tmps) = Region.wanted o (yielded ops a.tmps)) : Tells P ops S o v a' := by
  unfold Tells at *
  rw [he, hw]
  exact hy
theorem Tells.wpOp {i : Nat} {o : Oper} {v : Value} {a : Act} (hi : ops[i]? = some o) (hy : Tells P ops S o v a) {K : Act → World → Prop} {w : World} (hS : S w) (h : ∀ w', S w' → K (a.put o.dst v) w') : wpOp P ops Q i K a w := by
  unfold Go.wpOp
  simp only [hi]
  rcases hy with ⟨hw, hv⟩ | ⟨hw, rfl⟩
  · simp only [hw, if_true]
    refine .inl ?_
    unfold Oper.wp
    rcases hv w hS with ⟨w1, h1, hr⟩ | ⟨w1, h1, rfl, hr⟩ | ⟨f, args, hr, hc⟩
    · rw [hr]; exact h w1 h1
    · rw [hr]; exact h w1 h1
    · rw [hr]
      refine Calls.mono hc ?_
      rintro e w' ⟨rfl, hS'⟩
      exact h w' hS'
  · simp only [hw, Bool.false_eq_true, if_false]; exact h w hS
/-- The operations that have not come up yet, in one order in which they may: each tells its value. -/
inductive Plan (P : Program) (md : Region.Mode) (ops : Array Oper) (Q : Exit → Act → World → Prop) (S : World → Prop) : Nat → Array Bool → Act → Prop
  | done {listed : Array Bool} {a : Act} (n : Nat) (hr : Region.ready md ops listed = []) (h : ∀ w, S w → Q .normal a w) : Plan P md ops Q S n listed a
  | step {n : Nat} {listed : Array Bool} {a : Act} (i : Nat) {oi : Oper} (v : Value) (hi : ops[i]? = some oi) (hf : ∀ j oj, ops[j]? = some oj → j ≠ i → listed.getD j true = false → (∀ e ∈ oj.after, Region.binds md e = true → e.on ≠ i) → oi.apart ops oj = true)
      (hr : i ∈ Region.ready md ops listed) (hy : Tells P ops S oi v a) (h : Plan P md ops Q S n (listed.setIfInBounds i true) (a.put oi.dst v)) : Plan P md ops Q S (n + 1) listed a
theorem ready_waits {listed : Array Bool} {i j : Nat} {oj : Oper} (hj : ops[j]? = some oj) (hrj : j ∈ Region.ready md ops listed) (hri : i ∈ Region.ready md ops listed) : ∀ e ∈ oj.after, Region.binds md e = true → e.on ≠ i := fun e he hb heq => by
  obtain ⟨hjun, o2, hoj, hall⟩ := mem_ready.1 hrj
  rw [hj] at hoj
  obtain rfl := Option.some.inj hoj
  have h1 := hall e he hb
  have h0 := (mem_ready.1 hri).1
  rw [heq] at h1
  rcases Nat.lt_or_ge i listed.size with h' | h'
  · simp [h'] at h0 h1; rw [h0] at h1; cases h1
  · simp [Array.getElem?_eq_none h'] at h1
/-- Whatever may come up next may be the plan's next. -/
theorem Plan.swap (hsel : ∀ (j : Nat) (o : Oper) cs b, ops[j]? = some o → o.op ≠ .select cs b) {n : Nat} : ∀ {listed : Array Bool} {a : Act}, Plan P md ops Q S n listed a → ∀ {j : Nat} {oj : Oper}, ops[j]? = some oj → j ∈ Region.ready md ops listed →
    ∃ u m, n = m + 1 ∧ Tells P ops S oj u a ∧ Plan P md ops Q S m (listed.setIfInBounds j true) (a.put oj.dst u) := by
  induction n with
  | zero =>
    intro listed a h j oj hj hr
    cases h with
    | done _ h0 _ => rw [h0] at hr; cases hr
  | succ n ih =>
    intro listed a h j oj hj hr
    cases h with
    | done _ h0 _ => rw [h0] at hr; cases hr
    | step i v hi hf hri hy hp =>
      rename_i oi
      by_cases hji : j = i
      · subst hji
        rw [hi] at hj
        obtain rfl := Option.some.inj hj
        exact ⟨v, n, rfl, hy, hp⟩
      · obtain ⟨u, m, e, ht, hq⟩ := ih hp hj (ready_mono hr hji)
        have hap := hf j oj hj hji (mem_ready.1 hr).1 (ready_waits hj hr hri)
        obtain ⟨h1, h2, h3⟩ := Oper.apart_spec hap
        refine ⟨u, n, rfl, ht.of_same (execOp_put oj (fun cs b => hsel j oj cs b hj) a oi.dst v h1).symm (wanted_put oj a oi.dst v h1).symm, ?_⟩
        subst e
        have hy' : Tells P ops S oi v (a.put oj.dst u) := hy.of_same (execOp_put oi (fun cs b => hsel i oi cs b hi) a oj.dst u h3) (wanted_put oi a oj.dst u h3)
        refine Plan.step i v hi (fun k ok hk hki hun hno => ?_) (ready_mono hri (Ne.symm hji)) hy' ?_
        · refine hf k ok hk hki ?_ hno
          by_cases hjk : j = k
          · subst hjk; exact (mem_ready.1 hr).1
          · rw [getD_set_ne true hjk] at hun; exact hun
        · rw [Act.put_comm a v u h2, Array.setIfInBounds_comm _ _ (Ne.symm hji)] at hq
          exact hq
theorem Plan.sound (hsel : ∀ (j : Nat) (o : Oper) cs b, ops[j]? = some o → o.op ≠ .select cs b) {n : Nat} : ∀ {listed : Array Bool} {a : Act}, Plan P md ops Q S n listed a → ∀ w, S w → wpAny P md ops Q n listed a w := by
  induction n with
  | zero =>
    intro listed a h w hS
    cases h with
    | done _ h0 hq => exact ⟨h0, hq w hS⟩
  | succ n ih =>
    intro listed a h w hS
    refine ⟨fun h0 => ?_, fun j hj => ?_⟩
    · cases h with
      | done _ _ hq => exact hq w hS
      | step i v hi hf hri hy hp => rw [h0] at hri; cases hri
    · obtain ⟨_, oj, hoj, _⟩ := mem_ready.1 hj
      obtain ⟨u, m, e, ht, hq⟩ := h.swap hsel hoj hj
      obtain rfl : m = n := by omega
      exact ht.wpOp hoj hS fun w' hS' => ih hq w' hS'
theorem wp_region_plan {id : Nat} {a : Act} {w : World} (hm : P.follows .mixedOrders = true) (hs : Region.noSelect ops = true) (S : World → Prop) (hS : S w.drew) (h : Plan P .any ops Q S ops.size (Array.replicate ops.size false) a) : (Code.region id ops true).wp P Q a w :=
  wp_region_any hm (h.sound (Region.noSelect_spec hs) _ hS)
/-- An operation by its parts: whatever its place in the text. -/
abbrev opOf (op : Op) (ty : TypeId) (g : Option (Nat × Bool)) : Oper := { dst := none, op := op, type := ty, pos := "", after := #[], guard := g }
theorem execOp_parts (ρ : Operand → Value) (o : Oper) : execOp ρ o = execOp ρ (opOf o.op o.type o.guard) := by
  obtain ⟨dst, op, type, pos, after, guard⟩ := o
  cases op <;> rfl
theorem Plan.take {n : Nat} {listed : Array Bool} {a : Act} (i : Nat) (d : Option Tmp) (op : Op) (ty : TypeId) (g : Option (Nat × Bool)) (v : Value) (hi : (ops[i]?).map (fun o => (o.dst, o.op, o.type, o.guard)) = some (d, op, ty, g)) (hf : Region.free md ops listed i = true) (hr : (Region.ready md ops listed).contains i = true) (hy : Tells P ops S (opOf op ty g) v a) (h : Plan P md ops Q S n (listed.setIfInBounds i true) (a.put d v)) : Plan P md ops Q S (n + 1) listed a := by
  cases ho : ops[i]? with
  | none => rw [ho] at hi; cases hi
  | some oi =>
    rw [ho] at hi
    simp only [Option.map_some, Option.some.injEq, Prod.mk.injEq] at hi
    obtain ⟨rfl, rfl, rfl, rfl⟩ := hi
    exact Plan.step i v ho (Region.free_spec ho hf) (by simpa using hr) (hy.of_same (execOp_parts _ _) rfl) h
/-- An operation without a call. -/
theorem Tells.val {o : Oper} {v : Value} {a : Act} (hw : Region.wanted o (yielded ops a.tmps) = true) (h : ∀ w, S w → (execOp a.eval o).run P w = .ok (.value v) w) : Tells P ops S o v a := .inl ⟨hw, fun w hS => .inl ⟨w, hS, h w hS⟩⟩
theorem Tells.not {o : Oper} {a : Act} (hw : Region.wanted o (yielded ops a.tmps) = false) : Tells P ops S o undef a := .inr ⟨hw, rfl⟩
/-- A call of a Go function. -/
theorem Tells.call {o : Oper} {v : Value} {a : Act} (f : FuncId) (args : Array Value) (hw : Region.wanted o (yielded ops a.tmps) = true) (he : ∀ w, (execOp a.eval o).run P w = .ok (.enter f args) w) (hc : ∀ w, S w → Calls P f args w fun e w' => e = .returned v ∧ S w') : Tells P ops S o v a :=
  .inl ⟨hw, fun w hS => .inr (.inr ⟨f, args, he w, hc w hS⟩)⟩
end
end Go
