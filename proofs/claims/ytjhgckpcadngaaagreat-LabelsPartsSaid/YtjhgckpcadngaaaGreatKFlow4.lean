/- KFlow3 that ends with an operation that turns the world. -/
import Derived.Test.YtjhgckpcadngaaaGreatKFlow3
namespace Go
section
variable {P : Program} {ops : Array Oper} {Q : Exit → Act → World → Prop} {md : Region.Mode} {S : World → Prop} {Up UpN : World → World → Prop} {sp : Nat} {dr : Nat → Bool}
/-- An operation that waits for all that came up and turns the world; what is left goes on. -/
theorem Flow3.lastRun {K : Nat → World → Prop} {listed : Array Bool} {a : Act} (n m : Nat) (d : Option Tmp) (op : Op) (ty : TypeId) (g : Option (Nat × Bool))
    (hm : (ops[m]?).map (fun o => (o.dst, o.op, o.type, o.guard)) = some (d, op, ty, g)) (q : Nat) (hall : onlyOk3 md ops listed m q = true) (hr : Region.ready md ops listed = [m])
    (hw : Region.wanted (opOf op ty g) (yielded ops a.tmps) = true)
    (h : ∀ w, S w → (∀ k, listed.getD k false = true → (dr k = true → listed.getD sp false = false) → K k w) → ∃ v w1, (execOp a.eval (opOf op ty g)).run P w = .ok (.value v) w1 ∧ wpAny P md ops Q n (listed.setIfInBounds m true) (a.put d v) w1) : Flow3 P md ops Q S Up UpN sp dr (n + 1) [] K listed a := by
  cases ho : ops[m]? with
  | none => rw [ho] at hm; cases hm
  | some om =>
    rw [ho] at hm
    simp only [Option.map_some, Option.some.injEq, Prod.mk.injEq] at hm
    obtain ⟨rfl, rfl, rfl, rfl⟩ := hm
    refine Flow3.last n m ho ⟨q, fun k hk => ?_⟩ hr (fun w hS hK => ?_)
    · have hlt : k < listed.size := by
        by_cases hlt : k < listed.size
        · exact hlt
        · rw [Array.getD, dif_neg hlt] at hk; cases hk
      have := List.all_eq_true.1 hall k (List.mem_range.2 hlt)
      rw [hk] at this
      simpa using this
    · unfold Go.wpOp
      simp only [ho]
      have hw' : Region.wanted om (yielded ops a.tmps) = true := hw
      rw [if_pos hw']
      refine .inl ?_
      unfold Oper.wp
      obtain ⟨v, w1, he', hwp⟩ := h w hS hK
      rw [← execOp_parts] at he'
      rw [he']
      exact hwp
end
end Go
