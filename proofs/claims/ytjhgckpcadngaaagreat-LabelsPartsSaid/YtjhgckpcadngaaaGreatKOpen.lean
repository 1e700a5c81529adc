/- How an argument of a law, read as data, reads as a row of the print's kinds (Kd), with its sizes: for the rows of laws over structs and slices of structs. -/
import Derived.Test.YtjhgckpcadngaaaGreatWWords
import Derived.ProofKit
import Derived.Deep.Slices
import Derived.SizedLaws
namespace Go.Proofs.YtjhgckpcadngaaaGreatK
open Go Go.RowKit Go.Proofs.YtjhgckpcadngaaaGreatW.PrintWords Go.ChangeShapes Go.WideShapes Go.Deep

/-- What reads as data of type t reads as kind d, within Sz. -/
structure Opens {α : Type} (P : Program) (d : Kd α) (Sz : α → Prop) (t : TypeId) : Prop where
  cells : P.cellsOf t = d.sz
  out : ∀ {H : Type} (enc : TypeId × Value → H) (W : World) (base : Nat) (spare : Nat → Bool) (held : Bool) (fuel : Nat) (cs : List Value) (x : DataW H × List MemPlace),
    DataW.trod enc P W base spare held fuel t cs = some x → (∀ n ∈ x.1.weights P t, n ≤ 140737488351232) → ∃ y : α, d.K W y cs ∧ Sz y
/-- The fields of a struct from one on (their types and offsets). -/
structure OpensL {α : Type} (P : Program) (d : Kd α) (Sz : α → Prop) (off : Nat) (fs : List (TypeId × Nat)) : Prop where
  out : ∀ {H : Type} (enc : TypeId × Value → H) (W : World) (base : Nat) (spare : Nat → Bool) (held : Bool) (fuel : Nat) (cs : List Value) (xs : List (DataW H × List MemPlace)),
    cs.length = off + d.sz → (∀ (i : Nat) (t : TypeId) (o : Nat), fs[i]? = some (t, o) → DataW.trod enc P W base spare held fuel t ((cs.drop o).take (P.cellsOf t)) = xs[i]?) → xs.length = fs.length →
    (∀ n ∈ DataW.weightsEach P (fs.map (·.1)) (xs.map (·.1)), n ≤ 140737488351232) → ∃ y : α, d.K W y (cs.drop off) ∧ Sz y

variable {P : Program}

theorem opens_int {k : IntKind} {t : TypeId} (hu : P.underlying t = some (.int k)) (hc : P.cellsOf t = 1) : Opens P (Kd.int k) (fun x => (Lit.int k x).wf = true) t := by
  refine ⟨hc, fun enc W base spare held fuel cs x h hw => ?_⟩
  obtain ⟨a, rfl, rfl, wa⟩ := DataW.trod_int hu h
  exact ⟨a, rfl, wa⟩
theorem opens_bool {t : TypeId} (hu : P.underlying t = some .bool) (hc : P.cellsOf t = 1) : Opens P Kd.bool (fun _ => True) t := by
  refine ⟨hc, fun enc W base spare held fuel cs x h hw => ?_⟩
  obtain ⟨a, rfl, rfl⟩ := DataW.trod_bool hu h
  exact ⟨a, rfl, trivial⟩
theorem opens_string {t : TypeId} (hu : P.underlying t = some .string) (hc : P.cellsOf t = 1) : Opens P Kd.string (fun s => s.size ≤ 140737488351232) t := by
  refine ⟨hc, fun enc W base spare held fuel cs x h hw => ?_⟩
  obtain ⟨s, rfl, rfl, hs⟩ := DataW.trod_string hu h
  refine ⟨s, rfl, ?_⟩
  have := hw s.data.toList.length (by simp [DataW.weights])
  rwa [Array.length_toList] at this

theorem weightsAll_mem {H : Type} {e : TypeId} : ∀ {l : List (DataW H)} {d : DataW H} {n : Nat}, d ∈ l → n ∈ d.weights P e → n ∈ DataW.weightsAll P e l
  | x :: r, d, n, hd, hn => by
    simp only [DataW.weightsAll, List.mem_append]
    rcases List.mem_cons.1 hd with rfl | h
    · exact .inl hn
    · exact .inr (weightsAll_mem h hn)

theorem opens_slice {α : Type} {d : Kd α} {Sz : α → Prop} {t e B : Nat} (hu : P.underlying t = some (.slice e)) (hc : P.cellsOf t = 1) (hB : P.bytesOf e = B) (hd : Opens P d Sz e) :
    Opens P (Kd.slice e d) (fun l => l.length * B ≤ 140737488351232 ∧ ∀ y ∈ l, Sz y) t := by
  refine ⟨hc, fun {H} enc W base spare held fuel cs x h hw => ?_⟩
  rcases open_slice hu h with ⟨rfl, rfl⟩ | ⟨a, len, cap, m, n, D, Pl, rfl, hb, hl, hm, hmm, rfl, hx⟩
  · exact ⟨[], ⟨none, 0, rfl, Nat.le_refl _, ⟨rfl, by simp, fun h => by simp at h⟩⟩, by simp, fun y hy => by simp at hy⟩
  · have hlm : len ≤ m := by rw [hmm]; split <;> omega
    have hwe : ∀ i, i < len → ∀ k ∈ (D i).weights P e, k ≤ 140737488351232 := fun i hi k hk => hw k (by
      simp only [DataW.weights, hu, List.mem_cons, List.mem_append]
      exact .inr (.inl (weightsAll_mem (List.mem_map.2 ⟨i, List.mem_range.2 hi, rfl⟩) hk)))
    have hel : ∀ i, i < len → ∃ y : α, ∃ c, c.length = d.sz ∧ d.K W y c ∧ Sz y ∧ W.cells? base (a.add (i * d.sz)) d.sz = some c := fun i hi => by
      obtain ⟨c, h1, h2⟩ := hx i (by omega)
      obtain ⟨y, hK, hS⟩ := hd.2 enc W base spare held n c _ h2 (hwe i hi)
      rw [hd.1] at h1
      exact ⟨y, c, d.K_len hK, hK, hS, h1⟩
    have build : ∀ k, k ≤ len → ∃ l : List α, l.length = k ∧ (∀ y ∈ l, Sz y) ∧ ∀ j p, l[j]? = some p → ∃ c, c.length = d.sz ∧ d.K W p c ∧ W.cells? base (a.add (j * d.sz)) d.sz = some c := by
      intro k
      induction k with
      | zero => exact fun _ => ⟨[], rfl, by simp, fun j p h => by simp at h⟩
      | succ k ih =>
        intro hk
        obtain ⟨l, hl1, hl2, hl3⟩ := ih (by omega)
        obtain ⟨y, c, e1, e2, e3, e4⟩ := hel k (by omega)
        refine ⟨l ++ [y], by simp [hl1], fun z hz => ?_, fun j p hj => ?_⟩
        · rcases List.mem_append.1 hz with h | h
          · exact hl2 z h
          · rw [List.mem_singleton.1 h]; exact e3
        · rcases Nat.lt_or_ge j l.length with hj' | hj'
          · rw [List.getElem?_append_left hj'] at hj
            exact hl3 j p hj
          · have : j = l.length := by
              have := (List.getElem?_eq_some_iff.1 hj).1
              simp at this; omega
            subst this
            simp at hj
            subst hj
            exact ⟨c, e1, e2, by rw [hl1]; exact e4⟩
    obtain ⟨l, hl1, hl2, hl3⟩ := build len (Nat.le_refl _)
    refine ⟨l, ⟨some a, cap, by rw [hl1], by omega, ⟨rfl, by rw [hl1]; exact Nat.le_trans hl hm, fun _ => ⟨a, rfl, fun j p hj => ?_⟩⟩⟩, ?_, hl2⟩
    · obtain ⟨c, e1, e2, e3⟩ := hl3 j p hj
      refine ⟨c, e1, e2, fun i u hi => ?_⟩
      obtain ⟨_, hlen, hcell⟩ := World.cells?_some e3
      have hi' : i < d.sz := by have := (List.getElem?_eq_some_iff.1 hi).1; omega
      have := hcell i hi'
      rw [show a.add (j * d.sz + i) = (a.add (j * d.sz)).add i from by simp [Addr.add_add]]
      rw [this, hi]
    · have := hw ((len + (m - len)) * P.bytesOf e) (by simp [DataW.weights, hu])
      rw [hl1, ← hB]
      exact Nat.le_trans (Nat.mul_le_mul_right _ (by omega)) this

theorem opensL_one {α : Type} {d : Kd α} {Sz : α → Prop} (t off : Nat) (hd : Opens P d Sz t) : OpensL P d Sz off [(t, off)] := by
  refine ⟨fun enc W base spare held fuel cs xs hl hf hx hw => ?_⟩
  match xs, hx with
  | [x], _ =>
    have h := hf 0 t off rfl
    rw [hd.1, List.take_of_length_le (by rw [List.length_drop]; omega)] at h
    exact hd.2 enc W base spare held fuel _ x (by simpa using h) (fun n hn => hw n (by simp [DataW.weightsEach, hn]))
theorem opensL_cons {α β : Type} {a : Kd α} {b : Kd β} {Sa : α → Prop} {Sb : β → Prop} {fs : List (TypeId × Nat)} (t off off' : Nat) (ha : Opens P a Sa t) (ho' : off + a.sz = off') (hb : OpensL P b Sb off' fs) :
    OpensL P (Kd.pair a b) (fun y => Sa y.1 ∧ Sb y.2) off ((t, off) :: fs) := by
  refine ⟨fun enc W base spare held fuel cs xs hl hf hx hw => ?_⟩
  have hl' : cs.length = off + (a.sz + b.sz) := hl
  match xs, hx with
  | x :: xs, hx =>
    have h := hf 0 t off rfl
    rw [ha.1] at h
    obtain ⟨y, hK, hS⟩ := ha.2 enc W base spare held fuel _ x (by simpa using h) (fun n hn => hw n (by simp [DataW.weightsEach, hn]))
    obtain ⟨z, hK2, hS2⟩ := hb.1 enc W base spare held fuel cs xs (by omega) (fun i t o hg => by simpa using hf (i + 1) t o (by simpa using hg)) (by simpa using hx) (fun n hn => hw n (by simp [DataW.weightsEach, hn]))
    refine ⟨(y, z), ⟨_, _, ?_, hK, hK2⟩, hS, hS2⟩
    rw [← ho', ← List.drop_drop, List.take_append_drop]
theorem opens_struct {α β : Type} {d : Kd α} {Sz : α → Prop} {t : TypeId} {fs : Array Field} {ts : List (TypeId × Nat)} (f : β → α) (g : α → β) (hg : ∀ x, f (g x) = x) (hd : OpensL P d Sz 0 ts) (hu : P.underlying t = some (.struct fs)) (hc : P.cellsOf t = d.sz) (hts : fs.toList.map (fun f => (f.type, f.offset)) = ts) :
    Opens P (Kd.iso d f) (fun y => Sz (f y)) t := by
  refine ⟨hc, fun {H} enc W base spare held fuel cs x h hw => ?_⟩
  obtain ⟨xs, n, rfl, rfl, hl, hlen, hf⟩ := DataW.trod_struct hu h
  subst hts
  obtain ⟨y, hK, hS⟩ := hd.1 enc W base spare held n cs xs (by omega) (fun i t o hi => by
      rw [List.getElem?_map] at hi
      obtain ⟨f', h1, h2⟩ := Option.map_eq_some_iff.1 hi
      cases h2
      exact hf i f' (by simpa using h1)) (by simpa using hlen) (fun k hk => hw k (by
      simp only [DataW.weights, hu]
      rw [List.map_map] at hk
      exact hk))
  rw [List.drop_zero] at hK
  exact ⟨g y, by show d.K W (f (g y)) cs; rw [hg]; exact hK, by show Sz (f (g y)); rw [hg]; exact hS⟩
theorem Opens.as {α : Type} {d : Kd α} {Sz Sz' : α → Prop} {t : TypeId} (h : Opens P d Sz t) (hs : ∀ y, Sz y → Sz' y) : Opens P d Sz' t := ⟨h.1, fun enc W base spare held fuel cs x hx hw => let ⟨y, a, b⟩ := h.2 enc W base spare held fuel cs x hx hw; ⟨y, a, hs y b⟩⟩

/-- An argument that reads as data, opened. -/
theorem opens_arg {α : Type} {d : Kd α} {Sz : α → Prop} {t : TypeId} (hd : Opens P d Sz t) {H : Type} {enc : TypeId × Value → H} {W : World} {base : Nat} {spare : Nat → Bool} {held : Bool} {v : Value} {x : DataW H} {ps : List MemPlace} {ts : List TypeId} {ds : List (DataW H)} {j : Nat}
    (hsz : (DataW.weightsEach P ts ds).all (· ≤ reachBytes) = true) (ht : ts[j]? = some t) (hj : ds[j]? = some x) (h : DataW.Trod enc P W base spare held t v x ps) : ∃ y : α, d.K W y v.cells.toList ∧ Sz y := by
  obtain ⟨fuel, hf⟩ := h
  exact hd.2 enc W base spare held fuel _ (x, ps) hf (fun n hn => by
    have := List.all_eq_true.1 hsz _ (DataW.weights_mem_each ht hj n hn)
    exact of_decide_eq_true this)

end Go.Proofs.YtjhgckpcadngaaaGreatK
