/- What a call keeps (all but the blocks of S; the streams too), and maps keyed by ints at whatever block: laws at the run. -/
import Derived.Test.YtjhgckpcadngaaaGreatProg
import Derived.Below
import Derived.Deep.Draws
import Derived.Deep.AppendLies
import Derived.Maps.AppendAt
import Derived.OwnWalk
import Derived.Laws.BytesArg
import Derived.Laws.MakeOwn
import Derived.Laws.OwnMore
import Derived.Deep.OwnRows
import Derived.Tactics
import Derived.Lib.ConvBytes
import Derived.Laws.Slices
import Derived.WalkKit
import Derived.KernelRfl
import Derived.RowKit3
import Derived.Deep.LoopGhost
import Derived.Deep.QuietTactic
import Derived.BigQuiet
import Derived.WideLaws
import Derived.Deep.DeepCutAuto
import Derived.Deep.CutBlock
import Derived.Deep.RegionHeld3
import Derived.Laws.Rows
import Derived.Lib.AppendStr
import Derived.ArgAppend
import Derived.Laws.IdiomCopy
import Derived.OrdersHeld
import Derived.Laws.BitsLemmas
import Derived.RowKit
import Derived.Test.YtjhgckpcadngaaaGreatWWords
import Derived.Test.YtjhgckpcadngaaaGreatWLast
import Derived.Test.YtjhgckpcadngaaaGreatWTab
import Derived.Test.YtjhgckpcadngaaaGreatWFour
import Derived.Test.YtjhgckpcadngaaaGreatWQPut
import Derived.Test.YtjhgckpcadngaaaGreatWApart
import Derived.Test.YtjhgckpcadngaaaGreatWArr
import Derived.Test.YtjhgckpcadngaaaGreatWZeros
import Derived.Test.YtjhgckpcadngaaaGreatWFoot
import Derived.Test.YtjhgckpcadngaaaGreatWKept
import Derived.Test.YtjhgckpcadngaaaGreatWShare
import Derived.Test.YtjhgckpcadngaaaGreatWN
import Derived.Test.YtjhgckpcadngaaaGreatWFootNe
import Derived.Test.YtjhgckpcadngaaaGreatWAt
import Derived.Test.YtjhgckpcadngaaaGreatWEqStruct
import Derived.Test.YtjhgckpcadngaaaGreatWRepsOne
import Derived.Test.YtjhgckpcadngaaaGreatWInv
import Derived.Test.YtjhgckpcadngaaaGreatWInvWords
import Derived.Test.YtjhgckpcadngaaaGreatWGuard
import Derived.Test.YtjhgckpcadngaaaGreatWNEv
import Derived.Test.YtjhgckpcadngaaaGreatWMore
import Derived.MapKept
import Derived.Maps.RangeWalk
namespace Go.Proofs.YtjhgckpcadngaaaGreatK
open Go.RowKit Go.Proofs.YtjhgckpcadngaaaGreatW.PrintWords Go.Proofs.YtjhgckpcadngaaaGreatW.PrintLast Go.Proofs.YtjhgckpcadngaaaGreatW.PrintMore
open Go.ChangeMaps (setBlock heap_setBlock_same heap_setBlock_other)
set_option linter.unusedVariables false
structure Frm (S : Nat → Prop) (w w' : World) : Prop where
  os : w'.os = w.os
  tape : w'.tape = w.tape
  output : w'.output = w.output
  size : w.heap.size ≤ w'.heap.size
  block : ∀ i, i < w.heap.size → ¬ S i → w'.heap[i]? = w.heap[i]?
section
variable {S S2 S' : Nat → Prop} {w W W2 : World}
theorem Frm.refl (S : Nat → Prop) (w : World) : Frm S w w := ⟨rfl, rfl, rfl, Nat.le_refl _, fun _ _ _ => rfl⟩
theorem Frm.of_below (h : Below w.heap.size w W) : Frm S w W := ⟨h.os, h.tape, h.output, h.size, fun i hi _ => h.block i hi⟩
theorem Frm.mono (h : Frm S w W) (hs : ∀ k, S k → S' k) : Frm S' w W := ⟨h.os, h.tape, h.output, h.size, fun i hi hn => h.block i hi fun hk => hn (hs i hk)⟩
theorem Frm.then_ (h : Frm S w W) (k : Frm S2 W W2) (hs : ∀ k, S2 k → S k ∨ w.heap.size ≤ k) : Frm S w W2 :=
  ⟨k.os.trans h.os, k.tape.trans h.tape, k.output.trans h.output, Nat.le_trans h.size k.size, fun i hi hn => (k.block i (Nat.lt_of_lt_of_le hi h.size) fun h2 => (hs i h2).elim hn fun h3 => by omega).trans (h.block i hi hn)⟩
theorem Frm.below {B : Nat} (h : Frm S w W) (hS : ∀ k, S k → B ≤ k) (hB : B ≤ w.heap.size) : Below B w W :=
  ⟨h.os, h.tape, h.output, h.size, fun i hi => h.block i (by omega) fun hk => by have := hS i hk; omega⟩
theorem Frm.step (h : Frm S w W) (hb : Below W.heap.size W W2) : Frm S w W2 := h.then_ (Frm.of_below (S := fun _ => False) hb) fun _ hk => hk.elim
theorem Frm.alloc (h : Frm S w W) (o : Obj) : Frm S w (W.alloc o) := h.step (below_alloc (Below.refl _ _) o)
theorem Frm.drew (h : Frm S w W) : Frm S w W.drew := h.step (below_drew (Below.refl _ _))
theorem Frm.drewN (h : Frm S w W) (m : Nat) : Frm S w (W.drewN m) := h.step (pw_below_drewN (Below.refl _ _) m)
theorem Frm.one {g : Nat} (W : World) (o : Obj) : Frm (fun k => k = g) W (setBlock W g o) := by
  refine ⟨rfl, rfl, rfl, by simp [setBlock], fun i hi hn => ?_⟩
  simp only [setBlock]; rw [Array.getElem?_setIfInBounds_ne (fun e => hn e.symm)]
theorem Frm.cell (W : World) (p : Addr) (u : Value) : Frm (fun k => k = p.block) W (W.setCell p u) :=
  ⟨rfl, rfl, rfl, by simp [World.setCell], fun i _ hn => Below.heap_setCell W p u i hn⟩
theorem Frm.set (h : Frm S w W) {p : Addr} (hp : S p.block ∨ w.heap.size ≤ p.block) (u : Value) : Frm S w (W.setCell p u) := h.then_ (Frm.cell W p u) fun k hk => by rw [hk]; exact hp
theorem Frm.setB (h : Frm S w W) {g : Nat} (hp : S g ∨ w.heap.size ≤ g) (o : Obj) : Frm S w (setBlock W g o) := h.then_ (Frm.one W o) fun k hk => by rw [hk]; exact hp
theorem Frm.kept (h : Frm S w W) : Kept w W S := ⟨h.size, h.block⟩
theorem Frm.blk {g : Nat} {o : Obj} (h : Frm S w W) (hb : w.heap[g]? = some o) (hn : ¬ S g) : W.heap[g]? = some o := (h.block g (blk_lt hb) hn).trans hb
theorem Frm.of_below_ {B : Nat} (h : Below B w W) : Frm (fun k => B ≤ k) w W := ⟨h.os, h.tape, h.output, h.size, fun i hi hn => h.block i (by omega)⟩
end
theorem nodup_inj {α : Type} {l : List α} (h : l.Nodup) {i j : Nat} (hi : i < l.length) (hj : j < l.length) (e : l[i] = l[j]) : i = j := by
  have hp := List.pairwise_iff_getElem.1 h
  rcases Nat.lt_trichotomy i j with h1 | h1 | h1
  · exact absurd e (hp i j hi hj h1)
  · exact h1
  · exact absurd e.symm (hp j i hj hi h1)
/-! ### maps keyed by ints -/
theorem heap_setB_same {W : World} {g : Nat} {o o' : Obj} (h : W.heap[g]? = some o) : (setBlock W g o').heap[g]? = some o' := by
  have := blk_lt h
  simp [setBlock, this]
theorem heap_setB_other {W : World} {g i : Nat} {o' : Obj} (h : i ≠ g) : (setBlock W g o').heap[i]? = W.heap[i]? := by
  simp only [setBlock]; rw [Array.getElem?_setIfInBounds_ne (fun e => h e.symm)]
abbrev IntKeys (kk : IntKind) (es : Array MapEntry) : Prop := ∀ x ∈ es.toList, MapKept.IsKey (.int kk) x.key
section
variable {P : Program} {w : World} {t kt et : TypeId} {kk : IntKind} {r : Nat} {es : Array MapEntry} {clock : Nat}
theorem map_look_none (hm : P.underlying t = some (.map kt et)) (hk : P.underlying kt = some (.int kk)) (hb : w.heap[r]? = some (.map es clock)) (hks : IntKeys kk es) {k : Int} {z : Value} (hz : (zeroValue et).run P w = .ok z w) (hn : ∀ x ∈ es.toList, x.key ≠ .int kk k) :
    (Instr.lookup t (.map (some r)) (.int kk k) true).run P w = .ok (.tuple #[z, .bool false]) w := by
  have hc : (Instr.checkKey es.isEmpty 10000 kt (.int kk k)).run P w = .ok () w := MapKept.run_checkKey (k := .int kk k) hk (by simp [MapKept.IsKey]) _ 9999
  rcases MapKept.findNow_spec (d := .int kk) (k := .int kk k) (by simp [MapKept.IsKey]) es.toList 0 hks with ⟨hf, _⟩ | ⟨j, e, _, hj, he⟩
  · simp [Instr.lookup, run_underlying hm, MapKept.run_getObj_map hb, hc, MapKept.run_findKey hk hf, hz, Result.andThen]
  · exact absurd he (hn e (List.mem_of_getElem? hj))
theorem map_look (hm : P.underlying t = some (.map kt et)) (hk : P.underlying kt = some (.int kk)) (hb : w.heap[r]? = some (.map es clock)) (hs : MapKept.Stamped es clock) (hks : IntKeys kk es) {k : Int} {x : MapEntry} (hx : x ∈ es.toList) (hxk : x.key = .int kk k) :
    (Instr.lookup t (.map (some r)) (.int kk k) true).run P w = .ok (.tuple #[x.val, .bool true]) w := by
  have hc : (Instr.checkKey es.isEmpty 10000 kt (.int kk k)).run P w = .ok () w := MapKept.run_checkKey (k := .int kk k) hk (by simp [MapKept.IsKey]) _ 9999
  rcases MapKept.findNow_spec (d := .int kk) (k := .int kk k) (by simp [MapKept.IsKey]) es.toList 0 hks with ⟨_, hn⟩ | ⟨j, e, hf, hj, he⟩
  · exact absurd hxk (hn x hx)
  · have hex : e = x := by
      have h3 := hs.2.2
      obtain ⟨i, hi, rfl⟩ := List.getElem_of_mem hx
      obtain ⟨hjl, rfl⟩ := List.getElem?_eq_some_iff.1 hj
      have := nodup_inj h3 (i := j) (j := i) (by simpa using hjl) (by simpa using hi) (by simp at he hxk ⊢; rw [he, hxk])
      subst this; rfl
    subst hex
    simp [Instr.lookup, run_underlying hm, MapKept.run_getObj_map hb, hc, MapKept.run_findKey hk hf, Result.andThen]
theorem map_store (hm : P.underlying t = some (.map kt et)) (hk : P.underlying kt = some (.int kk)) (hb : w.heap[r]? = some (.map es clock)) (hs : MapKept.Stamped es clock) (hks : IntKeys kk es) (k : Int) (v : Value) :
    ∃ es' clock', (Instr.mapUpdate t (.map (some r)) (.int kk k) v).run P w = .ok () (setBlock w r (.map es' clock')) ∧ MapKept.Stamped es' clock' ∧ IntKeys kk es' ∧ (∀ x ∈ es'.toList, (x ∈ es.toList ∧ x.key ≠ .int kk k) ∨ (x.key = .int kk k ∧ x.val = v)) ∧
      (∀ x ∈ es.toList, ∃ y ∈ es'.toList, y.key = x.key) ∧ ∃ y ∈ es'.toList, y.key = .int kk k := by
  have hik : MapKept.IsKey (.int kk) (.int kk k) := by simp [MapKept.IsKey]
  have hc : (Instr.checkKey false 10000 kt (.int kk k)).run P w = .ok () w := MapKept.run_checkKey (k := .int kk k) hk hik false 9999
  rcases MapKept.findNow_spec (d := .int kk) (k := .int kk k) hik es.toList 0 hks with ⟨hf, hn⟩ | ⟨j, e, hf, hj, he⟩
  · refine ⟨es.push { key := .int kk k, val := v, born := clock }, clock + 1, ?_, MapKept.stamped_push hs hn, ?_, ?_, ?_, ?_⟩
    · simp [Instr.mapUpdate, run_underlying hm, MapKept.run_getObj_map hb, hc, MapKept.run_findKey hk hf, MapKept.run_setObj_map _ hb, Result.andThen, setBlock]
    · intro x hx
      simp only [Array.toList_push, List.mem_append, List.mem_singleton] at hx
      rcases hx with hx | rfl
      · exact hks x hx
      · exact hik
    · intro x hx
      simp only [Array.toList_push, List.mem_append, List.mem_singleton] at hx
      rcases hx with hx | rfl
      · exact .inl ⟨hx, hn x hx⟩
      · exact .inr ⟨rfl, rfl⟩
    · intro x hx; exact ⟨x, by simp [Array.mem_toList_iff.1 hx], rfl⟩
    · exact ⟨_, by simp; exact .inr rfl, rfl⟩
  · have hj' : es[j]? = some e := by simpa using hj
    have hkey : ∀ e', es[j]? = some e' → ({ e' with key := .int kk k, val := v } : MapEntry).key = e'.key := fun e' he' => by rw [hj'] at he'; cases he'; exact he.symm
    refine ⟨es.modify j fun e' => { e' with key := .int kk k, val := v }, clock, ?_, MapKept.stamped_modify hs _ _ (fun _ _ => rfl) (fun e' _ he' => hkey e' he'), MapKept.isKey_modify hks _ _ hkey, ?_, ?_, ?_⟩
    · simp [Instr.mapUpdate, run_underlying hm, MapKept.run_getObj_map hb, hc, MapKept.run_findKey hk hf, hj', he, MapKept.run_keyThatStays hik, MapKept.run_setObj_map _ hb, Result.andThen, setBlock]
    · intro x hx
      obtain ⟨i, hi⟩ := List.getElem?_of_mem hx
      rw [Array.getElem?_toList, Array.getElem?_modify] at hi
      by_cases hji : j = i
      · subst hji
        rw [if_pos rfl, hj'] at hi
        simp only [Option.map_some, Option.some.injEq] at hi
        subst hi
        exact .inr ⟨rfl, rfl⟩
      · rw [if_neg hji] at hi
        refine .inl ⟨List.mem_of_getElem? (by simpa using hi), fun hxk => hji ?_⟩
        obtain ⟨hjl, hje⟩ := Array.getElem?_eq_some_iff.1 hj'
        obtain ⟨hil, hie⟩ := Array.getElem?_eq_some_iff.1 hi
        exact nodup_inj hs.2.2 (i := j) (j := i) (by simpa using hjl) (by simpa using hil) (by simp [hje, hie, he, hxk])
    · intro x hx
      have : x.key ∈ (es.modify j fun e' => { e' with key := .int kk k, val := v }).toList.map (·.key) := by rw [MapKept.modify_keys j _ hkey]; exact List.mem_map_of_mem hx
      obtain ⟨y, hy, e⟩ := List.mem_map.1 this
      exact ⟨y, hy, e⟩
    · have : (.int kk k : Value) ∈ (es.modify j fun e' => { e' with key := .int kk k, val := v }).toList.map (·.key) := by
        rw [MapKept.modify_keys j _ hkey, ← he]; exact List.mem_map_of_mem (List.mem_of_getElem? hj)
      obtain ⟨y, hy, e⟩ := List.mem_map.1 this
      exact ⟨y, hy, e⟩
theorem map_clear {ty : TypeId} (hm : P.underlying t = some (.map kt et)) (hb : w.heap[r]? = some (.map es clock)) : (Builtin.clear_ #[t] ty #[.map (some r)]).run P w = .ok (.tuple #[]) (setBlock w r (.map #[] clock)) := by
  simp [Builtin.clear_, run_underlying hm, MapKept.run_getObj_map hb, MapKept.run_setObj_map _ hb, Result.andThen, setBlock]
end
section
variable {P : Program} (w : World) {ops : Array Oper} {rest : List Oper} {o : Oper} {a : Act} {Q : Exit → Act → World → Prop}
/-- The step of a range over a map that the round does not write: an entry that is left, whichever. -/
theorem wpList_next_raw (hg : o.guard = none) (it : Operand) (hop : o.op = Op.next it false) (r bm : Nat) (seen : Array Nat) (es : Array MapEntry) (clock : Nat)
    (hit : a.eval it = .pointer (some ⟨r, 0, none⟩)) (hr : w.heap[r]? = some (.mapIter (some bm) clock seen clock)) (hb : w.heap[bm]? = some (.map es clock)) (hs : MapKept.Stamped es clock)
    (hDone : (leftOf es seen).size = 0 → wpList P ops Q rest (a.put o.dst (.tuple #[.bool false])) w)
    (hMore : ∀ (x : MapEntry) (w' : World), x ∈ (leftOf es seen).toList → w'.heap[r]? = some (.mapIter (some bm) clock (seen.push x.born) clock) → w'.heap[bm]? = some (.map es clock) → Frm (fun k => k = r) w w' → w'.heap.size = w.heap.size →
      (Instr.entry (.pointer (some ⟨r, 0, none⟩))).run P w' = .ok (.tuple #[x.key, x.val]) w' → wpList P ops Q rest (a.put o.dst (.tuple #[.bool true, x.key, x.val])) w') :
    wpList P ops Q (o :: rest) a w := by
  refine wpList_plain hg fun K' hK' => ?_
  unfold Oper.wp
  rcases run_next_at (P := P) w o.type r bm _ _ seen es clock hr hb hs.1 (Nat.le_refl _) with ⟨h0, hrun⟩ | ⟨x, hx, w1, hw1, hrun⟩
  · simp [execOp, hop, hit, hrun, Result.andThen]
    exact hK' _ _ (hDone h0)
  · simp [execOp, hop, hit, hrun, Result.andThen]
    have hne : bm ≠ r := fun e => by subst e; rw [hb] at hr; cases hr
    have hr1 : w1.heap[r]? = some (.mapIter (some bm) clock seen clock) := by rcases hw1 with rfl | rfl <;> exact hr
    have hb1 : w1.heap[bm]? = some (.map es clock) := by rcases hw1 with rfl | rfl <;> exact hb
    have hF : Frm (fun k => k = r) w w1 := by first | (rcases hw1 with rfl | rfl <;> first | exact Frm.refl _ _ | exact (Frm.refl _ _).drew)
    have hz : w1.heap.size = w.heap.size := by rcases hw1 with rfl | rfl <;> rfl
    have hr2 := heap_setB_same (o' := .mapIter (some bm) clock (seen.push x.born) clock) hr1
    have hb2 : (setBlock w1 r (.mapIter (some bm) clock (seen.push x.born) clock)).heap[bm]? = some (.map es clock) := (heap_setB_other hne).trans hb1
    exact hK' _ _ (hMore x _ hx hr2 hb2 (hF.setB (.inl rfl) _) (by simp [setBlock, hz]) (run_entry_at _ r bm clock seen es clock x hr2 hb2 (mem_left hx).1 hs.2.1))
/-- 'range m' at a map that is there. -/
theorem wpList_range_raw (hg : o.guard = none) (m : Operand) (t : TypeId) (hop : o.op = Op.range t m) (k e : TypeId) (ht : P.underlying t = some (.map k e)) (bm : Nat) (es : Array MapEntry) (clock : Nat)
    (hm : a.eval m = .map (some bm)) (hb : w.heap[bm]? = some (.map es clock))
    (hK : wpList P ops Q rest (a.put o.dst (.pointer (some ⟨w.heap.size, 0, none⟩))) (w.alloc (.mapIter (some bm) clock #[] clock))) :
    wpList P ops Q (o :: rest) a w := by
  refine wpList_plain hg fun K' hK' => ?_
  unfold Oper.wp
  simp [execOp, hop, hm, run_range_map w t k e bm es clock ht hb, Result.andThen]
  exact hK' _ _ hK
end
end Go.Proofs.YtjhgckpcadngaaaGreatK
