/- Laws of literal maps of int keys (the newest block), for walks. -/
import Derived.WalkKit
import Derived.MapKept
import Derived.Below
import Derived.Carry
namespace Go.KMap
open Go

theorem set_alloc (W : World) (o o' : Obj) : { W.alloc o with heap := (W.alloc o).heap.setIfInBounds W.heap.size o' } = W.alloc o' := by
  have e : (W.heap.push o).setIfInBounds W.heap.size o' = W.heap.push o' := by
    apply Array.ext_getElem?
    intro i
    rw [Array.getElem?_setIfInBounds, Array.getElem?_push, Array.getElem?_push, Array.size_push]
    by_cases h : W.heap.size = i
    · subst h; simp
    · rw [if_neg h, if_neg (fun e => h e.symm), if_neg (fun e => h e.symm)]
  show ({ W with heap := (W.heap.push o).setIfInBounds W.heap.size o' } : World) = { W with heap := W.heap.push o' }
  rw [e]

/-- A literal map of int keys: a new key at the newest block. -/
theorem run_insert_new {P : Program} (W : World) (t kt et : TypeId) (kk : IntKind) (es : Array MapEntry) (c : Nat) (k : Int) (v : Value) (hm : P.underlying t = some (.map kt et)) (hk : P.underlying kt = some (.int kk))
    (hf : Instr.findNow (.int kk) (.int kk k) es.toList 0 = some none) :
    (Instr.mapUpdate t (.map (some W.heap.size)) (.int kk k) v).run P (W.alloc (.map es c)) = .ok () (W.alloc (.map (es.push { key := .int kk k, val := v, born := c }) (c + 1))) := by
  have hb : (W.alloc (.map es c)).heap[W.heap.size]? = some (.map es c) := heap_alloc_new W _
  have hc : (Instr.checkKey false 10000 kt (.int kk k)).run P (W.alloc (.map es c)) = .ok () (W.alloc (.map es c)) := MapKept.run_checkKey (k := .int kk k) hk (by simp [MapKept.IsKey]) false 9999
  simp only [Instr.mapUpdate, Sem.run_bind, run_underlying hm, MapKept.run_getObj_map hb, hc, MapKept.run_findKey hk hf, MapKept.run_setObj_map _ hb, Result.andThen]
  rw [set_alloc]

/-- A look-up of an int key in a map that is there. -/
theorem run_lookup_at {P : Program} (W : World) (t kt et : TypeId) (kk : IntKind) (r : Nat) (es : Array MapEntry) (c : Nat) (k : Int) (i : Nat) (v : Value) (hm : P.underlying t = some (.map kt et)) (hk : P.underlying kt = some (.int kk))
    (hb : W.heap[r]? = some (.map es c)) (hf : Instr.findNow (.int kk) (.int kk k) es.toList 0 = some (some (i, v))) :
    (Instr.lookup t (.map (some r)) (.int kk k) false).run P W = .ok v W := by
  have hc : (Instr.checkKey es.isEmpty 10000 kt (.int kk k)).run P W = .ok () W := MapKept.run_checkKey (k := .int kk k) hk (by simp [MapKept.IsKey]) _ 9999
  simp [Instr.lookup, run_underlying hm, MapKept.run_getObj_map hb, hc, MapKept.run_findKey hk hf, Result.andThen]

theorem run_lookup_none {P : Program} (W : World) (t kt et : TypeId) (kk : IntKind) (r : Nat) (es : Array MapEntry) (c : Nat) (k : Int) (z : Value) (hm : P.underlying t = some (.map kt et)) (hk : P.underlying kt = some (.int kk))
    (hb : W.heap[r]? = some (.map es c)) (hz : (zeroValue et).run P W = .ok z W) (hf : Instr.findNow (.int kk) (.int kk k) es.toList 0 = some none) :
    (Instr.lookup t (.map (some r)) (.int kk k) false).run P W = .ok z W := by
  have hc : (Instr.checkKey es.isEmpty 10000 kt (.int kk k)).run P W = .ok () W := MapKept.run_checkKey (k := .int kk k) hk (by simp [MapKept.IsKey]) _ 9999
  simp [Instr.lookup, run_underlying hm, MapKept.run_getObj_map hb, hc, MapKept.run_findKey hk hf, hz, Result.andThen]

theorem run_insert_at {P : Program} (W : World) (b : Nat) (t kt et : TypeId) (kk : IntKind) (es es' : Array MapEntry) (c c' : Nat) (k : Int) (v : Value) (hm : P.underlying t = some (.map kt et)) (hk : P.underlying kt = some (.int kk))
    (hb : W.heap.size = b) (hf : Instr.findNow (.int kk) (.int kk k) es.toList 0 = some none) (he : es.push { key := .int kk k, val := v, born := c } = es') (hc : c + 1 = c') :
    (Instr.mapUpdate t (.map (some b)) (.int kk k) v).run P (W.alloc (.map es c)) = .ok () (W.alloc (.map es' c')) := by
  subst hb he hc
  exact run_insert_new W t kt et kk es c k v hm hk hf

end Go.KMap
