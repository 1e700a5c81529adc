/- A disk in memory: what its block, its bytes and its map of unsafe sectors say. -/
import Derived.Test.YteimienhaodfcaaKFrm
import Derived.Test.YteimienhaodfcaaKBlk
namespace Go.Proofs.YteimienhaodfcaaK
open Go.RowKit Go.Proofs.YteimienhaodfcaaW.PrintWords Go.Proofs.YteimienhaodfcaaW.PrintLast Go.Proofs.YteimienhaodfcaaW.PrintMore Go.Crc
open Go.ChangeMaps (setBlock)
set_option linter.unusedVariables false
/-- A disk's state: each sector's safe bytes, the unsafe ones. -/
structure Dk where
  sectors : Nat
  size : Nat
  sec : Nat → List Int
  fresh : Nat → Option (List Int)
  ops : Int
  left : Int
  dead : Bool
namespace Dk
/-- What a sector reads as. -/
def now (D : Dk) (n : Nat) : List Int := (D.fresh n).getD (D.sec n)
def may (D : Dk) : Prop := ¬ (D.dead = true ∨ D.left = 0)
/-- An operation that is done. -/
def did (D : Dk) : Dk := { D with left := if 0 < D.left then D.left - 1 else D.left, ops := wrap64 (D.ops + 1) }
def died (D : Dk) : Dk := { D with dead := true }
/-- So many bytes of each unsafe sector last. -/
def settle (D : Dk) (f : Nat → Nat) : Dk := { D with sec := fun n => match D.fresh n with | some l => l.take (f n) ++ (D.sec n).drop (f n) | none => D.sec n, fresh := fun _ => none }
def put (D : Dk) (n : Nat) (l : List Int) : Dk := { D with fresh := fun m => if m = n then some l else D.fresh m }
end Dk
/-- The bytes of a sector of so many bytes. -/
def secOf (safe : List Int) (size n : Nat) : List Int := (safe.drop (n * size)).take size
structure Ent (w : World) (X : Nat → Prop) (sb size sectors : Nat) (fresh : Nat → Option (List Int)) (e : MapEntry) (n : Nat) (l : List Int) (b : Nat) : Prop where
  key : e.key = .int .i64 (n : Int)
  val : e.val = .slice (some ⟨b, 0, none⟩) size size
  lt : n < sectors
  fr : fresh n = some l
  blk : Blk w b l
  len : l.length = size
  byt : Bytes l
  own : X b
  ne : b ≠ sb
structure DParts (w : World) (X : Nat → Prop) (d sb mb : Nat) (es : Array MapEntry) (clock : Nat) (safe : List Int) (D : Dk) : Prop where
  hd : w.heap[d]? = some (.cells #[.int .i64 (D.sectors : Int), .int .i64 (D.size : Int), .slice (some ⟨sb, 0, none⟩) (D.sectors * D.size) (D.sectors * D.size), .map (some mb), .int .i64 D.ops, .int .i64 D.left, .bool D.dead] 100 (0, 0))
  hs : Blk w sb safe
  hm : w.heap[mb]? = some (.map es clock)
  len : safe.length = D.sectors * D.size
  sec : ∀ n, n < D.sectors → secOf safe D.size n = D.sec n
  byt : Bytes safe
  st : MapKept.Stamped es clock
  ent : ∀ e ∈ es.toList, ∃ n l b, Ent w X sb D.size D.sectors D.fresh e n l b
  all : ∀ n l, D.fresh n = some l → ∃ e ∈ es.toList, e.key = .int .i64 (n : Int)
  xd : X d
  xs : X sb
  xm : X mb
  b1 : 1 ≤ D.sectors
  b2 : D.sectors ≤ 65536
  b3 : 64 ≤ D.size
  b4 : D.size ≤ 1024
  lb : -9223372036854775808 ≤ D.left ∧ D.left ≤ 9223372036854775807
  nd : d ≠ sb
def DAt (w : World) (X : Nat → Prop) (d : Nat) (D : Dk) : Prop := ∃ sb mb es clock safe, DParts w X d sb mb es clock safe D
section
variable {w w' : World} {X X' S : Nat → Prop} {d sb mb clock : Nat} {es : Array MapEntry} {safe : List Int} {D : Dk}
theorem DParts.keys (h : DParts w X d sb mb es clock safe D) : IntKeys .i64 es := fun x hx => by
  obtain ⟨n, l, b, he⟩ := h.ent x hx
  rw [he.key]; simp [MapKept.IsKey]
theorem DParts.frm (h : DParts w X d sb mb es clock safe D) (hf : Frm S w w') (hX : ∀ k, X k → ¬ S k) : DParts w' X d sb mb es clock safe D :=
  { h with
    hd := hf.blk h.hd (hX _ h.xd)
    hs := hf.blk h.hs (hX _ h.xs)
    hm := hf.blk h.hm (hX _ h.xm)
    ent := fun e he => by
      obtain ⟨n, l, b, x⟩ := h.ent e he
      exact ⟨n, l, b, { x with blk := hf.blk x.blk (hX _ x.own) }⟩ }
theorem DAt.frm (h : DAt w X d D) (hf : Frm S w w') (hX : ∀ k, X k → ¬ S k) : DAt w' X d D := by
  obtain ⟨sb, mb, es, clock, safe, h⟩ := h; exact ⟨sb, mb, es, clock, safe, h.frm hf hX⟩
theorem DAt.below (h : DAt w X d D) (hb : Below w.heap.size w w') : DAt w' X d D := h.frm (S := fun _ => False) (Frm.of_below hb) (fun _ _ h => h)
theorem DParts.mono (h : DParts w X d sb mb es clock safe D) (hX : ∀ k, X k → X' k) : DParts w X' d sb mb es clock safe D :=
  { h with
    xd := hX _ h.xd, xs := hX _ h.xs, xm := hX _ h.xm
    ent := fun e he => by
      obtain ⟨n, l, b, x⟩ := h.ent e he
      exact ⟨n, l, b, { x with own := hX _ x.own }⟩ }
theorem DAt.mono (h : DAt w X d D) (hX : ∀ k, X k → X' k) : DAt w X' d D := by
  obtain ⟨sb, mb, es, clock, safe, h⟩ := h; exact ⟨sb, mb, es, clock, safe, h.mono hX⟩
theorem DParts.bound (h : DParts w X d sb mb es clock safe D) : DParts w (fun k => X k ∧ k < w.heap.size) d sb mb es clock safe D :=
  { h with
    xd := ⟨h.xd, blk_lt h.hd⟩, xs := ⟨h.xs, blk_lt h.hs⟩, xm := ⟨h.xm, blk_lt h.hm⟩
    ent := fun e he => by
      obtain ⟨n, l, b, x⟩ := h.ent e he
      exact ⟨n, l, b, { x with own := ⟨x.own, blk_lt x.blk⟩ }⟩ }
theorem DParts.ne_m (h : DParts w X d sb mb es clock safe D) : d ≠ mb ∧ sb ≠ mb ∧ ∀ e ∈ es.toList, ∀ n l b, Ent w X sb D.size D.sectors D.fresh e n l b → b ≠ mb ∧ b ≠ d := by
  refine ⟨fun e => ?_, fun e => ?_, fun x hx n l b he => ⟨fun e => ?_, fun e => ?_⟩⟩
  · have := h.hd; rw [e, h.hm] at this; cases this
  · have := h.hs; rw [Blk, e, h.hm] at this; cases this
  · have := he.blk; rw [Blk, e, h.hm] at this; cases this
  · have h1 := he.blk; have h2 := h.hd; rw [e] at h1; unfold Blk at h1; rw [h2] at h1
    simp only [Option.some.injEq, Obj.cells.injEq] at h1
    exact absurd h1.2.1 (by decide)
/-- The disk's counts are written. -/
theorem DParts.setD (h : DParts w X d sb mb es clock safe D) (D' : Dk) (h1 : D'.sectors = D.sectors) (h2 : D'.size = D.size) (h3 : D'.sec = D.sec) (h4 : D'.fresh = D.fresh) (hlb : -9223372036854775808 ≤ D'.left ∧ D'.left ≤ 9223372036854775807)
    (hf : Frm (fun k => k = d) w w') (hd : w'.heap[d]? = some (.cells #[.int .i64 (D.sectors : Int), .int .i64 (D.size : Int), .slice (some ⟨sb, 0, none⟩) (D.sectors * D.size) (D.sectors * D.size), .map (some mb), .int .i64 D'.ops, .int .i64 D'.left, .bool D'.dead] 100 (0, 0))) : DParts w' X d sb mb es clock safe D' := by
  obtain ⟨n1, n2, n3⟩ := h.ne_m
  refine ⟨by rw [h1, h2]; exact hd, hf.blk h.hs (fun e => h.nd e.symm), hf.blk h.hm (fun e => n1 e.symm), by rw [h1, h2]; exact h.len, by rw [h1, h2, h3]; exact h.sec, h.byt, h.st, fun e he => ?_, by rw [h4]; exact h.all, h.xd, h.xs, h.xm, by rw [h1]; exact h.b1, by rw [h1]; exact h.b2, by rw [h2]; exact h.b3, by rw [h2]; exact h.b4, hlb, h.nd⟩
  obtain ⟨n, l, b, x⟩ := h.ent e he
  exact ⟨n, l, b, by rw [h1, h2, h4]; exact { x with blk := hf.blk x.blk (n3 e he n l b x).2 }⟩
theorem DParts.fresh_none (h : DParts w X d sb mb es clock safe D) {n : Nat} (hn : D.fresh n = none) : ∀ x ∈ es.toList, x.key ≠ .int .i64 (n : Int) := fun x hx e => by
  obtain ⟨m, l, b, he⟩ := h.ent x hx
  rw [he.key] at e
  simp only [Value.int.injEq, true_and] at e
  obtain rfl : m = n := by omega
  rw [he.fr] at hn; cases hn
theorem DParts.fresh_some (h : DParts w X d sb mb es clock safe D) {n : Nat} {l : List Int} (hn : D.fresh n = some l) : ∃ x ∈ es.toList, ∃ b, Ent w X sb D.size D.sectors D.fresh x n l b := by
  obtain ⟨x, hx, e⟩ := h.all n l hn
  obtain ⟨m, l', b, he⟩ := h.ent x hx
  rw [he.key] at e
  simp only [Value.int.injEq, true_and] at e
  obtain rfl : m = n := by omega
  have := he.fr; rw [hn] at this; cases this
  exact ⟨x, hx, b, he⟩
end
end Go.Proofs.YteimienhaodfcaaK
