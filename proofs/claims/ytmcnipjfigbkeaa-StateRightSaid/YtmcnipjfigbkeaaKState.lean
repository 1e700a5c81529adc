/- What a step of an instance is (package state), in plain Lean, for the walks and the plain laws. -/
import Derived.WalkKit
import Derived.RowKit
namespace Go.KState
open Go Go.RowKit

/-- Is it a value? -/
def isV (k n : Int) : Bool := if k = 1 then decide (-1000000000000000 ≤ n ∧ n ≤ 1000000000000000) else if k = 2 ∨ k = 3 ∨ k = 4 ∨ k = 5 then decide (n = 0) else false
def toS (x0 x1 now s : Int) : Int := if x0 = s then x1 else now
def toQ (x0 x3 s : Int) : Int := if s = 2 ∨ s = 3 then (if x0 = s then x3 else -1) else -1
def toF (x2 s : Int) : Int := if s = 2 ∨ s = 3 then x2 else -1
theorem wrap_self (a : Int) : wrap64 (a - a) = 0 := by unfold wrap64; omega
theorem wrap_zero : wrap64 0 = 0 := by unfold wrap64; omega
/-- What a step does to (State, Since, From, Quiet). -/
def alertP (h0 now x0 x1 x2 x3 : Int) : Int × Int × Int × Int :=
  if x0 = 3 then (x0, x1, x2, -1) else if h0 ≤ wrap64 (now - (if x0 = 2 then x2 else now)) then (3, toS x0 x1 now 3, toF (if x0 = 2 then x2 else now) 3, toQ x0 x3 3) else (2, toS x0 x1 now 2, toF (if x0 = 2 then x2 else now) 2, toQ x0 x3 2)
def normalP (h1 now x0 x1 x2 x3 : Int) : Int × Int × Int × Int :=
  if x0 = 3 ∧ 0 < h1 then (if wrap64 (now - (if x3 = -1 then now else x3)) < h1 then (x0, x1, x2, if x3 = -1 then now else x3) else (1, toS x0 x1 now 1, toF x2 1, toQ x0 (if x3 = -1 then now else x3) 1)) else (1, toS x0 x1 now 1, toF x2 1, toQ x0 x3 1)
def polP (p r : Int) : Int := if p = 1 then r else if p = 2 then 2 else if p = 3 then 1 else 0
def meansP (h2 h3 a1 : Int) : Int := if a1 = 1 then 1 else if a1 = 2 then 2 else if a1 = 3 then polP h2 3 else if a1 = 4 then polP h3 4 else 0
/-- What a step does, by what the result comes to. -/
def stepP (h0 h1 m now x0 x1 x2 x3 : Int) : Int × Int × Int × Int :=
  if m = 2 then alertP h0 now x0 x1 x2 x3 else if m = 1 then normalP h1 now x0 x1 x2 x3 else if m = 3 then (4, toS x0 x1 now 4, toF x2 4, toQ x0 x3 4) else if m = 4 then (5, toS x0 x1 now 5, toF x2 5, toQ x0 x3 5) else (x0, x1, x2, x3)

end Go.KState
