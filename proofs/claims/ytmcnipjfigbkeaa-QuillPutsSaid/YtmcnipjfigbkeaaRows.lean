/-
  No cell of these rows narrows 'for every input' (looked for: loops, veiled, ifaces, maps, wideKeys, modest, calm, conditions, laid).
  DERIVED. THE GIVEN ROWS OF THIS SEAT. 11 by the template 'for every input the law returns true; each argument reads behind the call as it read before'; 0 by the template 'total and deterministic' (their statements: YtmcnipjfigbkeaaTotals.lean).
  GIVEN WITH THE SEED: the statements are not yours to turn. If you find one false, say at which input.
  Laid BY PROGRAM, IN A SANDBOX (cutbox-rows.mjs): the forced cells as the released guide's own fill.sh prints them over the translation 3852a2603c4dc09e… (all of the seat's roots in one cut). By AI agents, Wed Nov 11 2026. No macro, syntax, notation, axiom, sorry.
-/
import Derived.Test.YtmcnipjfigbkeaaChecked
import GoSem.Claim
import GoSem.ClaimJoined
import GoSem.ClaimMapViews
import Derived.JoinedTies
import Derived.KernelRfl
namespace Go.Proofs.Ytmcnipjfigbkeaa
/- THE CELL 'sum', in the pinned program and in every row, IS THE sha256 OF THE DUMP (.gsa) THAT YtmcnipjfigbkeaaProg.lean LOADS. Nothing in Lean hashes anything: it is a label: what it is worth is what the hold of that sum in a sandbox is worth. -/
noncomputable def Try.pinned : Pinned := { name := "ytmcnipjfigbkeaa", sum := "3852a2603c4dc09eceb521da1bdd5d38bcf42d11865f1f04cd7e899d535c8d90", checked := Try.checked }
namespace Rows
def none {H : Type} : Left H := { results := [], args := [] }

/-- 'klaxonlaw17.StateSteps': WHATEVER THE INPUT: true; the input reads as it did. -/
def stateStepsSpec : ChangeSpec := { name := "stateSteps", fn := fun _ => fun
  | [d1, d2, d3, d4] => { results := [.lit (.bool true)], args := [d1, d2, d3, d4] }
  | _ => none }
def stateStepsRow : OpenClaim := { program := "ytmcnipjfigbkeaa", sum := "3852a2603c4dc09eceb521da1bdd5d38bcf42d11865f1f04cd7e899d535c8d90", func := "klaxon/klaxonlaw17.StateSteps", spec := "stateSteps", unfollowed := true, recurses := true, apart := false }
def StateStepsSaid : Prop := stateStepsRow.holds Try.pinned (OpenSpec.ofChange stateStepsSpec)

/-- ITS FALSE NEIGHBOUR: 'it returns false'. Refute it at one input. -/
def stateStepsWrong : ChangeSpec := { name := "stateSteps", fn := fun _ => fun
  | [d1, d2, d3, d4] => { results := [.lit (.bool false)], args := [d1, d2, d3, d4] }
  | _ => none }
def StateStepsWrongFalsely : Prop := stateStepsRow.holds Try.pinned (OpenSpec.ofChange stateStepsWrong)

/-- 'klaxonlaw17.StateHold': WHATEVER THE INPUT: true; the input reads as it did. -/
def stateHoldSpec : ChangeSpec := { name := "stateHold", fn := fun _ => fun
  | [d1, d2, d3, d4] => { results := [.lit (.bool true)], args := [d1, d2, d3, d4] }
  | _ => none }
def stateHoldRow : OpenClaim := { program := "ytmcnipjfigbkeaa", sum := "3852a2603c4dc09eceb521da1bdd5d38bcf42d11865f1f04cd7e899d535c8d90", func := "klaxon/klaxonlaw17.StateHold", spec := "stateHold", unfollowed := true, recurses := true, apart := false }
def StateHoldSaid : Prop := stateHoldRow.holds Try.pinned (OpenSpec.ofChange stateHoldSpec)

/-- ITS FALSE NEIGHBOUR: 'it returns false'. Refute it at one input. -/
def stateHoldWrong : ChangeSpec := { name := "stateHold", fn := fun _ => fun
  | [d1, d2, d3, d4] => { results := [.lit (.bool false)], args := [d1, d2, d3, d4] }
  | _ => none }
def StateHoldWrongFalsely : Prop := stateHoldRow.holds Try.pinned (OpenSpec.ofChange stateHoldWrong)

/-- 'klaxonlaw17.StateRight': WHATEVER THE INPUT: true; the input reads as it did. -/
def stateRightSpec : ChangeSpec := { name := "stateRight", fn := fun _ => fun
  | [d1, d2, d3] => { results := [.lit (.bool true)], args := [d1, d2, d3] }
  | _ => none }
def stateRightRow : OpenClaim := { program := "ytmcnipjfigbkeaa", sum := "3852a2603c4dc09eceb521da1bdd5d38bcf42d11865f1f04cd7e899d535c8d90", func := "klaxon/klaxonlaw17.StateRight", spec := "stateRight", unfollowed := true, recurses := true, apart := false }
def StateRightSaid : Prop := stateRightRow.holds Try.pinned (OpenSpec.ofChange stateRightSpec)

/-- ITS FALSE NEIGHBOUR: 'it returns false'. Refute it at one input. -/
def stateRightWrong : ChangeSpec := { name := "stateRight", fn := fun _ => fun
  | [d1, d2, d3] => { results := [.lit (.bool false)], args := [d1, d2, d3] }
  | _ => none }
def StateRightWrongFalsely : Prop := stateRightRow.holds Try.pinned (OpenSpec.ofChange stateRightWrong)

/-- 'klaxonlaw17.StateQuiet': WHATEVER THE INPUT: true; the input reads as it did. -/
def stateQuietSpec : ChangeSpec := { name := "stateQuiet", fn := fun _ => fun
  | [d1, d2, d3, d4] => { results := [.lit (.bool true)], args := [d1, d2, d3, d4] }
  | _ => none }
def stateQuietRow : OpenClaim := { program := "ytmcnipjfigbkeaa", sum := "3852a2603c4dc09eceb521da1bdd5d38bcf42d11865f1f04cd7e899d535c8d90", func := "klaxon/klaxonlaw17.StateQuiet", spec := "stateQuiet", unfollowed := true, recurses := true, apart := false }
def StateQuietSaid : Prop := stateQuietRow.holds Try.pinned (OpenSpec.ofChange stateQuietSpec)

/-- ITS FALSE NEIGHBOUR: 'it returns false'. Refute it at one input. -/
def stateQuietWrong : ChangeSpec := { name := "stateQuiet", fn := fun _ => fun
  | [d1, d2, d3, d4] => { results := [.lit (.bool false)], args := [d1, d2, d3, d4] }
  | _ => none }
def StateQuietWrongFalsely : Prop := stateQuietRow.holds Try.pinned (OpenSpec.ofChange stateQuietWrong)

/-- 'klaxonlaw17.StatePolicies': WHATEVER THE INPUT: true; the input reads as it did. -/
def statePoliciesSpec : ChangeSpec := { name := "statePolicies", fn := fun _ => fun
  | [d1, d2, d3, d4] => { results := [.lit (.bool true)], args := [d1, d2, d3, d4] }
  | _ => none }
def statePoliciesRow : OpenClaim := { program := "ytmcnipjfigbkeaa", sum := "3852a2603c4dc09eceb521da1bdd5d38bcf42d11865f1f04cd7e899d535c8d90", func := "klaxon/klaxonlaw17.StatePolicies", spec := "statePolicies", unfollowed := true, recurses := true, apart := false }
def StatePoliciesSaid : Prop := statePoliciesRow.holds Try.pinned (OpenSpec.ofChange statePoliciesSpec)

/-- ITS FALSE NEIGHBOUR: 'it returns false'. Refute it at one input. -/
def statePoliciesWrong : ChangeSpec := { name := "statePolicies", fn := fun _ => fun
  | [d1, d2, d3, d4] => { results := [.lit (.bool false)], args := [d1, d2, d3, d4] }
  | _ => none }
def StatePoliciesWrongFalsely : Prop := statePoliciesRow.holds Try.pinned (OpenSpec.ofChange statePoliciesWrong)

/-- 'klaxonlaw01.QuillLeast': WHATEVER THE INPUT: true; the input reads as it did. -/
def quillLeastSpec : ChangeSpec := { name := "quillLeast", fn := fun _ => fun
  | [d1, d2, d3] => { results := [.lit (.bool true)], args := [d1, d2, d3] }
  | _ => none }
def quillLeastRow : OpenClaim := { program := "ytmcnipjfigbkeaa", sum := "3852a2603c4dc09eceb521da1bdd5d38bcf42d11865f1f04cd7e899d535c8d90", func := "klaxon/klaxonlaw01.QuillLeast", spec := "quillLeast", unfollowed := true, recurses := true, apart := false }
def QuillLeastSaid : Prop := quillLeastRow.holds Try.pinned (OpenSpec.ofChange quillLeastSpec)

/-- ITS FALSE NEIGHBOUR: 'it returns false'. Refute it at one input. -/
def quillLeastWrong : ChangeSpec := { name := "quillLeast", fn := fun _ => fun
  | [d1, d2, d3] => { results := [.lit (.bool false)], args := [d1, d2, d3] }
  | _ => none }
def QuillLeastWrongFalsely : Prop := quillLeastRow.holds Try.pinned (OpenSpec.ofChange quillLeastWrong)

/-- 'klaxonlaw01.QuillParts': WHATEVER THE INPUT: true; the input reads as it did. -/
def quillPartsSpec : ChangeSpec := { name := "quillParts", fn := fun _ => fun
  | [d1, d2, d3, d4] => { results := [.lit (.bool true)], args := [d1, d2, d3, d4] }
  | _ => none }
def quillPartsRow : OpenClaim := { program := "ytmcnipjfigbkeaa", sum := "3852a2603c4dc09eceb521da1bdd5d38bcf42d11865f1f04cd7e899d535c8d90", func := "klaxon/klaxonlaw01.QuillParts", spec := "quillParts", unfollowed := true, recurses := true, apart := false }
def QuillPartsSaid : Prop := quillPartsRow.holds Try.pinned (OpenSpec.ofChange quillPartsSpec)

/-- ITS FALSE NEIGHBOUR: 'it returns false'. Refute it at one input. -/
def quillPartsWrong : ChangeSpec := { name := "quillParts", fn := fun _ => fun
  | [d1, d2, d3, d4] => { results := [.lit (.bool false)], args := [d1, d2, d3, d4] }
  | _ => none }
def QuillPartsWrongFalsely : Prop := quillPartsRow.holds Try.pinned (OpenSpec.ofChange quillPartsWrong)

/-- 'klaxonlaw01.QuillPuts': WHATEVER THE INPUT: true; the input reads as it did. -/
def quillPutsSpec : ChangeSpec := { name := "quillPuts", fn := fun _ => fun
  | [d1, d2, d3, d4] => { results := [.lit (.bool true)], args := [d1, d2, d3, d4] }
  | _ => none }
def quillPutsRow : OpenClaim := { program := "ytmcnipjfigbkeaa", sum := "3852a2603c4dc09eceb521da1bdd5d38bcf42d11865f1f04cd7e899d535c8d90", func := "klaxon/klaxonlaw01.QuillPuts", spec := "quillPuts", unfollowed := true, recurses := true, apart := false }
def QuillPutsSaid : Prop := quillPutsRow.holds Try.pinned (OpenSpec.ofChange quillPutsSpec)

/-- ITS FALSE NEIGHBOUR: 'it returns false'. Refute it at one input. -/
def quillPutsWrong : ChangeSpec := { name := "quillPuts", fn := fun _ => fun
  | [d1, d2, d3, d4] => { results := [.lit (.bool false)], args := [d1, d2, d3, d4] }
  | _ => none }
def QuillPutsWrongFalsely : Prop := quillPutsRow.holds Try.pinned (OpenSpec.ofChange quillPutsWrong)

/-- 'klaxonlaw01.QuillBack': WHATEVER THE INPUT: true; the input reads as it did. -/
def quillBackSpec : ChangeSpec := { name := "quillBack", fn := fun _ => fun
  | [d1, d2, d3] => { results := [.lit (.bool true)], args := [d1, d2, d3] }
  | _ => none }
def quillBackRow : OpenClaim := { program := "ytmcnipjfigbkeaa", sum := "3852a2603c4dc09eceb521da1bdd5d38bcf42d11865f1f04cd7e899d535c8d90", func := "klaxon/klaxonlaw01.QuillBack", spec := "quillBack", unfollowed := true, recurses := true, apart := false }
def QuillBackSaid : Prop := quillBackRow.holds Try.pinned (OpenSpec.ofChange quillBackSpec)

/-- ITS FALSE NEIGHBOUR: 'it returns false'. Refute it at one input. -/
def quillBackWrong : ChangeSpec := { name := "quillBack", fn := fun _ => fun
  | [d1, d2, d3] => { results := [.lit (.bool false)], args := [d1, d2, d3] }
  | _ => none }
def QuillBackWrongFalsely : Prop := quillBackRow.holds Try.pinned (OpenSpec.ofChange quillBackWrong)

/-- 'klaxonlaw01.QuillShort': WHATEVER THE INPUT: true; the input reads as it did. -/
def quillShortSpec : ChangeSpec := { name := "quillShort", fn := fun _ => fun
  | [d1, d2, d3] => { results := [.lit (.bool true)], args := [d1, d2, d3] }
  | _ => none }
def quillShortRow : OpenClaim := { program := "ytmcnipjfigbkeaa", sum := "3852a2603c4dc09eceb521da1bdd5d38bcf42d11865f1f04cd7e899d535c8d90", func := "klaxon/klaxonlaw01.QuillShort", spec := "quillShort", unfollowed := true, recurses := true, apart := false }
def QuillShortSaid : Prop := quillShortRow.holds Try.pinned (OpenSpec.ofChange quillShortSpec)

/-- ITS FALSE NEIGHBOUR: 'it returns false'. Refute it at one input. -/
def quillShortWrong : ChangeSpec := { name := "quillShort", fn := fun _ => fun
  | [d1, d2, d3] => { results := [.lit (.bool false)], args := [d1, d2, d3] }
  | _ => none }
def QuillShortWrongFalsely : Prop := quillShortRow.holds Try.pinned (OpenSpec.ofChange quillShortWrong)

/-- 'klaxonlaw01.QuillNil': WHATEVER THE INPUT: true; the input reads as it did. -/
def quillNilSpec : ChangeSpec := { name := "quillNil", fn := fun _ => fun
  | [d] => { results := [.lit (.bool true)], args := [d] }
  | _ => none }
def quillNilRow : OpenClaim := { program := "ytmcnipjfigbkeaa", sum := "3852a2603c4dc09eceb521da1bdd5d38bcf42d11865f1f04cd7e899d535c8d90", func := "klaxon/klaxonlaw01.QuillNil", spec := "quillNil", unfollowed := true, recurses := true, apart := false }
def QuillNilSaid : Prop := quillNilRow.holds Try.pinned (OpenSpec.ofChange quillNilSpec)

/-- ITS FALSE NEIGHBOUR: 'it returns false'. Refute it at one input. -/
def quillNilWrong : ChangeSpec := { name := "quillNil", fn := fun _ => fun
  | [d] => { results := [.lit (.bool false)], args := [d] }
  | _ => none }
def QuillNilWrongFalsely : Prop := quillNilRow.holds Try.pinned (OpenSpec.ofChange quillNilWrong)

/- THE SECOND FORM. 'bulk': how many values and letters a reading holds, each counted each time it is reached (what is shared counts as often as it is met; a slice's spare places count too). A statement '..UptoSaid' is the law's where the arguments, and the package variables that the reading takes, are together of bulk at most 1048576: NARROWER than '..Said'. Prove '..Said' where nothing that the law and all that it calls make is longer than what came in: it says more and counts as full. Else prove '..UptoSaid'. A law counts once. -/
mutual
def uptoBulk {H : Type} : DataW H → Nat
  | .lit (.string bytes) => bytes.length + 1
  | .lit _ => 1
  | .nil => 1
  | .ptr d => uptoBulk d + 1
  | .slice elems spare => uptoBulkAll elems + uptoBulkAll spare + 1
  | .agg parts => uptoBulkAll parts + 1
  | .iface _ d => uptoBulk d + 1
  | .map entries => uptoBulkEntries entries + 1
  | .held _ => 1
def uptoBulkAll {H : Type} : List (DataW H) → Nat
  | [] => 0
  | d :: r => uptoBulk d + uptoBulkAll r
def uptoBulkEntries {H : Type} : List (Lit × DataW H) → Nat
  | [] => 0
  | x :: r => uptoBulkEntry x + uptoBulkEntries r
def uptoBulkEntry {H : Type} : Lit × DataW H → Nat
  | (.string bytes, d) => bytes.length + uptoBulk d + 1
  | (_, d) => uptoBulk d + 1
 end
def uptoSmall : (H : Type) → List (DataW H) → Bool := fun _ ds => decide (uptoBulkAll ds ≤ 1048576)
def OpenSpec.upto (s : _root_.Go.ChangeSpec) : _root_.Go.OpenSpec := { _root_.Go.OpenSpec.ofChange s with cond := some uptoSmall }

/-- 'klaxonlaw17.StateSteps', WHERE WHAT IT READS IS OF BULK AT MOST 1048576: true; the input reads as it did. -/
def stateStepsUptoRow : OpenClaim := { program := "ytmcnipjfigbkeaa", sum := "3852a2603c4dc09eceb521da1bdd5d38bcf42d11865f1f04cd7e899d535c8d90", func := "klaxon/klaxonlaw17.StateSteps", spec := "stateSteps", unfollowed := true, recurses := true, apart := false, narrowed := true }
def StateStepsUptoSaid : Prop := stateStepsUptoRow.holds Try.pinned (OpenSpec.upto stateStepsSpec)

/-- 'klaxonlaw17.StateHold', WHERE WHAT IT READS IS OF BULK AT MOST 1048576: true; the input reads as it did. -/
def stateHoldUptoRow : OpenClaim := { program := "ytmcnipjfigbkeaa", sum := "3852a2603c4dc09eceb521da1bdd5d38bcf42d11865f1f04cd7e899d535c8d90", func := "klaxon/klaxonlaw17.StateHold", spec := "stateHold", unfollowed := true, recurses := true, apart := false, narrowed := true }
def StateHoldUptoSaid : Prop := stateHoldUptoRow.holds Try.pinned (OpenSpec.upto stateHoldSpec)

/-- 'klaxonlaw17.StateRight', WHERE WHAT IT READS IS OF BULK AT MOST 1048576: true; the input reads as it did. -/
def stateRightUptoRow : OpenClaim := { program := "ytmcnipjfigbkeaa", sum := "3852a2603c4dc09eceb521da1bdd5d38bcf42d11865f1f04cd7e899d535c8d90", func := "klaxon/klaxonlaw17.StateRight", spec := "stateRight", unfollowed := true, recurses := true, apart := false, narrowed := true }
def StateRightUptoSaid : Prop := stateRightUptoRow.holds Try.pinned (OpenSpec.upto stateRightSpec)

/-- 'klaxonlaw17.StateQuiet', WHERE WHAT IT READS IS OF BULK AT MOST 1048576: true; the input reads as it did. -/
def stateQuietUptoRow : OpenClaim := { program := "ytmcnipjfigbkeaa", sum := "3852a2603c4dc09eceb521da1bdd5d38bcf42d11865f1f04cd7e899d535c8d90", func := "klaxon/klaxonlaw17.StateQuiet", spec := "stateQuiet", unfollowed := true, recurses := true, apart := false, narrowed := true }
def StateQuietUptoSaid : Prop := stateQuietUptoRow.holds Try.pinned (OpenSpec.upto stateQuietSpec)

/-- 'klaxonlaw17.StatePolicies', WHERE WHAT IT READS IS OF BULK AT MOST 1048576: true; the input reads as it did. -/
def statePoliciesUptoRow : OpenClaim := { program := "ytmcnipjfigbkeaa", sum := "3852a2603c4dc09eceb521da1bdd5d38bcf42d11865f1f04cd7e899d535c8d90", func := "klaxon/klaxonlaw17.StatePolicies", spec := "statePolicies", unfollowed := true, recurses := true, apart := false, narrowed := true }
def StatePoliciesUptoSaid : Prop := statePoliciesUptoRow.holds Try.pinned (OpenSpec.upto statePoliciesSpec)

/-- 'klaxonlaw01.QuillLeast', WHERE WHAT IT READS IS OF BULK AT MOST 1048576: true; the input reads as it did. -/
def quillLeastUptoRow : OpenClaim := { program := "ytmcnipjfigbkeaa", sum := "3852a2603c4dc09eceb521da1bdd5d38bcf42d11865f1f04cd7e899d535c8d90", func := "klaxon/klaxonlaw01.QuillLeast", spec := "quillLeast", unfollowed := true, recurses := true, apart := false, narrowed := true }
def QuillLeastUptoSaid : Prop := quillLeastUptoRow.holds Try.pinned (OpenSpec.upto quillLeastSpec)

/-- 'klaxonlaw01.QuillParts', WHERE WHAT IT READS IS OF BULK AT MOST 1048576: true; the input reads as it did. -/
def quillPartsUptoRow : OpenClaim := { program := "ytmcnipjfigbkeaa", sum := "3852a2603c4dc09eceb521da1bdd5d38bcf42d11865f1f04cd7e899d535c8d90", func := "klaxon/klaxonlaw01.QuillParts", spec := "quillParts", unfollowed := true, recurses := true, apart := false, narrowed := true }
def QuillPartsUptoSaid : Prop := quillPartsUptoRow.holds Try.pinned (OpenSpec.upto quillPartsSpec)

/-- 'klaxonlaw01.QuillPuts', WHERE WHAT IT READS IS OF BULK AT MOST 1048576: true; the input reads as it did. -/
def quillPutsUptoRow : OpenClaim := { program := "ytmcnipjfigbkeaa", sum := "3852a2603c4dc09eceb521da1bdd5d38bcf42d11865f1f04cd7e899d535c8d90", func := "klaxon/klaxonlaw01.QuillPuts", spec := "quillPuts", unfollowed := true, recurses := true, apart := false, narrowed := true }
def QuillPutsUptoSaid : Prop := quillPutsUptoRow.holds Try.pinned (OpenSpec.upto quillPutsSpec)

/-- 'klaxonlaw01.QuillBack', WHERE WHAT IT READS IS OF BULK AT MOST 1048576: true; the input reads as it did. -/
def quillBackUptoRow : OpenClaim := { program := "ytmcnipjfigbkeaa", sum := "3852a2603c4dc09eceb521da1bdd5d38bcf42d11865f1f04cd7e899d535c8d90", func := "klaxon/klaxonlaw01.QuillBack", spec := "quillBack", unfollowed := true, recurses := true, apart := false, narrowed := true }
def QuillBackUptoSaid : Prop := quillBackUptoRow.holds Try.pinned (OpenSpec.upto quillBackSpec)

/-- 'klaxonlaw01.QuillShort', WHERE WHAT IT READS IS OF BULK AT MOST 1048576: true; the input reads as it did. -/
def quillShortUptoRow : OpenClaim := { program := "ytmcnipjfigbkeaa", sum := "3852a2603c4dc09eceb521da1bdd5d38bcf42d11865f1f04cd7e899d535c8d90", func := "klaxon/klaxonlaw01.QuillShort", spec := "quillShort", unfollowed := true, recurses := true, apart := false, narrowed := true }
def QuillShortUptoSaid : Prop := quillShortUptoRow.holds Try.pinned (OpenSpec.upto quillShortSpec)

/-- 'klaxonlaw01.QuillNil', WHERE WHAT IT READS IS OF BULK AT MOST 1048576: true; the input reads as it did. -/
def quillNilUptoRow : OpenClaim := { program := "ytmcnipjfigbkeaa", sum := "3852a2603c4dc09eceb521da1bdd5d38bcf42d11865f1f04cd7e899d535c8d90", func := "klaxon/klaxonlaw01.QuillNil", spec := "quillNil", unfollowed := true, recurses := true, apart := false, narrowed := true }
def QuillNilUptoSaid : Prop := quillNilUptoRow.holds Try.pinned (OpenSpec.upto quillNilSpec)

end Rows
end Go.Proofs.Ytmcnipjfigbkeaa
