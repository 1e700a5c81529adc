/-
  No cell of these rows narrows 'for every input' (looked for: loops, veiled, ifaces, maps, wideKeys, modest, calm, conditions, laid).
  DERIVED. THE GIVEN ROWS OF THIS SEAT. 11 by the template 'for every input the law returns true; each argument reads behind the call as it read before'; 0 by the template 'total and deterministic' (their statements: YteimienhaodfcaaTotals.lean).
  GIVEN WITH THE SEED: the statements are not yours to turn. If you find one false, say at which input.
  Laid BY PROGRAM, IN A SANDBOX (cutbox-rows.mjs): the forced cells as the released guide's own fill.sh prints them over the translation ecd23bebf57e5344… (all of the seat's roots in one cut). By AI agents, Wed Nov 11 2026. No macro, syntax, notation, axiom, sorry.
-/
import Derived.Test.YteimienhaodfcaaChecked
import GoSem.Claim
import GoSem.ClaimJoined
import GoSem.ClaimMapViews
import Derived.JoinedTies
import Derived.KernelRfl
namespace Go.Proofs.Yteimienhaodfcaa
/- THE CELL 'sum', in the pinned program and in every row, IS THE sha256 OF THE DUMP (.gsa) THAT YteimienhaodfcaaProg.lean LOADS. Nothing in Lean hashes anything: it is a label: what it is worth is what the hold of that sum in a sandbox is worth. -/
noncomputable def Try.pinned : Pinned := { name := "yteimienhaodfcaa", sum := "ecd23bebf57e5344e633a9bfbc91b78f9d4753ebe93d940600e395dc4db413c6", checked := Try.checked }
namespace Rows
def none {H : Type} : Left H := { results := [], args := [] }

/-- 'klaxonlaw02.DiskSafe': WHATEVER THE INPUT: true; the input reads as it did. -/
def diskSafeSpec : ChangeSpec := { name := "diskSafe", fn := fun _ => fun
  | [d1, d2, d3, d4] => { results := [.lit (.bool true)], args := [d1, d2, d3, d4] }
  | _ => none }
def diskSafeRow : OpenClaim := { program := "yteimienhaodfcaa", sum := "ecd23bebf57e5344e633a9bfbc91b78f9d4753ebe93d940600e395dc4db413c6", func := "klaxon/klaxonlaw02.DiskSafe", spec := "diskSafe", unfollowed := true, recurses := true, apart := false }
def DiskSafeSaid : Prop := diskSafeRow.holds Try.pinned (OpenSpec.ofChange diskSafeSpec)

/-- ITS FALSE NEIGHBOUR: 'it returns false'. Refute it at one input. -/
def diskSafeWrong : ChangeSpec := { name := "diskSafe", fn := fun _ => fun
  | [d1, d2, d3, d4] => { results := [.lit (.bool false)], args := [d1, d2, d3, d4] }
  | _ => none }
def DiskSafeWrongFalsely : Prop := diskSafeRow.holds Try.pinned (OpenSpec.ofChange diskSafeWrong)

/-- 'klaxonlaw02.DiskTorn': WHATEVER THE INPUT: true; the input reads as it did. -/
def diskTornSpec : ChangeSpec := { name := "diskTorn", fn := fun _ => fun
  | [d1, d2, d3, d4, d5] => { results := [.lit (.bool true)], args := [d1, d2, d3, d4, d5] }
  | _ => none }
def diskTornRow : OpenClaim := { program := "yteimienhaodfcaa", sum := "ecd23bebf57e5344e633a9bfbc91b78f9d4753ebe93d940600e395dc4db413c6", func := "klaxon/klaxonlaw02.DiskTorn", spec := "diskTorn", unfollowed := true, recurses := true, apart := false }
def DiskTornSaid : Prop := diskTornRow.holds Try.pinned (OpenSpec.ofChange diskTornSpec)

/-- ITS FALSE NEIGHBOUR: 'it returns false'. Refute it at one input. -/
def diskTornWrong : ChangeSpec := { name := "diskTorn", fn := fun _ => fun
  | [d1, d2, d3, d4, d5] => { results := [.lit (.bool false)], args := [d1, d2, d3, d4, d5] }
  | _ => none }
def DiskTornWrongFalsely : Prop := diskTornRow.holds Try.pinned (OpenSpec.ofChange diskTornWrong)

/-- 'klaxonlaw02.DiskArms': WHATEVER THE INPUT: true; the input reads as it did. -/
def diskArmsSpec : ChangeSpec := { name := "diskArms", fn := fun _ => fun
  | [d1, d2] => { results := [.lit (.bool true)], args := [d1, d2] }
  | _ => none }
def diskArmsRow : OpenClaim := { program := "yteimienhaodfcaa", sum := "ecd23bebf57e5344e633a9bfbc91b78f9d4753ebe93d940600e395dc4db413c6", func := "klaxon/klaxonlaw02.DiskArms", spec := "diskArms", unfollowed := true, recurses := true, apart := false }
def DiskArmsSaid : Prop := diskArmsRow.holds Try.pinned (OpenSpec.ofChange diskArmsSpec)

/-- ITS FALSE NEIGHBOUR: 'it returns false'. Refute it at one input. -/
def diskArmsWrong : ChangeSpec := { name := "diskArms", fn := fun _ => fun
  | [d1, d2] => { results := [.lit (.bool false)], args := [d1, d2] }
  | _ => none }
def DiskArmsWrongFalsely : Prop := diskArmsRow.holds Try.pinned (OpenSpec.ofChange diskArmsWrong)

/-- 'klaxonlaw02.DiskNil': WHATEVER THE INPUT: true; the input reads as it did. -/
def diskNilSpec : ChangeSpec := { name := "diskNil", fn := fun _ => fun
  | [d1, d2] => { results := [.lit (.bool true)], args := [d1, d2] }
  | _ => none }
def diskNilRow : OpenClaim := { program := "yteimienhaodfcaa", sum := "ecd23bebf57e5344e633a9bfbc91b78f9d4753ebe93d940600e395dc4db413c6", func := "klaxon/klaxonlaw02.DiskNil", spec := "diskNil", unfollowed := true, recurses := true, apart := false }
def DiskNilSaid : Prop := diskNilRow.holds Try.pinned (OpenSpec.ofChange diskNilSpec)

/-- ITS FALSE NEIGHBOUR: 'it returns false'. Refute it at one input. -/
def diskNilWrong : ChangeSpec := { name := "diskNil", fn := fun _ => fun
  | [d1, d2] => { results := [.lit (.bool false)], args := [d1, d2] }
  | _ => none }
def DiskNilWrongFalsely : Prop := diskNilRow.holds Try.pinned (OpenSpec.ofChange diskNilWrong)

/-- 'klaxonlaw04.MetaBytes': WHATEVER THE INPUT: true; the input reads as it did. -/
def metaBytesSpec : ChangeSpec := { name := "metaBytes", fn := fun _ => fun
  | [d1, d2] => { results := [.lit (.bool true)], args := [d1, d2] }
  | _ => none }
def metaBytesRow : OpenClaim := { program := "yteimienhaodfcaa", sum := "ecd23bebf57e5344e633a9bfbc91b78f9d4753ebe93d940600e395dc4db413c6", func := "klaxon/klaxonlaw04.MetaBytes", spec := "metaBytes", unfollowed := true, recurses := true, apart := false }
def MetaBytesSaid : Prop := metaBytesRow.holds Try.pinned (OpenSpec.ofChange metaBytesSpec)

/-- ITS FALSE NEIGHBOUR: 'it returns false'. Refute it at one input. -/
def metaBytesWrong : ChangeSpec := { name := "metaBytes", fn := fun _ => fun
  | [d1, d2] => { results := [.lit (.bool false)], args := [d1, d2] }
  | _ => none }
def MetaBytesWrongFalsely : Prop := metaBytesRow.holds Try.pinned (OpenSpec.ofChange metaBytesWrong)

/-- 'klaxonlaw04.MetaTorn': WHATEVER THE INPUT: true; the input reads as it did. -/
def metaTornSpec : ChangeSpec := { name := "metaTorn", fn := fun _ => fun
  | [d1, d2, d3, d4, d5] => { results := [.lit (.bool true)], args := [d1, d2, d3, d4, d5] }
  | _ => none }
def metaTornRow : OpenClaim := { program := "yteimienhaodfcaa", sum := "ecd23bebf57e5344e633a9bfbc91b78f9d4753ebe93d940600e395dc4db413c6", func := "klaxon/klaxonlaw04.MetaTorn", spec := "metaTorn", unfollowed := true, recurses := true, apart := false }
def MetaTornSaid : Prop := metaTornRow.holds Try.pinned (OpenSpec.ofChange metaTornSpec)

/-- ITS FALSE NEIGHBOUR: 'it returns false'. Refute it at one input. -/
def metaTornWrong : ChangeSpec := { name := "metaTorn", fn := fun _ => fun
  | [d1, d2, d3, d4, d5] => { results := [.lit (.bool false)], args := [d1, d2, d3, d4, d5] }
  | _ => none }
def MetaTornWrongFalsely : Prop := metaTornRow.holds Try.pinned (OpenSpec.ofChange metaTornWrong)

/-- 'klaxonlaw04.MetaNil': WHATEVER THE INPUT: true; the input reads as it did. -/
def metaNilSpec : ChangeSpec := { name := "metaNil", fn := fun _ => fun
  | [d1, d2] => { results := [.lit (.bool true)], args := [d1, d2] }
  | _ => none }
def metaNilRow : OpenClaim := { program := "yteimienhaodfcaa", sum := "ecd23bebf57e5344e633a9bfbc91b78f9d4753ebe93d940600e395dc4db413c6", func := "klaxon/klaxonlaw04.MetaNil", spec := "metaNil", unfollowed := true, recurses := true, apart := false }
def MetaNilSaid : Prop := metaNilRow.holds Try.pinned (OpenSpec.ofChange metaNilSpec)

/-- ITS FALSE NEIGHBOUR: 'it returns false'. Refute it at one input. -/
def metaNilWrong : ChangeSpec := { name := "metaNil", fn := fun _ => fun
  | [d1, d2] => { results := [.lit (.bool false)], args := [d1, d2] }
  | _ => none }
def MetaNilWrongFalsely : Prop := metaNilRow.holds Try.pinned (OpenSpec.ofChange metaNilWrong)

/-- 'klaxonlaw04.MetaBack': WHATEVER THE INPUT: true; the input reads as it did. -/
def metaBackSpec : ChangeSpec := { name := "metaBack", fn := fun _ => fun
  | [d1, d2, d3] => { results := [.lit (.bool true)], args := [d1, d2, d3] }
  | _ => none }
def metaBackRow : OpenClaim := { program := "yteimienhaodfcaa", sum := "ecd23bebf57e5344e633a9bfbc91b78f9d4753ebe93d940600e395dc4db413c6", func := "klaxon/klaxonlaw04.MetaBack", spec := "metaBack", unfollowed := true, recurses := true, apart := false }
def MetaBackSaid : Prop := metaBackRow.holds Try.pinned (OpenSpec.ofChange metaBackSpec)

/-- ITS FALSE NEIGHBOUR: 'it returns false'. Refute it at one input. -/
def metaBackWrong : ChangeSpec := { name := "metaBack", fn := fun _ => fun
  | [d1, d2, d3] => { results := [.lit (.bool false)], args := [d1, d2, d3] }
  | _ => none }
def MetaBackWrongFalsely : Prop := metaBackRow.holds Try.pinned (OpenSpec.ofChange metaBackWrong)

/-- 'klaxonlaw04.MetaPlays': WHATEVER THE INPUT: true; the input reads as it did. -/
def metaPlaysSpec : ChangeSpec := { name := "metaPlays", fn := fun _ => fun
  | [d1, d2, d3, d4] => { results := [.lit (.bool true)], args := [d1, d2, d3, d4] }
  | _ => none }
def metaPlaysRow : OpenClaim := { program := "yteimienhaodfcaa", sum := "ecd23bebf57e5344e633a9bfbc91b78f9d4753ebe93d940600e395dc4db413c6", func := "klaxon/klaxonlaw04.MetaPlays", spec := "metaPlays", unfollowed := true, recurses := true, apart := false }
def MetaPlaysSaid : Prop := metaPlaysRow.holds Try.pinned (OpenSpec.ofChange metaPlaysSpec)

/-- ITS FALSE NEIGHBOUR: 'it returns false'. Refute it at one input. -/
def metaPlaysWrong : ChangeSpec := { name := "metaPlays", fn := fun _ => fun
  | [d1, d2, d3, d4] => { results := [.lit (.bool false)], args := [d1, d2, d3, d4] }
  | _ => none }
def MetaPlaysWrongFalsely : Prop := metaPlaysRow.holds Try.pinned (OpenSpec.ofChange metaPlaysWrong)

/-- 'klaxonlaw04.MetaSwitches': WHATEVER THE INPUT: true; the input reads as it did. -/
def metaSwitchesSpec : ChangeSpec := { name := "metaSwitches", fn := fun _ => fun
  | [d] => { results := [.lit (.bool true)], args := [d] }
  | _ => none }
def metaSwitchesRow : OpenClaim := { program := "yteimienhaodfcaa", sum := "ecd23bebf57e5344e633a9bfbc91b78f9d4753ebe93d940600e395dc4db413c6", func := "klaxon/klaxonlaw04.MetaSwitches", spec := "metaSwitches", unfollowed := true, recurses := true, apart := false }
def MetaSwitchesSaid : Prop := metaSwitchesRow.holds Try.pinned (OpenSpec.ofChange metaSwitchesSpec)

/-- ITS FALSE NEIGHBOUR: 'it returns false'. Refute it at one input. -/
def metaSwitchesWrong : ChangeSpec := { name := "metaSwitches", fn := fun _ => fun
  | [d] => { results := [.lit (.bool false)], args := [d] }
  | _ => none }
def MetaSwitchesWrongFalsely : Prop := metaSwitchesRow.holds Try.pinned (OpenSpec.ofChange metaSwitchesWrong)

/-- 'klaxonlaw03.PagePlays': WHATEVER THE INPUT: true; the input reads as it did. -/
def pagePlaysSpec : ChangeSpec := { name := "pagePlays", fn := fun _ => fun
  | [d1, d2, d3, d4] => { results := [.lit (.bool true)], args := [d1, d2, d3, d4] }
  | _ => none }
def pagePlaysRow : OpenClaim := { program := "yteimienhaodfcaa", sum := "ecd23bebf57e5344e633a9bfbc91b78f9d4753ebe93d940600e395dc4db413c6", func := "klaxon/klaxonlaw03.PagePlays", spec := "pagePlays", unfollowed := true, recurses := true, apart := false }
def PagePlaysSaid : Prop := pagePlaysRow.holds Try.pinned (OpenSpec.ofChange pagePlaysSpec)

/-- ITS FALSE NEIGHBOUR: 'it returns false'. Refute it at one input. -/
def pagePlaysWrong : ChangeSpec := { name := "pagePlays", fn := fun _ => fun
  | [d1, d2, d3, d4] => { results := [.lit (.bool false)], args := [d1, d2, d3, d4] }
  | _ => none }
def PagePlaysWrongFalsely : Prop := pagePlaysRow.holds Try.pinned (OpenSpec.ofChange pagePlaysWrong)

/- THE SECOND FORM. 'bulk': how many values and letters a reading holds, each counted each time it is reached (what is shared counts as often as it is met; a slice's spare places count too). A statement '..UptoSaid' is the law's where the arguments, and the package variables that the reading takes, are together of bulk at most 1048576: NARROWER than '..Said'. Prove '..Said' where nothing that the law and all that it calls make is longer than what came in: it says more and counts as full. Else prove '..UptoSaid'. A law counts once. -/
mutual
def uptoBulk {H : Type} : DataW H → Nat
  | .lit (.string bytes) => bytes.length + 1
  | .lit _ => 1
  | .nil => 1
  | .ptr d => uptoBulk d + 1
  | .slice elems spare => uptoBulkAll elems + uptoBulkAll spare + 1
  | .agg parts => uptoBulkAll parts + 1
  | .iface _ d => uptoBulk d + 1
  | .map entries => uptoBulkEntries entries + 1
  | .held _ => 1
def uptoBulkAll {H : Type} : List (DataW H) → Nat
  | [] => 0
  | d :: r => uptoBulk d + uptoBulkAll r
def uptoBulkEntries {H : Type} : List (Lit × DataW H) → Nat
  | [] => 0
  | x :: r => uptoBulkEntry x + uptoBulkEntries r
def uptoBulkEntry {H : Type} : Lit × DataW H → Nat
  | (.string bytes, d) => bytes.length + uptoBulk d + 1
  | (_, d) => uptoBulk d + 1
 end
def uptoSmall : (H : Type) → List (DataW H) → Bool := fun _ ds => decide (uptoBulkAll ds ≤ 1048576)
def OpenSpec.upto (s : _root_.Go.ChangeSpec) : _root_.Go.OpenSpec := { _root_.Go.OpenSpec.ofChange s with cond := some uptoSmall }

/-- 'klaxonlaw02.DiskSafe', WHERE WHAT IT READS IS OF BULK AT MOST 1048576: true; the input reads as it did. -/
def diskSafeUptoRow : OpenClaim := { program := "yteimienhaodfcaa", sum := "ecd23bebf57e5344e633a9bfbc91b78f9d4753ebe93d940600e395dc4db413c6", func := "klaxon/klaxonlaw02.DiskSafe", spec := "diskSafe", unfollowed := true, recurses := true, apart := false, narrowed := true }
def DiskSafeUptoSaid : Prop := diskSafeUptoRow.holds Try.pinned (OpenSpec.upto diskSafeSpec)

/-- 'klaxonlaw02.DiskTorn', WHERE WHAT IT READS IS OF BULK AT MOST 1048576: true; the input reads as it did. -/
def diskTornUptoRow : OpenClaim := { program := "yteimienhaodfcaa", sum := "ecd23bebf57e5344e633a9bfbc91b78f9d4753ebe93d940600e395dc4db413c6", func := "klaxon/klaxonlaw02.DiskTorn", spec := "diskTorn", unfollowed := true, recurses := true, apart := false, narrowed := true }
def DiskTornUptoSaid : Prop := diskTornUptoRow.holds Try.pinned (OpenSpec.upto diskTornSpec)

/-- 'klaxonlaw02.DiskArms', WHERE WHAT IT READS IS OF BULK AT MOST 1048576: true; the input reads as it did. -/
def diskArmsUptoRow : OpenClaim := { program := "yteimienhaodfcaa", sum := "ecd23bebf57e5344e633a9bfbc91b78f9d4753ebe93d940600e395dc4db413c6", func := "klaxon/klaxonlaw02.DiskArms", spec := "diskArms", unfollowed := true, recurses := true, apart := false, narrowed := true }
def DiskArmsUptoSaid : Prop := diskArmsUptoRow.holds Try.pinned (OpenSpec.upto diskArmsSpec)

/-- 'klaxonlaw02.DiskNil', WHERE WHAT IT READS IS OF BULK AT MOST 1048576: true; the input reads as it did. -/
def diskNilUptoRow : OpenClaim := { program := "yteimienhaodfcaa", sum := "ecd23bebf57e5344e633a9bfbc91b78f9d4753ebe93d940600e395dc4db413c6", func := "klaxon/klaxonlaw02.DiskNil", spec := "diskNil", unfollowed := true, recurses := true, apart := false, narrowed := true }
def DiskNilUptoSaid : Prop := diskNilUptoRow.holds Try.pinned (OpenSpec.upto diskNilSpec)

/-- 'klaxonlaw04.MetaBytes', WHERE WHAT IT READS IS OF BULK AT MOST 1048576: true; the input reads as it did. -/
def metaBytesUptoRow : OpenClaim := { program := "yteimienhaodfcaa", sum := "ecd23bebf57e5344e633a9bfbc91b78f9d4753ebe93d940600e395dc4db413c6", func := "klaxon/klaxonlaw04.MetaBytes", spec := "metaBytes", unfollowed := true, recurses := true, apart := false, narrowed := true }
def MetaBytesUptoSaid : Prop := metaBytesUptoRow.holds Try.pinned (OpenSpec.upto metaBytesSpec)

/-- 'klaxonlaw04.MetaTorn', WHERE WHAT IT READS IS OF BULK AT MOST 1048576: true; the input reads as it did. -/
def metaTornUptoRow : OpenClaim := { program := "yteimienhaodfcaa", sum := "ecd23bebf57e5344e633a9bfbc91b78f9d4753ebe93d940600e395dc4db413c6", func := "klaxon/klaxonlaw04.MetaTorn", spec := "metaTorn", unfollowed := true, recurses := true, apart := false, narrowed := true }
def MetaTornUptoSaid : Prop := metaTornUptoRow.holds Try.pinned (OpenSpec.upto metaTornSpec)

/-- 'klaxonlaw04.MetaNil', WHERE WHAT IT READS IS OF BULK AT MOST 1048576: true; the input reads as it did. -/
def metaNilUptoRow : OpenClaim := { program := "yteimienhaodfcaa", sum := "ecd23bebf57e5344e633a9bfbc91b78f9d4753ebe93d940600e395dc4db413c6", func := "klaxon/klaxonlaw04.MetaNil", spec := "metaNil", unfollowed := true, recurses := true, apart := false, narrowed := true }
def MetaNilUptoSaid : Prop := metaNilUptoRow.holds Try.pinned (OpenSpec.upto metaNilSpec)

/-- 'klaxonlaw04.MetaBack', WHERE WHAT IT READS IS OF BULK AT MOST 1048576: true; the input reads as it did. -/
def metaBackUptoRow : OpenClaim := { program := "yteimienhaodfcaa", sum := "ecd23bebf57e5344e633a9bfbc91b78f9d4753ebe93d940600e395dc4db413c6", func := "klaxon/klaxonlaw04.MetaBack", spec := "metaBack", unfollowed := true, recurses := true, apart := false, narrowed := true }
def MetaBackUptoSaid : Prop := metaBackUptoRow.holds Try.pinned (OpenSpec.upto metaBackSpec)

/-- 'klaxonlaw04.MetaPlays', WHERE WHAT IT READS IS OF BULK AT MOST 1048576: true; the input reads as it did. -/
def metaPlaysUptoRow : OpenClaim := { program := "yteimienhaodfcaa", sum := "ecd23bebf57e5344e633a9bfbc91b78f9d4753ebe93d940600e395dc4db413c6", func := "klaxon/klaxonlaw04.MetaPlays", spec := "metaPlays", unfollowed := true, recurses := true, apart := false, narrowed := true }
def MetaPlaysUptoSaid : Prop := metaPlaysUptoRow.holds Try.pinned (OpenSpec.upto metaPlaysSpec)

/-- 'klaxonlaw04.MetaSwitches', WHERE WHAT IT READS IS OF BULK AT MOST 1048576: true; the input reads as it did. -/
def metaSwitchesUptoRow : OpenClaim := { program := "yteimienhaodfcaa", sum := "ecd23bebf57e5344e633a9bfbc91b78f9d4753ebe93d940600e395dc4db413c6", func := "klaxon/klaxonlaw04.MetaSwitches", spec := "metaSwitches", unfollowed := true, recurses := true, apart := false, narrowed := true }
def MetaSwitchesUptoSaid : Prop := metaSwitchesUptoRow.holds Try.pinned (OpenSpec.upto metaSwitchesSpec)

/-- 'klaxonlaw03.PagePlays', WHERE WHAT IT READS IS OF BULK AT MOST 1048576: true; the input reads as it did. -/
def pagePlaysUptoRow : OpenClaim := { program := "yteimienhaodfcaa", sum := "ecd23bebf57e5344e633a9bfbc91b78f9d4753ebe93d940600e395dc4db413c6", func := "klaxon/klaxonlaw03.PagePlays", spec := "pagePlays", unfollowed := true, recurses := true, apart := false, narrowed := true }
def PagePlaysUptoSaid : Prop := pagePlaysUptoRow.holds Try.pinned (OpenSpec.upto pagePlaysSpec)

end Rows
end Go.Proofs.Yteimienhaodfcaa
