/-
  No cell of these rows narrows 'for every input' (looked for: loops, veiled, ifaces, maps, wideKeys, modest, calm, conditions, laid).
  DERIVED. THE GIVEN ROWS OF THIS SEAT. 12 by the template 'for every input the law returns true; each argument reads behind the call as it read before'; 0 by the template 'total and deterministic' (their statements: YtndeagphchnokaaTotals.lean).
  GIVEN WITH THE SEED: the statements are not yours to turn. If you find one false, say at which input.
  Laid BY PROGRAM, IN A SANDBOX (cutbox-rows.mjs): the forced cells as the released guide's own fill.sh prints them over the translation 2921f8870c317e12… (all of the seat's roots in one cut). By AI agents, Wed Nov 11 2026. No macro, syntax, notation, axiom, sorry.
-/
import Derived.Test.YtndeagphchnokaaChecked
import GoSem.Claim
import GoSem.ClaimJoined
import GoSem.ClaimMapViews
import Derived.JoinedTies
import Derived.KernelRfl
namespace Go.Proofs.Ytndeagphchnokaa
/- THE CELL 'sum', in the pinned program and in every row, IS THE sha256 OF THE DUMP (.gsa) THAT YtndeagphchnokaaProg.lean LOADS. Nothing in Lean hashes anything: it is a label: what it is worth is what the hold of that sum in a sandbox is worth. -/
noncomputable def Try.pinned : Pinned := { name := "ytndeagphchnokaa", sum := "2921f8870c317e121ba427f1b48d1f51d46a8ee9c57cbbfe4ad40a4abb468ae0", checked := Try.checked }
namespace Rows
def none {H : Type} : Left H := { results := [], args := [] }

/-- 'klaxonlaw03.PageBytes': WHATEVER THE INPUT: true; the input reads as it did. -/
def pageBytesSpec : ChangeSpec := { name := "pageBytes", fn := fun _ => fun
  | [d1, d2, d3] => { results := [.lit (.bool true)], args := [d1, d2, d3] }
  | _ => none }
def pageBytesRow : OpenClaim := { program := "ytndeagphchnokaa", sum := "2921f8870c317e121ba427f1b48d1f51d46a8ee9c57cbbfe4ad40a4abb468ae0", func := "klaxon/klaxonlaw03.PageBytes", spec := "pageBytes", apart := false }
def PageBytesSaid : Prop := pageBytesRow.holds Try.pinned (OpenSpec.ofChange pageBytesSpec)

/-- ITS FALSE NEIGHBOUR: 'it returns false'. Refute it at one input. -/
def pageBytesWrong : ChangeSpec := { name := "pageBytes", fn := fun _ => fun
  | [d1, d2, d3] => { results := [.lit (.bool false)], args := [d1, d2, d3] }
  | _ => none }
def PageBytesWrongFalsely : Prop := pageBytesRow.holds Try.pinned (OpenSpec.ofChange pageBytesWrong)

/-- 'klaxonlaw03.PageBack': WHATEVER THE INPUT: true; the input reads as it did. -/
def pageBackSpec : ChangeSpec := { name := "pageBack", fn := fun _ => fun
  | [d1, d2, d3] => { results := [.lit (.bool true)], args := [d1, d2, d3] }
  | _ => none }
def pageBackRow : OpenClaim := { program := "ytndeagphchnokaa", sum := "2921f8870c317e121ba427f1b48d1f51d46a8ee9c57cbbfe4ad40a4abb468ae0", func := "klaxon/klaxonlaw03.PageBack", spec := "pageBack", apart := false }
def PageBackSaid : Prop := pageBackRow.holds Try.pinned (OpenSpec.ofChange pageBackSpec)

/-- ITS FALSE NEIGHBOUR: 'it returns false'. Refute it at one input. -/
def pageBackWrong : ChangeSpec := { name := "pageBack", fn := fun _ => fun
  | [d1, d2, d3] => { results := [.lit (.bool false)], args := [d1, d2, d3] }
  | _ => none }
def PageBackWrongFalsely : Prop := pageBackRow.holds Try.pinned (OpenSpec.ofChange pageBackWrong)

/-- 'klaxonlaw03.PageTurned': WHATEVER THE INPUT: true; the input reads as it did. -/
def pageTurnedSpec : ChangeSpec := { name := "pageTurned", fn := fun _ => fun
  | [d1, d2, d3, d4] => { results := [.lit (.bool true)], args := [d1, d2, d3, d4] }
  | _ => none }
def pageTurnedRow : OpenClaim := { program := "ytndeagphchnokaa", sum := "2921f8870c317e121ba427f1b48d1f51d46a8ee9c57cbbfe4ad40a4abb468ae0", func := "klaxon/klaxonlaw03.PageTurned", spec := "pageTurned", apart := false }
def PageTurnedSaid : Prop := pageTurnedRow.holds Try.pinned (OpenSpec.ofChange pageTurnedSpec)

/-- ITS FALSE NEIGHBOUR: 'it returns false'. Refute it at one input. -/
def pageTurnedWrong : ChangeSpec := { name := "pageTurned", fn := fun _ => fun
  | [d1, d2, d3, d4] => { results := [.lit (.bool false)], args := [d1, d2, d3, d4] }
  | _ => none }
def PageTurnedWrongFalsely : Prop := pageTurnedRow.holds Try.pinned (OpenSpec.ofChange pageTurnedWrong)

/-- 'klaxonlaw03.PageRooms': WHATEVER THE INPUT: true; the input reads as it did. -/
def pageRoomsSpec : ChangeSpec := { name := "pageRooms", fn := fun _ => fun
  | [d1, d2] => { results := [.lit (.bool true)], args := [d1, d2] }
  | _ => none }
def pageRoomsRow : OpenClaim := { program := "ytndeagphchnokaa", sum := "2921f8870c317e121ba427f1b48d1f51d46a8ee9c57cbbfe4ad40a4abb468ae0", func := "klaxon/klaxonlaw03.PageRooms", spec := "pageRooms", apart := false }
def PageRoomsSaid : Prop := pageRoomsRow.holds Try.pinned (OpenSpec.ofChange pageRoomsSpec)

/-- ITS FALSE NEIGHBOUR: 'it returns false'. Refute it at one input. -/
def pageRoomsWrong : ChangeSpec := { name := "pageRooms", fn := fun _ => fun
  | [d1, d2] => { results := [.lit (.bool false)], args := [d1, d2] }
  | _ => none }
def PageRoomsWrongFalsely : Prop := pageRoomsRow.holds Try.pinned (OpenSpec.ofChange pageRoomsWrong)

/-- 'klaxonlaw03.PageNil': WHATEVER THE INPUT: true; the input reads as it did. -/
def pageNilSpec : ChangeSpec := { name := "pageNil", fn := fun _ => fun
  | [d1, d2, d3] => { results := [.lit (.bool true)], args := [d1, d2, d3] }
  | _ => none }
def pageNilRow : OpenClaim := { program := "ytndeagphchnokaa", sum := "2921f8870c317e121ba427f1b48d1f51d46a8ee9c57cbbfe4ad40a4abb468ae0", func := "klaxon/klaxonlaw03.PageNil", spec := "pageNil", unfollowed := true, recurses := true, apart := false }
def PageNilSaid : Prop := pageNilRow.holds Try.pinned (OpenSpec.ofChange pageNilSpec)

/-- ITS FALSE NEIGHBOUR: 'it returns false'. Refute it at one input. -/
def pageNilWrong : ChangeSpec := { name := "pageNil", fn := fun _ => fun
  | [d1, d2, d3] => { results := [.lit (.bool false)], args := [d1, d2, d3] }
  | _ => none }
def PageNilWrongFalsely : Prop := pageNilRow.holds Try.pinned (OpenSpec.ofChange pageNilWrong)

/-- 'klaxonlaw03.PagePlays': WHATEVER THE INPUT: true; the input reads as it did. -/
def pagePlaysSpec : ChangeSpec := { name := "pagePlays", fn := fun _ => fun
  | [d1, d2, d3, d4] => { results := [.lit (.bool true)], args := [d1, d2, d3, d4] }
  | _ => none }
def pagePlaysRow : OpenClaim := { program := "ytndeagphchnokaa", sum := "2921f8870c317e121ba427f1b48d1f51d46a8ee9c57cbbfe4ad40a4abb468ae0", func := "klaxon/klaxonlaw03.PagePlays", spec := "pagePlays", unfollowed := true, recurses := true, apart := false }
def PagePlaysSaid : Prop := pagePlaysRow.holds Try.pinned (OpenSpec.ofChange pagePlaysSpec)

/-- ITS FALSE NEIGHBOUR: 'it returns false'. Refute it at one input. -/
def pagePlaysWrong : ChangeSpec := { name := "pagePlays", fn := fun _ => fun
  | [d1, d2, d3, d4] => { results := [.lit (.bool false)], args := [d1, d2, d3, d4] }
  | _ => none }
def PagePlaysWrongFalsely : Prop := pagePlaysRow.holds Try.pinned (OpenSpec.ofChange pagePlaysWrong)

/-- 'klaxonlaw04.MetaBytes': WHATEVER THE INPUT: true; the input reads as it did. -/
def metaBytesSpec : ChangeSpec := { name := "metaBytes", fn := fun _ => fun
  | [d1, d2] => { results := [.lit (.bool true)], args := [d1, d2] }
  | _ => none }
def metaBytesRow : OpenClaim := { program := "ytndeagphchnokaa", sum := "2921f8870c317e121ba427f1b48d1f51d46a8ee9c57cbbfe4ad40a4abb468ae0", func := "klaxon/klaxonlaw04.MetaBytes", spec := "metaBytes", unfollowed := true, recurses := true, apart := false }
def MetaBytesSaid : Prop := metaBytesRow.holds Try.pinned (OpenSpec.ofChange metaBytesSpec)

/-- ITS FALSE NEIGHBOUR: 'it returns false'. Refute it at one input. -/
def metaBytesWrong : ChangeSpec := { name := "metaBytes", fn := fun _ => fun
  | [d1, d2] => { results := [.lit (.bool false)], args := [d1, d2] }
  | _ => none }
def MetaBytesWrongFalsely : Prop := metaBytesRow.holds Try.pinned (OpenSpec.ofChange metaBytesWrong)

/-- 'klaxonlaw04.MetaTorn': WHATEVER THE INPUT: true; the input reads as it did. -/
def metaTornSpec : ChangeSpec := { name := "metaTorn", fn := fun _ => fun
  | [d1, d2, d3, d4, d5] => { results := [.lit (.bool true)], args := [d1, d2, d3, d4, d5] }
  | _ => none }
def metaTornRow : OpenClaim := { program := "ytndeagphchnokaa", sum := "2921f8870c317e121ba427f1b48d1f51d46a8ee9c57cbbfe4ad40a4abb468ae0", func := "klaxon/klaxonlaw04.MetaTorn", spec := "metaTorn", unfollowed := true, recurses := true, apart := false }
def MetaTornSaid : Prop := metaTornRow.holds Try.pinned (OpenSpec.ofChange metaTornSpec)

/-- ITS FALSE NEIGHBOUR: 'it returns false'. Refute it at one input. -/
def metaTornWrong : ChangeSpec := { name := "metaTorn", fn := fun _ => fun
  | [d1, d2, d3, d4, d5] => { results := [.lit (.bool false)], args := [d1, d2, d3, d4, d5] }
  | _ => none }
def MetaTornWrongFalsely : Prop := metaTornRow.holds Try.pinned (OpenSpec.ofChange metaTornWrong)

/-- 'klaxonlaw04.MetaNil': WHATEVER THE INPUT: true; the input reads as it did. -/
def metaNilSpec : ChangeSpec := { name := "metaNil", fn := fun _ => fun
  | [d1, d2] => { results := [.lit (.bool true)], args := [d1, d2] }
  | _ => none }
def metaNilRow : OpenClaim := { program := "ytndeagphchnokaa", sum := "2921f8870c317e121ba427f1b48d1f51d46a8ee9c57cbbfe4ad40a4abb468ae0", func := "klaxon/klaxonlaw04.MetaNil", spec := "metaNil", unfollowed := true, recurses := true, apart := false }
def MetaNilSaid : Prop := metaNilRow.holds Try.pinned (OpenSpec.ofChange metaNilSpec)

/-- ITS FALSE NEIGHBOUR: 'it returns false'. Refute it at one input. -/
def metaNilWrong : ChangeSpec := { name := "metaNil", fn := fun _ => fun
  | [d1, d2] => { results := [.lit (.bool false)], args := [d1, d2] }
  | _ => none }
def MetaNilWrongFalsely : Prop := metaNilRow.holds Try.pinned (OpenSpec.ofChange metaNilWrong)

/-- 'klaxonlaw04.MetaBack': WHATEVER THE INPUT: true; the input reads as it did. -/
def metaBackSpec : ChangeSpec := { name := "metaBack", fn := fun _ => fun
  | [d1, d2, d3] => { results := [.lit (.bool true)], args := [d1, d2, d3] }
  | _ => none }
def metaBackRow : OpenClaim := { program := "ytndeagphchnokaa", sum := "2921f8870c317e121ba427f1b48d1f51d46a8ee9c57cbbfe4ad40a4abb468ae0", func := "klaxon/klaxonlaw04.MetaBack", spec := "metaBack", unfollowed := true, recurses := true, apart := false }
def MetaBackSaid : Prop := metaBackRow.holds Try.pinned (OpenSpec.ofChange metaBackSpec)

/-- ITS FALSE NEIGHBOUR: 'it returns false'. Refute it at one input. -/
def metaBackWrong : ChangeSpec := { name := "metaBack", fn := fun _ => fun
  | [d1, d2, d3] => { results := [.lit (.bool false)], args := [d1, d2, d3] }
  | _ => none }
def MetaBackWrongFalsely : Prop := metaBackRow.holds Try.pinned (OpenSpec.ofChange metaBackWrong)

/-- 'klaxonlaw04.MetaPlays': WHATEVER THE INPUT: true; the input reads as it did. -/
def metaPlaysSpec : ChangeSpec := { name := "metaPlays", fn := fun _ => fun
  | [d1, d2, d3, d4] => { results := [.lit (.bool true)], args := [d1, d2, d3, d4] }
  | _ => none }
def metaPlaysRow : OpenClaim := { program := "ytndeagphchnokaa", sum := "2921f8870c317e121ba427f1b48d1f51d46a8ee9c57cbbfe4ad40a4abb468ae0", func := "klaxon/klaxonlaw04.MetaPlays", spec := "metaPlays", unfollowed := true, recurses := true, apart := false }
def MetaPlaysSaid : Prop := metaPlaysRow.holds Try.pinned (OpenSpec.ofChange metaPlaysSpec)

/-- ITS FALSE NEIGHBOUR: 'it returns false'. Refute it at one input. -/
def metaPlaysWrong : ChangeSpec := { name := "metaPlays", fn := fun _ => fun
  | [d1, d2, d3, d4] => { results := [.lit (.bool false)], args := [d1, d2, d3, d4] }
  | _ => none }
def MetaPlaysWrongFalsely : Prop := metaPlaysRow.holds Try.pinned (OpenSpec.ofChange metaPlaysWrong)

/-- 'klaxonlaw04.MetaSwitches': WHATEVER THE INPUT: true; the input reads as it did. -/
def metaSwitchesSpec : ChangeSpec := { name := "metaSwitches", fn := fun _ => fun
  | [d] => { results := [.lit (.bool true)], args := [d] }
  | _ => none }
def metaSwitchesRow : OpenClaim := { program := "ytndeagphchnokaa", sum := "2921f8870c317e121ba427f1b48d1f51d46a8ee9c57cbbfe4ad40a4abb468ae0", func := "klaxon/klaxonlaw04.MetaSwitches", spec := "metaSwitches", unfollowed := true, recurses := true, apart := false }
def MetaSwitchesSaid : Prop := metaSwitchesRow.holds Try.pinned (OpenSpec.ofChange metaSwitchesSpec)

/-- ITS FALSE NEIGHBOUR: 'it returns false'. Refute it at one input. -/
def metaSwitchesWrong : ChangeSpec := { name := "metaSwitches", fn := fun _ => fun
  | [d] => { results := [.lit (.bool false)], args := [d] }
  | _ => none }
def MetaSwitchesWrongFalsely : Prop := metaSwitchesRow.holds Try.pinned (OpenSpec.ofChange metaSwitchesWrong)

/- THE SECOND FORM. 'bulk': how many values and letters a reading holds, each counted each time it is reached (what is shared counts as often as it is met; a slice's spare places count too). A statement '..UptoSaid' is the law's where the arguments, and the package variables that the reading takes, are together of bulk at most 1048576: NARROWER than '..Said'. Prove '..Said' where nothing that the law and all that it calls make is longer than what came in: it says more and counts as full. Else prove '..UptoSaid'. A law counts once. -/
mutual
def uptoBulk {H : Type} : DataW H → Nat
  | .lit (.string bytes) => bytes.length + 1
  | .lit _ => 1
  | .nil => 1
  | .ptr d => uptoBulk d + 1
  | .slice elems spare => uptoBulkAll elems + uptoBulkAll spare + 1
  | .agg parts => uptoBulkAll parts + 1
  | .iface _ d => uptoBulk d + 1
  | .map entries => uptoBulkEntries entries + 1
  | .held _ => 1
def uptoBulkAll {H : Type} : List (DataW H) → Nat
  | [] => 0
  | d :: r => uptoBulk d + uptoBulkAll r
def uptoBulkEntries {H : Type} : List (Lit × DataW H) → Nat
  | [] => 0
  | x :: r => uptoBulkEntry x + uptoBulkEntries r
def uptoBulkEntry {H : Type} : Lit × DataW H → Nat
  | (.string bytes, d) => bytes.length + uptoBulk d + 1
  | (_, d) => uptoBulk d + 1
 end
def uptoSmall : (H : Type) → List (DataW H) → Bool := fun _ ds => decide (uptoBulkAll ds ≤ 1048576)
def OpenSpec.upto (s : _root_.Go.ChangeSpec) : _root_.Go.OpenSpec := { _root_.Go.OpenSpec.ofChange s with cond := some uptoSmall }

/-- 'klaxonlaw03.PageBytes', WHERE WHAT IT READS IS OF BULK AT MOST 1048576: true; the input reads as it did. -/
def pageBytesUptoRow : OpenClaim := { program := "ytndeagphchnokaa", sum := "2921f8870c317e121ba427f1b48d1f51d46a8ee9c57cbbfe4ad40a4abb468ae0", func := "klaxon/klaxonlaw03.PageBytes", spec := "pageBytes", apart := false, narrowed := true }
def PageBytesUptoSaid : Prop := pageBytesUptoRow.holds Try.pinned (OpenSpec.upto pageBytesSpec)

/-- 'klaxonlaw03.PageBack', WHERE WHAT IT READS IS OF BULK AT MOST 1048576: true; the input reads as it did. -/
def pageBackUptoRow : OpenClaim := { program := "ytndeagphchnokaa", sum := "2921f8870c317e121ba427f1b48d1f51d46a8ee9c57cbbfe4ad40a4abb468ae0", func := "klaxon/klaxonlaw03.PageBack", spec := "pageBack", apart := false, narrowed := true }
def PageBackUptoSaid : Prop := pageBackUptoRow.holds Try.pinned (OpenSpec.upto pageBackSpec)

/-- 'klaxonlaw03.PageTurned', WHERE WHAT IT READS IS OF BULK AT MOST 1048576: true; the input reads as it did. -/
def pageTurnedUptoRow : OpenClaim := { program := "ytndeagphchnokaa", sum := "2921f8870c317e121ba427f1b48d1f51d46a8ee9c57cbbfe4ad40a4abb468ae0", func := "klaxon/klaxonlaw03.PageTurned", spec := "pageTurned", apart := false, narrowed := true }
def PageTurnedUptoSaid : Prop := pageTurnedUptoRow.holds Try.pinned (OpenSpec.upto pageTurnedSpec)

/-- 'klaxonlaw03.PageRooms', WHERE WHAT IT READS IS OF BULK AT MOST 1048576: true; the input reads as it did. -/
def pageRoomsUptoRow : OpenClaim := { program := "ytndeagphchnokaa", sum := "2921f8870c317e121ba427f1b48d1f51d46a8ee9c57cbbfe4ad40a4abb468ae0", func := "klaxon/klaxonlaw03.PageRooms", spec := "pageRooms", apart := false, narrowed := true }
def PageRoomsUptoSaid : Prop := pageRoomsUptoRow.holds Try.pinned (OpenSpec.upto pageRoomsSpec)

/-- 'klaxonlaw03.PageNil', WHERE WHAT IT READS IS OF BULK AT MOST 1048576: true; the input reads as it did. -/
def pageNilUptoRow : OpenClaim := { program := "ytndeagphchnokaa", sum := "2921f8870c317e121ba427f1b48d1f51d46a8ee9c57cbbfe4ad40a4abb468ae0", func := "klaxon/klaxonlaw03.PageNil", spec := "pageNil", unfollowed := true, recurses := true, apart := false, narrowed := true }
def PageNilUptoSaid : Prop := pageNilUptoRow.holds Try.pinned (OpenSpec.upto pageNilSpec)

/-- 'klaxonlaw03.PagePlays', WHERE WHAT IT READS IS OF BULK AT MOST 1048576: true; the input reads as it did. -/
def pagePlaysUptoRow : OpenClaim := { program := "ytndeagphchnokaa", sum := "2921f8870c317e121ba427f1b48d1f51d46a8ee9c57cbbfe4ad40a4abb468ae0", func := "klaxon/klaxonlaw03.PagePlays", spec := "pagePlays", unfollowed := true, recurses := true, apart := false, narrowed := true }
def PagePlaysUptoSaid : Prop := pagePlaysUptoRow.holds Try.pinned (OpenSpec.upto pagePlaysSpec)

/-- 'klaxonlaw04.MetaBytes', WHERE WHAT IT READS IS OF BULK AT MOST 1048576: true; the input reads as it did. -/
def metaBytesUptoRow : OpenClaim := { program := "ytndeagphchnokaa", sum := "2921f8870c317e121ba427f1b48d1f51d46a8ee9c57cbbfe4ad40a4abb468ae0", func := "klaxon/klaxonlaw04.MetaBytes", spec := "metaBytes", unfollowed := true, recurses := true, apart := false, narrowed := true }
def MetaBytesUptoSaid : Prop := metaBytesUptoRow.holds Try.pinned (OpenSpec.upto metaBytesSpec)

/-- 'klaxonlaw04.MetaTorn', WHERE WHAT IT READS IS OF BULK AT MOST 1048576: true; the input reads as it did. -/
def metaTornUptoRow : OpenClaim := { program := "ytndeagphchnokaa", sum := "2921f8870c317e121ba427f1b48d1f51d46a8ee9c57cbbfe4ad40a4abb468ae0", func := "klaxon/klaxonlaw04.MetaTorn", spec := "metaTorn", unfollowed := true, recurses := true, apart := false, narrowed := true }
def MetaTornUptoSaid : Prop := metaTornUptoRow.holds Try.pinned (OpenSpec.upto metaTornSpec)

/-- 'klaxonlaw04.MetaNil', WHERE WHAT IT READS IS OF BULK AT MOST 1048576: true; the input reads as it did. -/
def metaNilUptoRow : OpenClaim := { program := "ytndeagphchnokaa", sum := "2921f8870c317e121ba427f1b48d1f51d46a8ee9c57cbbfe4ad40a4abb468ae0", func := "klaxon/klaxonlaw04.MetaNil", spec := "metaNil", unfollowed := true, recurses := true, apart := false, narrowed := true }
def MetaNilUptoSaid : Prop := metaNilUptoRow.holds Try.pinned (OpenSpec.upto metaNilSpec)

/-- 'klaxonlaw04.MetaBack', WHERE WHAT IT READS IS OF BULK AT MOST 1048576: true; the input reads as it did. -/
def metaBackUptoRow : OpenClaim := { program := "ytndeagphchnokaa", sum := "2921f8870c317e121ba427f1b48d1f51d46a8ee9c57cbbfe4ad40a4abb468ae0", func := "klaxon/klaxonlaw04.MetaBack", spec := "metaBack", unfollowed := true, recurses := true, apart := false, narrowed := true }
def MetaBackUptoSaid : Prop := metaBackUptoRow.holds Try.pinned (OpenSpec.upto metaBackSpec)

/-- 'klaxonlaw04.MetaPlays', WHERE WHAT IT READS IS OF BULK AT MOST 1048576: true; the input reads as it did. -/
def metaPlaysUptoRow : OpenClaim := { program := "ytndeagphchnokaa", sum := "2921f8870c317e121ba427f1b48d1f51d46a8ee9c57cbbfe4ad40a4abb468ae0", func := "klaxon/klaxonlaw04.MetaPlays", spec := "metaPlays", unfollowed := true, recurses := true, apart := false, narrowed := true }
def MetaPlaysUptoSaid : Prop := metaPlaysUptoRow.holds Try.pinned (OpenSpec.upto metaPlaysSpec)

/-- 'klaxonlaw04.MetaSwitches', WHERE WHAT IT READS IS OF BULK AT MOST 1048576: true; the input reads as it did. -/
def metaSwitchesUptoRow : OpenClaim := { program := "ytndeagphchnokaa", sum := "2921f8870c317e121ba427f1b48d1f51d46a8ee9c57cbbfe4ad40a4abb468ae0", func := "klaxon/klaxonlaw04.MetaSwitches", spec := "metaSwitches", unfollowed := true, recurses := true, apart := false, narrowed := true }
def MetaSwitchesUptoSaid : Prop := metaSwitchesUptoRow.holds Try.pinned (OpenSpec.upto metaSwitchesSpec)

end Rows
end Go.Proofs.Ytndeagphchnokaa
