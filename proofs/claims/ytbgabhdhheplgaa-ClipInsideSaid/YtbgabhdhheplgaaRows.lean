/-
  No cell of these rows narrows 'for every input' (looked for: loops, veiled, ifaces, maps, wideKeys, modest, calm, conditions, laid).
  DERIVED. THE GIVEN ROWS OF THIS SEAT. 6 by the template 'for every input the law returns true; each argument reads behind the call as it read before'; 0 by the template 'total and deterministic' (their statements: YtbgabhdhheplgaaTotals.lean).
  GIVEN WITH THE SEED: the statements are not yours to turn. If you find one false, say at which input.
  Laid BY PROGRAM, IN A SANDBOX (cutbox-rows.mjs): the forced cells as the released guide's own fill.sh prints them over the translation 3a944fd0f94dd692… (all of the seat's roots in one cut). By AI agents, Wed Nov 11 2026. No macro, syntax, notation, axiom, sorry.
-/
import Derived.Test.YtbgabhdhheplgaaChecked
import GoSem.Claim
import GoSem.ClaimJoined
import GoSem.ClaimMapViews
import Derived.JoinedTies
import Derived.KernelRfl
namespace Go.Proofs.Ytbgabhdhheplgaa
/- THE CELL 'sum', in the pinned program and in every row, IS THE sha256 OF THE DUMP (.gsa) THAT YtbgabhdhheplgaaProg.lean LOADS. Nothing in Lean hashes anything: it is a label: what it is worth is what the hold of that sum in a sandbox is worth. -/
noncomputable def Try.pinned : Pinned := { name := "ytbgabhdhheplgaa", sum := "3a944fd0f94dd692dca2df16d206e044438ff120c358f2b31272906ed46c6db7", checked := Try.checked }
namespace Rows
def none {H : Type} : Left H := { results := [], args := [] }

/-- 'mapmakerlaw12.ClipTidies': WHATEVER THE INPUT: true; the input reads as it did. -/
def clipTidiesSpec : ChangeSpec := { name := "clipTidies", fn := fun _ => fun
  | [d] => { results := [.lit (.bool true)], args := [d] }
  | _ => none }
def clipTidiesRow : OpenClaim := { program := "ytbgabhdhheplgaa", sum := "3a944fd0f94dd692dca2df16d206e044438ff120c358f2b31272906ed46c6db7", func := "mapmaker/mapmakerlaw12.ClipTidies", spec := "clipTidies", unfollowed := true, recurses := true, apart := false }
def ClipTidiesSaid : Prop := clipTidiesRow.holds Try.pinned (OpenSpec.ofChange clipTidiesSpec)

/-- ITS FALSE NEIGHBOUR: 'it returns false'. Refute it at one input. -/
def clipTidiesWrong : ChangeSpec := { name := "clipTidies", fn := fun _ => fun
  | [d] => { results := [.lit (.bool false)], args := [d] }
  | _ => none }
def ClipTidiesWrongFalsely : Prop := clipTidiesRow.holds Try.pinned (OpenSpec.ofChange clipTidiesWrong)

/-- 'mapmakerlaw12.ClipRings': WHATEVER THE INPUT: true; the input reads as it did. -/
def clipRingsSpec : ChangeSpec := { name := "clipRings", fn := fun _ => fun
  | [d1, d2] => { results := [.lit (.bool true)], args := [d1, d2] }
  | _ => none }
def clipRingsRow : OpenClaim := { program := "ytbgabhdhheplgaa", sum := "3a944fd0f94dd692dca2df16d206e044438ff120c358f2b31272906ed46c6db7", func := "mapmaker/mapmakerlaw12.ClipRings", spec := "clipRings", unfollowed := true, recurses := true, apart := false }
def ClipRingsSaid : Prop := clipRingsRow.holds Try.pinned (OpenSpec.ofChange clipRingsSpec)

/-- ITS FALSE NEIGHBOUR: 'it returns false'. Refute it at one input. -/
def clipRingsWrong : ChangeSpec := { name := "clipRings", fn := fun _ => fun
  | [d1, d2] => { results := [.lit (.bool false)], args := [d1, d2] }
  | _ => none }
def ClipRingsWrongFalsely : Prop := clipRingsRow.holds Try.pinned (OpenSpec.ofChange clipRingsWrong)

/-- 'mapmakerlaw12.ClipLines': WHATEVER THE INPUT: true; the input reads as it did. -/
def clipLinesSpec : ChangeSpec := { name := "clipLines", fn := fun _ => fun
  | [d1, d2] => { results := [.lit (.bool true)], args := [d1, d2] }
  | _ => none }
def clipLinesRow : OpenClaim := { program := "ytbgabhdhheplgaa", sum := "3a944fd0f94dd692dca2df16d206e044438ff120c358f2b31272906ed46c6db7", func := "mapmaker/mapmakerlaw12.ClipLines", spec := "clipLines", unfollowed := true, recurses := true, apart := false }
def ClipLinesSaid : Prop := clipLinesRow.holds Try.pinned (OpenSpec.ofChange clipLinesSpec)

/-- ITS FALSE NEIGHBOUR: 'it returns false'. Refute it at one input. -/
def clipLinesWrong : ChangeSpec := { name := "clipLines", fn := fun _ => fun
  | [d1, d2] => { results := [.lit (.bool false)], args := [d1, d2] }
  | _ => none }
def ClipLinesWrongFalsely : Prop := clipLinesRow.holds Try.pinned (OpenSpec.ofChange clipLinesWrong)

/-- 'mapmakerlaw12.ClipInside': WHATEVER THE INPUT: true; the input reads as it did. -/
def clipInsideSpec : ChangeSpec := { name := "clipInside", fn := fun _ => fun
  | [d1, d2] => { results := [.lit (.bool true)], args := [d1, d2] }
  | _ => none }
def clipInsideRow : OpenClaim := { program := "ytbgabhdhheplgaa", sum := "3a944fd0f94dd692dca2df16d206e044438ff120c358f2b31272906ed46c6db7", func := "mapmaker/mapmakerlaw12.ClipInside", spec := "clipInside", unfollowed := true, recurses := true, apart := false }
def ClipInsideSaid : Prop := clipInsideRow.holds Try.pinned (OpenSpec.ofChange clipInsideSpec)

/-- ITS FALSE NEIGHBOUR: 'it returns false'. Refute it at one input. -/
def clipInsideWrong : ChangeSpec := { name := "clipInside", fn := fun _ => fun
  | [d1, d2] => { results := [.lit (.bool false)], args := [d1, d2] }
  | _ => none }
def ClipInsideWrongFalsely : Prop := clipInsideRow.holds Try.pinned (OpenSpec.ofChange clipInsideWrong)

/-- 'mapmakerlaw12.ClipKeeps': WHATEVER THE INPUT: true; the input reads as it did. -/
def clipKeepsSpec : ChangeSpec := { name := "clipKeeps", fn := fun _ => fun
  | [d1, d2] => { results := [.lit (.bool true)], args := [d1, d2] }
  | _ => none }
def clipKeepsRow : OpenClaim := { program := "ytbgabhdhheplgaa", sum := "3a944fd0f94dd692dca2df16d206e044438ff120c358f2b31272906ed46c6db7", func := "mapmaker/mapmakerlaw12.ClipKeeps", spec := "clipKeeps", unfollowed := true, recurses := true, apart := false }
def ClipKeepsSaid : Prop := clipKeepsRow.holds Try.pinned (OpenSpec.ofChange clipKeepsSpec)

/-- ITS FALSE NEIGHBOUR: 'it returns false'. Refute it at one input. -/
def clipKeepsWrong : ChangeSpec := { name := "clipKeeps", fn := fun _ => fun
  | [d1, d2] => { results := [.lit (.bool false)], args := [d1, d2] }
  | _ => none }
def ClipKeepsWrongFalsely : Prop := clipKeepsRow.holds Try.pinned (OpenSpec.ofChange clipKeepsWrong)

/-- 'mapmakerlaw12.ClipAgain': WHATEVER THE INPUT: true; the input reads as it did. -/
def clipAgainSpec : ChangeSpec := { name := "clipAgain", fn := fun _ => fun
  | [d1, d2] => { results := [.lit (.bool true)], args := [d1, d2] }
  | _ => none }
def clipAgainRow : OpenClaim := { program := "ytbgabhdhheplgaa", sum := "3a944fd0f94dd692dca2df16d206e044438ff120c358f2b31272906ed46c6db7", func := "mapmaker/mapmakerlaw12.ClipAgain", spec := "clipAgain", unfollowed := true, recurses := true, apart := false }
def ClipAgainSaid : Prop := clipAgainRow.holds Try.pinned (OpenSpec.ofChange clipAgainSpec)

/-- ITS FALSE NEIGHBOUR: 'it returns false'. Refute it at one input. -/
def clipAgainWrong : ChangeSpec := { name := "clipAgain", fn := fun _ => fun
  | [d1, d2] => { results := [.lit (.bool false)], args := [d1, d2] }
  | _ => none }
def ClipAgainWrongFalsely : Prop := clipAgainRow.holds Try.pinned (OpenSpec.ofChange clipAgainWrong)

/- THE SECOND FORM. 'bulk': how many values and letters a reading holds, each counted each time it is reached (what is shared counts as often as it is met; a slice's spare places count too). A statement '..UptoSaid' is the law's where the arguments, and the package variables that the reading takes, are together of bulk at most 1048576: NARROWER than '..Said'. Prove '..Said' where nothing that the law and all that it calls make is longer than what came in: it says more and counts as full. Else prove '..UptoSaid'. A law counts once. -/
mutual
def uptoBulk {H : Type} : DataW H → Nat
  | .lit (.string bytes) => bytes.length + 1
  | .lit _ => 1
  | .nil => 1
  | .ptr d => uptoBulk d + 1
  | .slice elems spare => uptoBulkAll elems + uptoBulkAll spare + 1
  | .agg parts => uptoBulkAll parts + 1
  | .iface _ d => uptoBulk d + 1
  | .map entries => uptoBulkEntries entries + 1
  | .held _ => 1
def uptoBulkAll {H : Type} : List (DataW H) → Nat
  | [] => 0
  | d :: r => uptoBulk d + uptoBulkAll r
def uptoBulkEntries {H : Type} : List (Lit × DataW H) → Nat
  | [] => 0
  | x :: r => uptoBulkEntry x + uptoBulkEntries r
def uptoBulkEntry {H : Type} : Lit × DataW H → Nat
  | (.string bytes, d) => bytes.length + uptoBulk d + 1
  | (_, d) => uptoBulk d + 1
 end
def uptoSmall : (H : Type) → List (DataW H) → Bool := fun _ ds => decide (uptoBulkAll ds ≤ 1048576)
def OpenSpec.upto (s : _root_.Go.ChangeSpec) : _root_.Go.OpenSpec := { _root_.Go.OpenSpec.ofChange s with cond := some uptoSmall }

/-- 'mapmakerlaw12.ClipTidies', WHERE WHAT IT READS IS OF BULK AT MOST 1048576: true; the input reads as it did. -/
def clipTidiesUptoRow : OpenClaim := { program := "ytbgabhdhheplgaa", sum := "3a944fd0f94dd692dca2df16d206e044438ff120c358f2b31272906ed46c6db7", func := "mapmaker/mapmakerlaw12.ClipTidies", spec := "clipTidies", unfollowed := true, recurses := true, apart := false, narrowed := true }
def ClipTidiesUptoSaid : Prop := clipTidiesUptoRow.holds Try.pinned (OpenSpec.upto clipTidiesSpec)

/-- 'mapmakerlaw12.ClipRings', WHERE WHAT IT READS IS OF BULK AT MOST 1048576: true; the input reads as it did. -/
def clipRingsUptoRow : OpenClaim := { program := "ytbgabhdhheplgaa", sum := "3a944fd0f94dd692dca2df16d206e044438ff120c358f2b31272906ed46c6db7", func := "mapmaker/mapmakerlaw12.ClipRings", spec := "clipRings", unfollowed := true, recurses := true, apart := false, narrowed := true }
def ClipRingsUptoSaid : Prop := clipRingsUptoRow.holds Try.pinned (OpenSpec.upto clipRingsSpec)

/-- 'mapmakerlaw12.ClipLines', WHERE WHAT IT READS IS OF BULK AT MOST 1048576: true; the input reads as it did. -/
def clipLinesUptoRow : OpenClaim := { program := "ytbgabhdhheplgaa", sum := "3a944fd0f94dd692dca2df16d206e044438ff120c358f2b31272906ed46c6db7", func := "mapmaker/mapmakerlaw12.ClipLines", spec := "clipLines", unfollowed := true, recurses := true, apart := false, narrowed := true }
def ClipLinesUptoSaid : Prop := clipLinesUptoRow.holds Try.pinned (OpenSpec.upto clipLinesSpec)

/-- 'mapmakerlaw12.ClipInside', WHERE WHAT IT READS IS OF BULK AT MOST 1048576: true; the input reads as it did. -/
def clipInsideUptoRow : OpenClaim := { program := "ytbgabhdhheplgaa", sum := "3a944fd0f94dd692dca2df16d206e044438ff120c358f2b31272906ed46c6db7", func := "mapmaker/mapmakerlaw12.ClipInside", spec := "clipInside", unfollowed := true, recurses := true, apart := false, narrowed := true }
def ClipInsideUptoSaid : Prop := clipInsideUptoRow.holds Try.pinned (OpenSpec.upto clipInsideSpec)

/-- 'mapmakerlaw12.ClipKeeps', WHERE WHAT IT READS IS OF BULK AT MOST 1048576: true; the input reads as it did. -/
def clipKeepsUptoRow : OpenClaim := { program := "ytbgabhdhheplgaa", sum := "3a944fd0f94dd692dca2df16d206e044438ff120c358f2b31272906ed46c6db7", func := "mapmaker/mapmakerlaw12.ClipKeeps", spec := "clipKeeps", unfollowed := true, recurses := true, apart := false, narrowed := true }
def ClipKeepsUptoSaid : Prop := clipKeepsUptoRow.holds Try.pinned (OpenSpec.upto clipKeepsSpec)

/-- 'mapmakerlaw12.ClipAgain', WHERE WHAT IT READS IS OF BULK AT MOST 1048576: true; the input reads as it did. -/
def clipAgainUptoRow : OpenClaim := { program := "ytbgabhdhheplgaa", sum := "3a944fd0f94dd692dca2df16d206e044438ff120c358f2b31272906ed46c6db7", func := "mapmaker/mapmakerlaw12.ClipAgain", spec := "clipAgain", unfollowed := true, recurses := true, apart := false, narrowed := true }
def ClipAgainUptoSaid : Prop := clipAgainUptoRow.holds Try.pinned (OpenSpec.upto clipAgainSpec)

end Rows
end Go.Proofs.Ytbgabhdhheplgaa
