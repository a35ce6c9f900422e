/-
  NARROWER THAN 'FOR EVERY INPUT', by the rows' own cells (each row's printed sentence says how): CmdsEncodes: laid · CmdsDecodes: laid · CmdsRoundTrip: laid · CmdsInverse: laid.
  DERIVED. THE GIVEN ROWS OF THIS SEAT. 4 by the template 'for every input the law returns true; each argument reads behind the call as it read before'; 0 by the template 'total and deterministic' (their statements: YtopapknfpoandaaDoorTotals.lean).
  GIVEN WITH THE SEED: the statements are not yours to turn. If you find one false, say at which input.
  Laid BY PROGRAM, IN A SANDBOX (cutbox-rows.mjs): the forced cells as the released guide's own fill.sh prints them over the translation 44e2c33301cc46c0… (all of the seat's roots in one cut). By AI agents, Wed Nov 11 2026. No macro, syntax, notation, axiom, sorry.
-/
import Derived.Test.YtopapknfpoandaaDoorChecked
import GoSem.Claim
import GoSem.ClaimJoined
import GoSem.ClaimMapViews
import Derived.JoinedTies
import Derived.KernelRfl
namespace Go.Proofs.YtopapknfpoandaaDoor
/- THE CELL 'sum', in the pinned program and in every row, IS THE sha256 OF THE DUMP (.gsa) THAT YtopapknfpoandaaDoorProg.lean LOADS. Nothing in Lean hashes anything: it is a label: what it is worth is what the hold of that sum in a sandbox is worth. -/
noncomputable def Tryd.pinned : Pinned := { name := "ytopapknfpoandaadoor", sum := "44e2c33301cc46c0b245bda0aaddf55d875f03d12ab28a5e3c8d83153881f305", checked := Tryd.checked }
namespace Rows
def none {H : Type} : Left H := { results := [], args := [] }

/- WHAT THE LISTED PACKAGE-LEVEL VARIABLES READ AS WHEN THE CALL BEGINS. Each datum BY PROGRAM (the guide's laid-datum.mjs) off the statement by which the dump's own 'gosem.cut.vars' lays the variable. In a bare row this is a premise. The card (YtopapknfpoandaaDoorCards.lean) ties it to the program's text. -/
def laid_mapmaker_cmds_least {H : Type} : DataW H := .agg [.lit (.int .i64 0), .lit (.int .i64 1), .lit (.int .i64 2), .lit (.int .i64 3)]

/-- 'mapmakerlaw30.CmdsEncodes': WHATEVER THE INPUT: true; the input reads as it did. -/
def cmdsEncodesSpec : ChangeSpec := { name := "cmdsEncodes", fn := fun _ => fun
  | [d] => { results := [.lit (.bool true)], args := [d] }
  | _ => none }
def cmdsEncodesRow : OpenClaim := { program := "ytopapknfpoandaadoor", sum := "44e2c33301cc46c0b245bda0aaddf55d875f03d12ab28a5e3c8d83153881f305", func := "mapmaker/mapmakerlaw30.CmdsEncodes", spec := "cmdsEncodes", named := ["mapmaker/cmds.least"], apart := false, laid := [("mapmaker/cmds.least", laid_mapmaker_cmds_least)] }
def CmdsEncodesSaid : Prop := cmdsEncodesRow.holds Tryd.pinned (OpenSpec.ofChange cmdsEncodesSpec)

/-- ITS FALSE NEIGHBOUR: 'it returns false'. Refute it at one input. -/
def cmdsEncodesWrong : ChangeSpec := { name := "cmdsEncodes", fn := fun _ => fun
  | [d] => { results := [.lit (.bool false)], args := [d] }
  | _ => none }
def CmdsEncodesWrongFalsely : Prop := cmdsEncodesRow.holds Tryd.pinned (OpenSpec.ofChange cmdsEncodesWrong)

/-- 'mapmakerlaw30.CmdsDecodes': WHATEVER THE INPUT: true; the input reads as it did. -/
def cmdsDecodesSpec : ChangeSpec := { name := "cmdsDecodes", fn := fun _ => fun
  | [d1, d2] => { results := [.lit (.bool true)], args := [d1, d2] }
  | _ => none }
def cmdsDecodesRow : OpenClaim := { program := "ytopapknfpoandaadoor", sum := "44e2c33301cc46c0b245bda0aaddf55d875f03d12ab28a5e3c8d83153881f305", func := "mapmaker/mapmakerlaw30.CmdsDecodes", spec := "cmdsDecodes", named := ["mapmaker/cmds.least"], apart := false, laid := [("mapmaker/cmds.least", laid_mapmaker_cmds_least)] }
def CmdsDecodesSaid : Prop := cmdsDecodesRow.holds Tryd.pinned (OpenSpec.ofChange cmdsDecodesSpec)

/-- ITS FALSE NEIGHBOUR: 'it returns false'. Refute it at one input. -/
def cmdsDecodesWrong : ChangeSpec := { name := "cmdsDecodes", fn := fun _ => fun
  | [d1, d2] => { results := [.lit (.bool false)], args := [d1, d2] }
  | _ => none }
def CmdsDecodesWrongFalsely : Prop := cmdsDecodesRow.holds Tryd.pinned (OpenSpec.ofChange cmdsDecodesWrong)

/-- 'mapmakerlaw30.CmdsRoundTrip': WHATEVER THE INPUT: true; the input reads as it did. -/
def cmdsRoundTripSpec : ChangeSpec := { name := "cmdsRoundTrip", fn := fun _ => fun
  | [d] => { results := [.lit (.bool true)], args := [d] }
  | _ => none }
def cmdsRoundTripRow : OpenClaim := { program := "ytopapknfpoandaadoor", sum := "44e2c33301cc46c0b245bda0aaddf55d875f03d12ab28a5e3c8d83153881f305", func := "mapmaker/mapmakerlaw30.CmdsRoundTrip", spec := "cmdsRoundTrip", named := ["mapmaker/cmds.least"], apart := false, laid := [("mapmaker/cmds.least", laid_mapmaker_cmds_least)] }
def CmdsRoundTripSaid : Prop := cmdsRoundTripRow.holds Tryd.pinned (OpenSpec.ofChange cmdsRoundTripSpec)

/-- ITS FALSE NEIGHBOUR: 'it returns false'. Refute it at one input. -/
def cmdsRoundTripWrong : ChangeSpec := { name := "cmdsRoundTrip", fn := fun _ => fun
  | [d] => { results := [.lit (.bool false)], args := [d] }
  | _ => none }
def CmdsRoundTripWrongFalsely : Prop := cmdsRoundTripRow.holds Tryd.pinned (OpenSpec.ofChange cmdsRoundTripWrong)

/-- 'mapmakerlaw30.CmdsInverse': WHATEVER THE INPUT: true; the input reads as it did. -/
def cmdsInverseSpec : ChangeSpec := { name := "cmdsInverse", fn := fun _ => fun
  | [d1, d2] => { results := [.lit (.bool true)], args := [d1, d2] }
  | _ => none }
def cmdsInverseRow : OpenClaim := { program := "ytopapknfpoandaadoor", sum := "44e2c33301cc46c0b245bda0aaddf55d875f03d12ab28a5e3c8d83153881f305", func := "mapmaker/mapmakerlaw30.CmdsInverse", spec := "cmdsInverse", named := ["mapmaker/cmds.least"], apart := false, laid := [("mapmaker/cmds.least", laid_mapmaker_cmds_least)] }
def CmdsInverseSaid : Prop := cmdsInverseRow.holds Tryd.pinned (OpenSpec.ofChange cmdsInverseSpec)

/-- ITS FALSE NEIGHBOUR: 'it returns false'. Refute it at one input. -/
def cmdsInverseWrong : ChangeSpec := { name := "cmdsInverse", fn := fun _ => fun
  | [d1, d2] => { results := [.lit (.bool false)], args := [d1, d2] }
  | _ => none }
def CmdsInverseWrongFalsely : Prop := cmdsInverseRow.holds Tryd.pinned (OpenSpec.ofChange cmdsInverseWrong)

/- THE SECOND FORM. 'bulk': how many values and letters a reading holds, each counted each time it is reached (what is shared counts as often as it is met; a slice's spare places count too). A statement '..UptoSaid' is the law's where the arguments, and the package variables that the reading takes, are together of bulk at most 1048576: NARROWER than '..Said'. Prove '..Said' where nothing that the law and all that it calls make is longer than what came in: it says more and counts as full. Else prove '..UptoSaid'. A law counts once. -/
mutual
def uptoBulk {H : Type} : DataW H → Nat
  | .lit (.string bytes) => bytes.length + 1
  | .lit _ => 1
  | .nil => 1
  | .ptr d => uptoBulk d + 1
  | .slice elems spare => uptoBulkAll elems + uptoBulkAll spare + 1
  | .agg parts => uptoBulkAll parts + 1
  | .iface _ d => uptoBulk d + 1
  | .map entries => uptoBulkEntries entries + 1
  | .held _ => 1
def uptoBulkAll {H : Type} : List (DataW H) → Nat
  | [] => 0
  | d :: r => uptoBulk d + uptoBulkAll r
def uptoBulkEntries {H : Type} : List (Lit × DataW H) → Nat
  | [] => 0
  | x :: r => uptoBulkEntry x + uptoBulkEntries r
def uptoBulkEntry {H : Type} : Lit × DataW H → Nat
  | (.string bytes, d) => bytes.length + uptoBulk d + 1
  | (_, d) => uptoBulk d + 1
 end
def uptoSmall : (H : Type) → List (DataW H) → Bool := fun _ ds => decide (uptoBulkAll ds ≤ 1048576)
def OpenSpec.upto (s : _root_.Go.ChangeSpec) : _root_.Go.OpenSpec := { _root_.Go.OpenSpec.ofChange s with cond := some uptoSmall }

/-- 'mapmakerlaw30.CmdsEncodes', WHERE WHAT IT READS IS OF BULK AT MOST 1048576: true; the input reads as it did. -/
def cmdsEncodesUptoRow : OpenClaim := { program := "ytopapknfpoandaadoor", sum := "44e2c33301cc46c0b245bda0aaddf55d875f03d12ab28a5e3c8d83153881f305", func := "mapmaker/mapmakerlaw30.CmdsEncodes", spec := "cmdsEncodes", named := ["mapmaker/cmds.least"], apart := false, laid := [("mapmaker/cmds.least", laid_mapmaker_cmds_least)], narrowed := true }
def CmdsEncodesUptoSaid : Prop := cmdsEncodesUptoRow.holds Tryd.pinned (OpenSpec.upto cmdsEncodesSpec)

/-- 'mapmakerlaw30.CmdsDecodes', WHERE WHAT IT READS IS OF BULK AT MOST 1048576: true; the input reads as it did. -/
def cmdsDecodesUptoRow : OpenClaim := { program := "ytopapknfpoandaadoor", sum := "44e2c33301cc46c0b245bda0aaddf55d875f03d12ab28a5e3c8d83153881f305", func := "mapmaker/mapmakerlaw30.CmdsDecodes", spec := "cmdsDecodes", named := ["mapmaker/cmds.least"], apart := false, laid := [("mapmaker/cmds.least", laid_mapmaker_cmds_least)], narrowed := true }
def CmdsDecodesUptoSaid : Prop := cmdsDecodesUptoRow.holds Tryd.pinned (OpenSpec.upto cmdsDecodesSpec)

/-- 'mapmakerlaw30.CmdsRoundTrip', WHERE WHAT IT READS IS OF BULK AT MOST 1048576: true; the input reads as it did. -/
def cmdsRoundTripUptoRow : OpenClaim := { program := "ytopapknfpoandaadoor", sum := "44e2c33301cc46c0b245bda0aaddf55d875f03d12ab28a5e3c8d83153881f305", func := "mapmaker/mapmakerlaw30.CmdsRoundTrip", spec := "cmdsRoundTrip", named := ["mapmaker/cmds.least"], apart := false, laid := [("mapmaker/cmds.least", laid_mapmaker_cmds_least)], narrowed := true }
def CmdsRoundTripUptoSaid : Prop := cmdsRoundTripUptoRow.holds Tryd.pinned (OpenSpec.upto cmdsRoundTripSpec)

/-- 'mapmakerlaw30.CmdsInverse', WHERE WHAT IT READS IS OF BULK AT MOST 1048576: true; the input reads as it did. -/
def cmdsInverseUptoRow : OpenClaim := { program := "ytopapknfpoandaadoor", sum := "44e2c33301cc46c0b245bda0aaddf55d875f03d12ab28a5e3c8d83153881f305", func := "mapmaker/mapmakerlaw30.CmdsInverse", spec := "cmdsInverse", named := ["mapmaker/cmds.least"], apart := false, laid := [("mapmaker/cmds.least", laid_mapmaker_cmds_least)], narrowed := true }
def CmdsInverseUptoSaid : Prop := cmdsInverseUptoRow.holds Tryd.pinned (OpenSpec.upto cmdsInverseSpec)

end Rows
end Go.Proofs.YtopapknfpoandaaDoor
