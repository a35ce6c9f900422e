/-
  No cell of these rows narrows 'for every input' (looked for: loops, veiled, ifaces, maps, wideKeys, modest, calm, conditions, laid).
  DERIVED. THE GIVEN ROWS OF THIS SEAT. 5 by the template 'for every input the law returns true; each argument reads behind the call as it read before'; 0 by the template 'total and deterministic' (their statements: YtaiphfmfpedaaaaTotals.lean).
  GIVEN WITH THE SEED: the statements are not yours to turn. If you find one false, say at which input.
  Laid BY PROGRAM, IN A SANDBOX (cutbox-rows.mjs): the forced cells as the released guide's own fill.sh prints them over the translation 6eadcce322d68522… (all of the seat's roots in one cut). By AI agents, Wed Nov 11 2026. No macro, syntax, notation, axiom, sorry.
-/
import Derived.Test.YtaiphfmfpedaaaaChecked
import GoSem.Claim
import GoSem.ClaimJoined
import GoSem.ClaimMapViews
import Derived.JoinedTies
import Derived.KernelRfl
namespace Go.Proofs.Ytaiphfmfpedaaaa
/- THE CELL 'sum', in the pinned program and in every row, IS THE sha256 OF THE DUMP (.gsa) THAT YtaiphfmfpedaaaaProg.lean LOADS. Nothing in Lean hashes anything: it is a label: what it is worth is what the hold of that sum in a sandbox is worth. -/
noncomputable def Try.pinned : Pinned := { name := "ytaiphfmfpedaaaa", sum := "6eadcce322d68522b43c6fadafa6a9fa5b5c10d70be8d7141646c190d9cd6d46", checked := Try.checked }
namespace Rows
def none {H : Type} : Left H := { results := [], args := [] }

/-- 'mapmakerlaw05.SetsBuild': WHATEVER THE INPUT: true; the input reads as it did. -/
def setsBuildSpec : ChangeSpec := { name := "setsBuild", fn := fun _ => fun
  | [d1, d2] => { results := [.lit (.bool true)], args := [d1, d2] }
  | _ => none }
def setsBuildRow : OpenClaim := { program := "ytaiphfmfpedaaaa", sum := "6eadcce322d68522b43c6fadafa6a9fa5b5c10d70be8d7141646c190d9cd6d46", func := "mapmaker/mapmakerlaw05.SetsBuild", spec := "setsBuild", unfollowed := true, recurses := true, apart := false }
def SetsBuildSaid : Prop := setsBuildRow.holds Try.pinned (OpenSpec.ofChange setsBuildSpec)

/-- ITS FALSE NEIGHBOUR: 'it returns false'. Refute it at one input. -/
def setsBuildWrong : ChangeSpec := { name := "setsBuild", fn := fun _ => fun
  | [d1, d2] => { results := [.lit (.bool false)], args := [d1, d2] }
  | _ => none }
def SetsBuildWrongFalsely : Prop := setsBuildRow.holds Try.pinned (OpenSpec.ofChange setsBuildWrong)

/-- 'mapmakerlaw05.SetsCompare': WHATEVER THE INPUT: true; the input reads as it did. -/
def setsCompareSpec : ChangeSpec := { name := "setsCompare", fn := fun _ => fun
  | [d1, d2] => { results := [.lit (.bool true)], args := [d1, d2] }
  | _ => none }
def setsCompareRow : OpenClaim := { program := "ytaiphfmfpedaaaa", sum := "6eadcce322d68522b43c6fadafa6a9fa5b5c10d70be8d7141646c190d9cd6d46", func := "mapmaker/mapmakerlaw05.SetsCompare", spec := "setsCompare", unfollowed := true, recurses := true, apart := false }
def SetsCompareSaid : Prop := setsCompareRow.holds Try.pinned (OpenSpec.ofChange setsCompareSpec)

/-- ITS FALSE NEIGHBOUR: 'it returns false'. Refute it at one input. -/
def setsCompareWrong : ChangeSpec := { name := "setsCompare", fn := fun _ => fun
  | [d1, d2] => { results := [.lit (.bool false)], args := [d1, d2] }
  | _ => none }
def SetsCompareWrongFalsely : Prop := setsCompareRow.holds Try.pinned (OpenSpec.ofChange setsCompareWrong)

/-- 'mapmakerlaw05.SetsOrder': WHATEVER THE INPUT: true; the input reads as it did. -/
def setsOrderSpec : ChangeSpec := { name := "setsOrder", fn := fun _ => fun
  | [d1, d2] => { results := [.lit (.bool true)], args := [d1, d2] }
  | _ => none }
def setsOrderRow : OpenClaim := { program := "ytaiphfmfpedaaaa", sum := "6eadcce322d68522b43c6fadafa6a9fa5b5c10d70be8d7141646c190d9cd6d46", func := "mapmaker/mapmakerlaw05.SetsOrder", spec := "setsOrder", unfollowed := true, recurses := true, apart := false }
def SetsOrderSaid : Prop := setsOrderRow.holds Try.pinned (OpenSpec.ofChange setsOrderSpec)

/-- ITS FALSE NEIGHBOUR: 'it returns false'. Refute it at one input. -/
def setsOrderWrong : ChangeSpec := { name := "setsOrder", fn := fun _ => fun
  | [d1, d2] => { results := [.lit (.bool false)], args := [d1, d2] }
  | _ => none }
def SetsOrderWrongFalsely : Prop := setsOrderRow.holds Try.pinned (OpenSpec.ofChange setsOrderWrong)

/-- 'mapmakerlaw05.SetsCombine': WHATEVER THE INPUT: true; the input reads as it did. -/
def setsCombineSpec : ChangeSpec := { name := "setsCombine", fn := fun _ => fun
  | [d1, d2] => { results := [.lit (.bool true)], args := [d1, d2] }
  | _ => none }
def setsCombineRow : OpenClaim := { program := "ytaiphfmfpedaaaa", sum := "6eadcce322d68522b43c6fadafa6a9fa5b5c10d70be8d7141646c190d9cd6d46", func := "mapmaker/mapmakerlaw05.SetsCombine", spec := "setsCombine", unfollowed := true, recurses := true, apart := false }
def SetsCombineSaid : Prop := setsCombineRow.holds Try.pinned (OpenSpec.ofChange setsCombineSpec)

/-- ITS FALSE NEIGHBOUR: 'it returns false'. Refute it at one input. -/
def setsCombineWrong : ChangeSpec := { name := "setsCombine", fn := fun _ => fun
  | [d1, d2] => { results := [.lit (.bool false)], args := [d1, d2] }
  | _ => none }
def SetsCombineWrongFalsely : Prop := setsCombineRow.holds Try.pinned (OpenSpec.ofChange setsCombineWrong)

/-- 'mapmakerlaw05.SetsLaws': WHATEVER THE INPUT: true; the input reads as it did. -/
def setsLawsSpec : ChangeSpec := { name := "setsLaws", fn := fun _ => fun
  | [d1, d2, d3] => { results := [.lit (.bool true)], args := [d1, d2, d3] }
  | _ => none }
def setsLawsRow : OpenClaim := { program := "ytaiphfmfpedaaaa", sum := "6eadcce322d68522b43c6fadafa6a9fa5b5c10d70be8d7141646c190d9cd6d46", func := "mapmaker/mapmakerlaw05.SetsLaws", spec := "setsLaws", unfollowed := true, recurses := true, apart := false }
def SetsLawsSaid : Prop := setsLawsRow.holds Try.pinned (OpenSpec.ofChange setsLawsSpec)

/-- ITS FALSE NEIGHBOUR: 'it returns false'. Refute it at one input. -/
def setsLawsWrong : ChangeSpec := { name := "setsLaws", fn := fun _ => fun
  | [d1, d2, d3] => { results := [.lit (.bool false)], args := [d1, d2, d3] }
  | _ => none }
def SetsLawsWrongFalsely : Prop := setsLawsRow.holds Try.pinned (OpenSpec.ofChange setsLawsWrong)

/- THE SECOND FORM. 'bulk': how many values and letters a reading holds, each counted each time it is reached (what is shared counts as often as it is met; a slice's spare places count too). A statement '..UptoSaid' is the law's where the arguments, and the package variables that the reading takes, are together of bulk at most 1048576: NARROWER than '..Said'. Prove '..Said' where nothing that the law and all that it calls make is longer than what came in: it says more and counts as full. Else prove '..UptoSaid'. A law counts once. -/
mutual
def uptoBulk {H : Type} : DataW H → Nat
  | .lit (.string bytes) => bytes.length + 1
  | .lit _ => 1
  | .nil => 1
  | .ptr d => uptoBulk d + 1
  | .slice elems spare => uptoBulkAll elems + uptoBulkAll spare + 1
  | .agg parts => uptoBulkAll parts + 1
  | .iface _ d => uptoBulk d + 1
  | .map entries => uptoBulkEntries entries + 1
  | .held _ => 1
def uptoBulkAll {H : Type} : List (DataW H) → Nat
  | [] => 0
  | d :: r => uptoBulk d + uptoBulkAll r
def uptoBulkEntries {H : Type} : List (Lit × DataW H) → Nat
  | [] => 0
  | x :: r => uptoBulkEntry x + uptoBulkEntries r
def uptoBulkEntry {H : Type} : Lit × DataW H → Nat
  | (.string bytes, d) => bytes.length + uptoBulk d + 1
  | (_, d) => uptoBulk d + 1
 end
def uptoSmall : (H : Type) → List (DataW H) → Bool := fun _ ds => decide (uptoBulkAll ds ≤ 1048576)
def OpenSpec.upto (s : _root_.Go.ChangeSpec) : _root_.Go.OpenSpec := { _root_.Go.OpenSpec.ofChange s with cond := some uptoSmall }

/-- 'mapmakerlaw05.SetsBuild', WHERE WHAT IT READS IS OF BULK AT MOST 1048576: true; the input reads as it did. -/
def setsBuildUptoRow : OpenClaim := { program := "ytaiphfmfpedaaaa", sum := "6eadcce322d68522b43c6fadafa6a9fa5b5c10d70be8d7141646c190d9cd6d46", func := "mapmaker/mapmakerlaw05.SetsBuild", spec := "setsBuild", unfollowed := true, recurses := true, apart := false, narrowed := true }
def SetsBuildUptoSaid : Prop := setsBuildUptoRow.holds Try.pinned (OpenSpec.upto setsBuildSpec)

/-- 'mapmakerlaw05.SetsCompare', WHERE WHAT IT READS IS OF BULK AT MOST 1048576: true; the input reads as it did. -/
def setsCompareUptoRow : OpenClaim := { program := "ytaiphfmfpedaaaa", sum := "6eadcce322d68522b43c6fadafa6a9fa5b5c10d70be8d7141646c190d9cd6d46", func := "mapmaker/mapmakerlaw05.SetsCompare", spec := "setsCompare", unfollowed := true, recurses := true, apart := false, narrowed := true }
def SetsCompareUptoSaid : Prop := setsCompareUptoRow.holds Try.pinned (OpenSpec.upto setsCompareSpec)

/-- 'mapmakerlaw05.SetsOrder', WHERE WHAT IT READS IS OF BULK AT MOST 1048576: true; the input reads as it did. -/
def setsOrderUptoRow : OpenClaim := { program := "ytaiphfmfpedaaaa", sum := "6eadcce322d68522b43c6fadafa6a9fa5b5c10d70be8d7141646c190d9cd6d46", func := "mapmaker/mapmakerlaw05.SetsOrder", spec := "setsOrder", unfollowed := true, recurses := true, apart := false, narrowed := true }
def SetsOrderUptoSaid : Prop := setsOrderUptoRow.holds Try.pinned (OpenSpec.upto setsOrderSpec)

/-- 'mapmakerlaw05.SetsCombine', WHERE WHAT IT READS IS OF BULK AT MOST 1048576: true; the input reads as it did. -/
def setsCombineUptoRow : OpenClaim := { program := "ytaiphfmfpedaaaa", sum := "6eadcce322d68522b43c6fadafa6a9fa5b5c10d70be8d7141646c190d9cd6d46", func := "mapmaker/mapmakerlaw05.SetsCombine", spec := "setsCombine", unfollowed := true, recurses := true, apart := false, narrowed := true }
def SetsCombineUptoSaid : Prop := setsCombineUptoRow.holds Try.pinned (OpenSpec.upto setsCombineSpec)

/-- 'mapmakerlaw05.SetsLaws', WHERE WHAT IT READS IS OF BULK AT MOST 1048576: true; the input reads as it did. -/
def setsLawsUptoRow : OpenClaim := { program := "ytaiphfmfpedaaaa", sum := "6eadcce322d68522b43c6fadafa6a9fa5b5c10d70be8d7141646c190d9cd6d46", func := "mapmaker/mapmakerlaw05.SetsLaws", spec := "setsLaws", unfollowed := true, recurses := true, apart := false, narrowed := true }
def SetsLawsUptoSaid : Prop := setsLawsUptoRow.holds Try.pinned (OpenSpec.upto setsLawsSpec)

end Rows
end Go.Proofs.Ytaiphfmfpedaaaa
