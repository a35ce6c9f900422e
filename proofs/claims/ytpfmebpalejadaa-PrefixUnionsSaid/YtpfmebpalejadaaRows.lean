/-
  No cell of these rows narrows 'for every input' (looked for: loops, veiled, ifaces, maps, wideKeys, modest, calm, conditions, laid).
  DERIVED. THE GIVEN ROWS OF THIS SEAT. 5 by the template 'for every input the law returns true; each argument reads behind the call as it read before'; 0 by the template 'total and deterministic' (their statements: YtpfmebpalejadaaTotals.lean).
  GIVEN WITH THE SEED: the statements are not yours to turn. If you find one false, say at which input.
  Laid BY PROGRAM, IN A SANDBOX (cutbox-rows.mjs): the forced cells as the released guide's own fill.sh prints them over the translation 02572b1515997c8e… (all of the seat's roots in one cut). By AI agents, Wed Nov 11 2026. No macro, syntax, notation, axiom, sorry.
-/
import Derived.Test.YtpfmebpalejadaaChecked
import GoSem.Claim
import GoSem.ClaimJoined
import GoSem.ClaimMapViews
import Derived.JoinedTies
import Derived.KernelRfl
namespace Go.Proofs.Ytpfmebpalejadaa
/- THE CELL 'sum', in the pinned program and in every row, IS THE sha256 OF THE DUMP (.gsa) THAT YtpfmebpalejadaaProg.lean LOADS. Nothing in Lean hashes anything: it is a label: what it is worth is what the hold of that sum in a sandbox is worth. -/
noncomputable def Try.pinned : Pinned := { name := "ytpfmebpalejadaa", sum := "02572b1515997c8ed0cb688723566182ae310fd34c9e8c728dd67686d46feb42", checked := Try.checked }
namespace Rows
def none {H : Type} : Left H := { results := [], args := [] }

/-- 'mapmakerlaw52.PrefixFinds': WHATEVER THE INPUT: true; the input reads as it did. -/
def prefixFindsSpec : ChangeSpec := { name := "prefixFinds", fn := fun _ => fun
  | [d1, d2] => { results := [.lit (.bool true)], args := [d1, d2] }
  | _ => none }
def prefixFindsRow : OpenClaim := { program := "ytpfmebpalejadaa", sum := "02572b1515997c8ed0cb688723566182ae310fd34c9e8c728dd67686d46feb42", func := "mapmaker/mapmakerlaw52.PrefixFinds", spec := "prefixFinds", unfollowed := true, recurses := true, apart := false }
def PrefixFindsSaid : Prop := prefixFindsRow.holds Try.pinned (OpenSpec.ofChange prefixFindsSpec)

/-- ITS FALSE NEIGHBOUR: 'it returns false'. Refute it at one input. -/
def prefixFindsWrong : ChangeSpec := { name := "prefixFinds", fn := fun _ => fun
  | [d1, d2] => { results := [.lit (.bool false)], args := [d1, d2] }
  | _ => none }
def PrefixFindsWrongFalsely : Prop := prefixFindsRow.holds Try.pinned (OpenSpec.ofChange prefixFindsWrong)

/-- 'mapmakerlaw52.PrefixSets': WHATEVER THE INPUT: true; the input reads as it did. -/
def prefixSetsSpec : ChangeSpec := { name := "prefixSets", fn := fun _ => fun
  | [d1, d2, d3] => { results := [.lit (.bool true)], args := [d1, d2, d3] }
  | _ => none }
def prefixSetsRow : OpenClaim := { program := "ytpfmebpalejadaa", sum := "02572b1515997c8ed0cb688723566182ae310fd34c9e8c728dd67686d46feb42", func := "mapmaker/mapmakerlaw52.PrefixSets", spec := "prefixSets", unfollowed := true, recurses := true, apart := false }
def PrefixSetsSaid : Prop := prefixSetsRow.holds Try.pinned (OpenSpec.ofChange prefixSetsSpec)

/-- ITS FALSE NEIGHBOUR: 'it returns false'. Refute it at one input. -/
def prefixSetsWrong : ChangeSpec := { name := "prefixSets", fn := fun _ => fun
  | [d1, d2, d3] => { results := [.lit (.bool false)], args := [d1, d2, d3] }
  | _ => none }
def PrefixSetsWrongFalsely : Prop := prefixSetsRow.holds Try.pinned (OpenSpec.ofChange prefixSetsWrong)

/-- 'mapmakerlaw52.PrefixUnions': WHATEVER THE INPUT: true; the input reads as it did. -/
def prefixUnionsSpec : ChangeSpec := { name := "prefixUnions", fn := fun _ => fun
  | [d1, d2] => { results := [.lit (.bool true)], args := [d1, d2] }
  | _ => none }
def prefixUnionsRow : OpenClaim := { program := "ytpfmebpalejadaa", sum := "02572b1515997c8ed0cb688723566182ae310fd34c9e8c728dd67686d46feb42", func := "mapmaker/mapmakerlaw52.PrefixUnions", spec := "prefixUnions", unfollowed := true, recurses := true, apart := false }
def PrefixUnionsSaid : Prop := prefixUnionsRow.holds Try.pinned (OpenSpec.ofChange prefixUnionsSpec)

/-- ITS FALSE NEIGHBOUR: 'it returns false'. Refute it at one input. -/
def prefixUnionsWrong : ChangeSpec := { name := "prefixUnions", fn := fun _ => fun
  | [d1, d2] => { results := [.lit (.bool false)], args := [d1, d2] }
  | _ => none }
def PrefixUnionsWrongFalsely : Prop := prefixUnionsRow.holds Try.pinned (OpenSpec.ofChange prefixUnionsWrong)

/-- 'mapmakerlaw52.PrefixOrders': WHATEVER THE INPUT: true; the input reads as it did. -/
def prefixOrdersSpec : ChangeSpec := { name := "prefixOrders", fn := fun _ => fun
  | [d1, d2, d3] => { results := [.lit (.bool true)], args := [d1, d2, d3] }
  | _ => none }
def prefixOrdersRow : OpenClaim := { program := "ytpfmebpalejadaa", sum := "02572b1515997c8ed0cb688723566182ae310fd34c9e8c728dd67686d46feb42", func := "mapmaker/mapmakerlaw52.PrefixOrders", spec := "prefixOrders", unfollowed := true, recurses := true, apart := false }
def PrefixOrdersSaid : Prop := prefixOrdersRow.holds Try.pinned (OpenSpec.ofChange prefixOrdersSpec)

/-- ITS FALSE NEIGHBOUR: 'it returns false'. Refute it at one input. -/
def prefixOrdersWrong : ChangeSpec := { name := "prefixOrders", fn := fun _ => fun
  | [d1, d2, d3] => { results := [.lit (.bool false)], args := [d1, d2, d3] }
  | _ => none }
def PrefixOrdersWrongFalsely : Prop := prefixOrdersRow.holds Try.pinned (OpenSpec.ofChange prefixOrdersWrong)

/-- 'mapmakerlaw52.PrefixNone': WHATEVER THE INPUT: true; the input reads as it did. -/
def prefixNoneSpec : ChangeSpec := { name := "prefixNone", fn := fun _ => fun
  | [d1, d2] => { results := [.lit (.bool true)], args := [d1, d2] }
  | _ => none }
def prefixNoneRow : OpenClaim := { program := "ytpfmebpalejadaa", sum := "02572b1515997c8ed0cb688723566182ae310fd34c9e8c728dd67686d46feb42", func := "mapmaker/mapmakerlaw52.PrefixNone", spec := "prefixNone", unfollowed := true, recurses := true, apart := false }
def PrefixNoneSaid : Prop := prefixNoneRow.holds Try.pinned (OpenSpec.ofChange prefixNoneSpec)

/-- ITS FALSE NEIGHBOUR: 'it returns false'. Refute it at one input. -/
def prefixNoneWrong : ChangeSpec := { name := "prefixNone", fn := fun _ => fun
  | [d1, d2] => { results := [.lit (.bool false)], args := [d1, d2] }
  | _ => none }
def PrefixNoneWrongFalsely : Prop := prefixNoneRow.holds Try.pinned (OpenSpec.ofChange prefixNoneWrong)

/- THE SECOND FORM. 'bulk': how many values and letters a reading holds, each counted each time it is reached (what is shared counts as often as it is met; a slice's spare places count too). A statement '..UptoSaid' is the law's where the arguments, and the package variables that the reading takes, are together of bulk at most 1048576: NARROWER than '..Said'. Prove '..Said' where nothing that the law and all that it calls make is longer than what came in: it says more and counts as full. Else prove '..UptoSaid'. A law counts once. -/
mutual
def uptoBulk {H : Type} : DataW H → Nat
  | .lit (.string bytes) => bytes.length + 1
  | .lit _ => 1
  | .nil => 1
  | .ptr d => uptoBulk d + 1
  | .slice elems spare => uptoBulkAll elems + uptoBulkAll spare + 1
  | .agg parts => uptoBulkAll parts + 1
  | .iface _ d => uptoBulk d + 1
  | .map entries => uptoBulkEntries entries + 1
  | .held _ => 1
def uptoBulkAll {H : Type} : List (DataW H) → Nat
  | [] => 0
  | d :: r => uptoBulk d + uptoBulkAll r
def uptoBulkEntries {H : Type} : List (Lit × DataW H) → Nat
  | [] => 0
  | x :: r => uptoBulkEntry x + uptoBulkEntries r
def uptoBulkEntry {H : Type} : Lit × DataW H → Nat
  | (.string bytes, d) => bytes.length + uptoBulk d + 1
  | (_, d) => uptoBulk d + 1
 end
def uptoSmall : (H : Type) → List (DataW H) → Bool := fun _ ds => decide (uptoBulkAll ds ≤ 1048576)
def OpenSpec.upto (s : _root_.Go.ChangeSpec) : _root_.Go.OpenSpec := { _root_.Go.OpenSpec.ofChange s with cond := some uptoSmall }

/-- 'mapmakerlaw52.PrefixFinds', WHERE WHAT IT READS IS OF BULK AT MOST 1048576: true; the input reads as it did. -/
def prefixFindsUptoRow : OpenClaim := { program := "ytpfmebpalejadaa", sum := "02572b1515997c8ed0cb688723566182ae310fd34c9e8c728dd67686d46feb42", func := "mapmaker/mapmakerlaw52.PrefixFinds", spec := "prefixFinds", unfollowed := true, recurses := true, apart := false, narrowed := true }
def PrefixFindsUptoSaid : Prop := prefixFindsUptoRow.holds Try.pinned (OpenSpec.upto prefixFindsSpec)

/-- 'mapmakerlaw52.PrefixSets', WHERE WHAT IT READS IS OF BULK AT MOST 1048576: true; the input reads as it did. -/
def prefixSetsUptoRow : OpenClaim := { program := "ytpfmebpalejadaa", sum := "02572b1515997c8ed0cb688723566182ae310fd34c9e8c728dd67686d46feb42", func := "mapmaker/mapmakerlaw52.PrefixSets", spec := "prefixSets", unfollowed := true, recurses := true, apart := false, narrowed := true }
def PrefixSetsUptoSaid : Prop := prefixSetsUptoRow.holds Try.pinned (OpenSpec.upto prefixSetsSpec)

/-- 'mapmakerlaw52.PrefixUnions', WHERE WHAT IT READS IS OF BULK AT MOST 1048576: true; the input reads as it did. -/
def prefixUnionsUptoRow : OpenClaim := { program := "ytpfmebpalejadaa", sum := "02572b1515997c8ed0cb688723566182ae310fd34c9e8c728dd67686d46feb42", func := "mapmaker/mapmakerlaw52.PrefixUnions", spec := "prefixUnions", unfollowed := true, recurses := true, apart := false, narrowed := true }
def PrefixUnionsUptoSaid : Prop := prefixUnionsUptoRow.holds Try.pinned (OpenSpec.upto prefixUnionsSpec)

/-- 'mapmakerlaw52.PrefixOrders', WHERE WHAT IT READS IS OF BULK AT MOST 1048576: true; the input reads as it did. -/
def prefixOrdersUptoRow : OpenClaim := { program := "ytpfmebpalejadaa", sum := "02572b1515997c8ed0cb688723566182ae310fd34c9e8c728dd67686d46feb42", func := "mapmaker/mapmakerlaw52.PrefixOrders", spec := "prefixOrders", unfollowed := true, recurses := true, apart := false, narrowed := true }
def PrefixOrdersUptoSaid : Prop := prefixOrdersUptoRow.holds Try.pinned (OpenSpec.upto prefixOrdersSpec)

/-- 'mapmakerlaw52.PrefixNone', WHERE WHAT IT READS IS OF BULK AT MOST 1048576: true; the input reads as it did. -/
def prefixNoneUptoRow : OpenClaim := { program := "ytpfmebpalejadaa", sum := "02572b1515997c8ed0cb688723566182ae310fd34c9e8c728dd67686d46feb42", func := "mapmaker/mapmakerlaw52.PrefixNone", spec := "prefixNone", unfollowed := true, recurses := true, apart := false, narrowed := true }
def PrefixNoneUptoSaid : Prop := prefixNoneUptoRow.holds Try.pinned (OpenSpec.upto prefixNoneSpec)

end Rows
end Go.Proofs.Ytpfmebpalejadaa
