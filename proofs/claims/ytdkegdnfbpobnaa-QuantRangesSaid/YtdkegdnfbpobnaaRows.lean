/-
  No cell of these rows narrows 'for every input' (looked for: loops, veiled, ifaces, maps, wideKeys, modest, calm, conditions, laid).
  DERIVED. THE GIVEN ROWS OF THIS SEAT. 5 by the template 'for every input the law returns true; each argument reads behind the call as it read before'; 0 by the template 'total and deterministic' (their statements: YtdkegdnfbpobnaaTotals.lean).
  GIVEN WITH THE SEED: the statements are not yours to turn. If you find one false, say at which input.
  Laid BY PROGRAM, IN A SANDBOX (cutbox-rows.mjs): the forced cells as the released guide's own fill.sh prints them over the translation dc94dfc1290b796f… (all of the seat's roots in one cut). By AI agents, Wed Nov 11 2026. No macro, syntax, notation, axiom, sorry.
-/
import Derived.Test.YtdkegdnfbpobnaaChecked
import GoSem.Claim
import GoSem.ClaimJoined
import GoSem.ClaimMapViews
import Derived.JoinedTies
import Derived.KernelRfl
namespace Go.Proofs.Ytdkegdnfbpobnaa
/- THE CELL 'sum', in the pinned program and in every row, IS THE sha256 OF THE DUMP (.gsa) THAT YtdkegdnfbpobnaaProg.lean LOADS. Nothing in Lean hashes anything: it is a label: what it is worth is what the hold of that sum in a sandbox is worth. -/
noncomputable def Try.pinned : Pinned := { name := "ytdkegdnfbpobnaa", sum := "dc94dfc1290b796f5f1251c897de9389d9fdd584f6d3d68b4ca4e5aec4dc0c46", checked := Try.checked }
namespace Rows
def none {H : Type} : Left H := { results := [], args := [] }

/-- 'mapmakerlaw29.QuantPoints': WHATEVER THE INPUT: true; the input reads as it did. -/
def quantPointsSpec : ChangeSpec := { name := "quantPoints", fn := fun _ => fun
  | [d1, d2] => { results := [.lit (.bool true)], args := [d1, d2] }
  | _ => none }
def quantPointsRow : OpenClaim := { program := "ytdkegdnfbpobnaa", sum := "dc94dfc1290b796f5f1251c897de9389d9fdd584f6d3d68b4ca4e5aec4dc0c46", func := "mapmaker/mapmakerlaw29.QuantPoints", spec := "quantPoints", unfollowed := true, recurses := true, apart := false }
def QuantPointsSaid : Prop := quantPointsRow.holds Try.pinned (OpenSpec.ofChange quantPointsSpec)

/-- ITS FALSE NEIGHBOUR: 'it returns false'. Refute it at one input. -/
def quantPointsWrong : ChangeSpec := { name := "quantPoints", fn := fun _ => fun
  | [d1, d2] => { results := [.lit (.bool false)], args := [d1, d2] }
  | _ => none }
def QuantPointsWrongFalsely : Prop := quantPointsRow.holds Try.pinned (OpenSpec.ofChange quantPointsWrong)

/-- 'mapmakerlaw29.QuantLines': WHATEVER THE INPUT: true; the input reads as it did. -/
def quantLinesSpec : ChangeSpec := { name := "quantLines", fn := fun _ => fun
  | [d1, d2] => { results := [.lit (.bool true)], args := [d1, d2] }
  | _ => none }
def quantLinesRow : OpenClaim := { program := "ytdkegdnfbpobnaa", sum := "dc94dfc1290b796f5f1251c897de9389d9fdd584f6d3d68b4ca4e5aec4dc0c46", func := "mapmaker/mapmakerlaw29.QuantLines", spec := "quantLines", unfollowed := true, recurses := true, apart := false }
def QuantLinesSaid : Prop := quantLinesRow.holds Try.pinned (OpenSpec.ofChange quantLinesSpec)

/-- ITS FALSE NEIGHBOUR: 'it returns false'. Refute it at one input. -/
def quantLinesWrong : ChangeSpec := { name := "quantLines", fn := fun _ => fun
  | [d1, d2] => { results := [.lit (.bool false)], args := [d1, d2] }
  | _ => none }
def QuantLinesWrongFalsely : Prop := quantLinesRow.holds Try.pinned (OpenSpec.ofChange quantLinesWrong)

/-- 'mapmakerlaw29.QuantInverts': WHATEVER THE INPUT: true; the input reads as it did. -/
def quantInvertsSpec : ChangeSpec := { name := "quantInverts", fn := fun _ => fun
  | [d1, d2] => { results := [.lit (.bool true)], args := [d1, d2] }
  | _ => none }
def quantInvertsRow : OpenClaim := { program := "ytdkegdnfbpobnaa", sum := "dc94dfc1290b796f5f1251c897de9389d9fdd584f6d3d68b4ca4e5aec4dc0c46", func := "mapmaker/mapmakerlaw29.QuantInverts", spec := "quantInverts", unfollowed := true, recurses := true, apart := false }
def QuantInvertsSaid : Prop := quantInvertsRow.holds Try.pinned (OpenSpec.ofChange quantInvertsSpec)

/-- ITS FALSE NEIGHBOUR: 'it returns false'. Refute it at one input. -/
def quantInvertsWrong : ChangeSpec := { name := "quantInverts", fn := fun _ => fun
  | [d1, d2] => { results := [.lit (.bool false)], args := [d1, d2] }
  | _ => none }
def QuantInvertsWrongFalsely : Prop := quantInvertsRow.holds Try.pinned (OpenSpec.ofChange quantInvertsWrong)

/-- 'mapmakerlaw29.QuantAreas': WHATEVER THE INPUT: true; the input reads as it did. -/
def quantAreasSpec : ChangeSpec := { name := "quantAreas", fn := fun _ => fun
  | [d1, d2] => { results := [.lit (.bool true)], args := [d1, d2] }
  | _ => none }
def quantAreasRow : OpenClaim := { program := "ytdkegdnfbpobnaa", sum := "dc94dfc1290b796f5f1251c897de9389d9fdd584f6d3d68b4ca4e5aec4dc0c46", func := "mapmaker/mapmakerlaw29.QuantAreas", spec := "quantAreas", unfollowed := true, recurses := true, apart := false }
def QuantAreasSaid : Prop := quantAreasRow.holds Try.pinned (OpenSpec.ofChange quantAreasSpec)

/-- ITS FALSE NEIGHBOUR: 'it returns false'. Refute it at one input. -/
def quantAreasWrong : ChangeSpec := { name := "quantAreas", fn := fun _ => fun
  | [d1, d2] => { results := [.lit (.bool false)], args := [d1, d2] }
  | _ => none }
def QuantAreasWrongFalsely : Prop := quantAreasRow.holds Try.pinned (OpenSpec.ofChange quantAreasWrong)

/-- 'mapmakerlaw29.QuantRanges': WHATEVER THE INPUT: true; the input reads as it did. -/
def quantRangesSpec : ChangeSpec := { name := "quantRanges", fn := fun _ => fun
  | [d1, d2] => { results := [.lit (.bool true)], args := [d1, d2] }
  | _ => none }
def quantRangesRow : OpenClaim := { program := "ytdkegdnfbpobnaa", sum := "dc94dfc1290b796f5f1251c897de9389d9fdd584f6d3d68b4ca4e5aec4dc0c46", func := "mapmaker/mapmakerlaw29.QuantRanges", spec := "quantRanges", unfollowed := true, recurses := true, apart := false }
def QuantRangesSaid : Prop := quantRangesRow.holds Try.pinned (OpenSpec.ofChange quantRangesSpec)

/-- ITS FALSE NEIGHBOUR: 'it returns false'. Refute it at one input. -/
def quantRangesWrong : ChangeSpec := { name := "quantRanges", fn := fun _ => fun
  | [d1, d2] => { results := [.lit (.bool false)], args := [d1, d2] }
  | _ => none }
def QuantRangesWrongFalsely : Prop := quantRangesRow.holds Try.pinned (OpenSpec.ofChange quantRangesWrong)

/- THE SECOND FORM. 'bulk': how many values and letters a reading holds, each counted each time it is reached (what is shared counts as often as it is met; a slice's spare places count too). A statement '..UptoSaid' is the law's where the arguments, and the package variables that the reading takes, are together of bulk at most 1048576: NARROWER than '..Said'. Prove '..Said' where nothing that the law and all that it calls make is longer than what came in: it says more and counts as full. Else prove '..UptoSaid'. A law counts once. -/
mutual
def uptoBulk {H : Type} : DataW H → Nat
  | .lit (.string bytes) => bytes.length + 1
  | .lit _ => 1
  | .nil => 1
  | .ptr d => uptoBulk d + 1
  | .slice elems spare => uptoBulkAll elems + uptoBulkAll spare + 1
  | .agg parts => uptoBulkAll parts + 1
  | .iface _ d => uptoBulk d + 1
  | .map entries => uptoBulkEntries entries + 1
  | .held _ => 1
def uptoBulkAll {H : Type} : List (DataW H) → Nat
  | [] => 0
  | d :: r => uptoBulk d + uptoBulkAll r
def uptoBulkEntries {H : Type} : List (Lit × DataW H) → Nat
  | [] => 0
  | x :: r => uptoBulkEntry x + uptoBulkEntries r
def uptoBulkEntry {H : Type} : Lit × DataW H → Nat
  | (.string bytes, d) => bytes.length + uptoBulk d + 1
  | (_, d) => uptoBulk d + 1
 end
def uptoSmall : (H : Type) → List (DataW H) → Bool := fun _ ds => decide (uptoBulkAll ds ≤ 1048576)
def OpenSpec.upto (s : _root_.Go.ChangeSpec) : _root_.Go.OpenSpec := { _root_.Go.OpenSpec.ofChange s with cond := some uptoSmall }

/-- 'mapmakerlaw29.QuantPoints', WHERE WHAT IT READS IS OF BULK AT MOST 1048576: true; the input reads as it did. -/
def quantPointsUptoRow : OpenClaim := { program := "ytdkegdnfbpobnaa", sum := "dc94dfc1290b796f5f1251c897de9389d9fdd584f6d3d68b4ca4e5aec4dc0c46", func := "mapmaker/mapmakerlaw29.QuantPoints", spec := "quantPoints", unfollowed := true, recurses := true, apart := false, narrowed := true }
def QuantPointsUptoSaid : Prop := quantPointsUptoRow.holds Try.pinned (OpenSpec.upto quantPointsSpec)

/-- 'mapmakerlaw29.QuantLines', WHERE WHAT IT READS IS OF BULK AT MOST 1048576: true; the input reads as it did. -/
def quantLinesUptoRow : OpenClaim := { program := "ytdkegdnfbpobnaa", sum := "dc94dfc1290b796f5f1251c897de9389d9fdd584f6d3d68b4ca4e5aec4dc0c46", func := "mapmaker/mapmakerlaw29.QuantLines", spec := "quantLines", unfollowed := true, recurses := true, apart := false, narrowed := true }
def QuantLinesUptoSaid : Prop := quantLinesUptoRow.holds Try.pinned (OpenSpec.upto quantLinesSpec)

/-- 'mapmakerlaw29.QuantInverts', WHERE WHAT IT READS IS OF BULK AT MOST 1048576: true; the input reads as it did. -/
def quantInvertsUptoRow : OpenClaim := { program := "ytdkegdnfbpobnaa", sum := "dc94dfc1290b796f5f1251c897de9389d9fdd584f6d3d68b4ca4e5aec4dc0c46", func := "mapmaker/mapmakerlaw29.QuantInverts", spec := "quantInverts", unfollowed := true, recurses := true, apart := false, narrowed := true }
def QuantInvertsUptoSaid : Prop := quantInvertsUptoRow.holds Try.pinned (OpenSpec.upto quantInvertsSpec)

/-- 'mapmakerlaw29.QuantAreas', WHERE WHAT IT READS IS OF BULK AT MOST 1048576: true; the input reads as it did. -/
def quantAreasUptoRow : OpenClaim := { program := "ytdkegdnfbpobnaa", sum := "dc94dfc1290b796f5f1251c897de9389d9fdd584f6d3d68b4ca4e5aec4dc0c46", func := "mapmaker/mapmakerlaw29.QuantAreas", spec := "quantAreas", unfollowed := true, recurses := true, apart := false, narrowed := true }
def QuantAreasUptoSaid : Prop := quantAreasUptoRow.holds Try.pinned (OpenSpec.upto quantAreasSpec)

/-- 'mapmakerlaw29.QuantRanges', WHERE WHAT IT READS IS OF BULK AT MOST 1048576: true; the input reads as it did. -/
def quantRangesUptoRow : OpenClaim := { program := "ytdkegdnfbpobnaa", sum := "dc94dfc1290b796f5f1251c897de9389d9fdd584f6d3d68b4ca4e5aec4dc0c46", func := "mapmaker/mapmakerlaw29.QuantRanges", spec := "quantRanges", unfollowed := true, recurses := true, apart := false, narrowed := true }
def QuantRangesUptoSaid : Prop := quantRangesUptoRow.holds Try.pinned (OpenSpec.upto quantRangesSpec)

end Rows
end Go.Proofs.Ytdkegdnfbpobnaa
