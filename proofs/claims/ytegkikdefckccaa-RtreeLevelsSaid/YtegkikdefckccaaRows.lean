/-
  No cell of these rows narrows 'for every input' (looked for: loops, veiled, ifaces, maps, wideKeys, modest, calm, conditions, laid).
  DERIVED. THE GIVEN ROWS OF THIS SEAT. 4 by the template 'for every input the law returns true; each argument reads behind the call as it read before'; 0 by the template 'total and deterministic' (their statements: YtegkikdefckccaaTotals.lean).
  GIVEN WITH THE SEED: the statements are not yours to turn. If you find one false, say at which input.
  Laid BY PROGRAM, IN A SANDBOX (cutbox-rows.mjs): the forced cells as the released guide's own fill.sh prints them over the translation 488af04132054cc6… (all of the seat's roots in one cut). By AI agents, Wed Nov 11 2026. No macro, syntax, notation, axiom, sorry.
-/
import Derived.Test.YtegkikdefckccaaChecked
import GoSem.Claim
import GoSem.ClaimJoined
import GoSem.ClaimMapViews
import Derived.JoinedTies
import Derived.KernelRfl
namespace Go.Proofs.Ytegkikdefckccaa
/- THE CELL 'sum', in the pinned program and in every row, IS THE sha256 OF THE DUMP (.gsa) THAT YtegkikdefckccaaProg.lean LOADS. Nothing in Lean hashes anything: it is a label: what it is worth is what the hold of that sum in a sandbox is worth. -/
noncomputable def Try.pinned : Pinned := { name := "ytegkikdefckccaa", sum := "488af04132054cc66f74b79390cb64bd190bf2bd56d84c5b74127fde02669158", checked := Try.checked }
namespace Rows
def none {H : Type} : Left H := { results := [], args := [] }

/-- 'mapmakerlaw34.RtreeSearches': WHATEVER THE INPUT: true; the input reads as it did. -/
def rtreeSearchesSpec : ChangeSpec := { name := "rtreeSearches", fn := fun _ => fun
  | [d1, d2, d3] => { results := [.lit (.bool true)], args := [d1, d2, d3] }
  | _ => none }
def rtreeSearchesRow : OpenClaim := { program := "ytegkikdefckccaa", sum := "488af04132054cc66f74b79390cb64bd190bf2bd56d84c5b74127fde02669158", func := "mapmaker/mapmakerlaw34.RtreeSearches", spec := "rtreeSearches", unfollowed := true, recurses := true, apart := false }
def RtreeSearchesSaid : Prop := rtreeSearchesRow.holds Try.pinned (OpenSpec.ofChange rtreeSearchesSpec)

/-- ITS FALSE NEIGHBOUR: 'it returns false'. Refute it at one input. -/
def rtreeSearchesWrong : ChangeSpec := { name := "rtreeSearches", fn := fun _ => fun
  | [d1, d2, d3] => { results := [.lit (.bool false)], args := [d1, d2, d3] }
  | _ => none }
def RtreeSearchesWrongFalsely : Prop := rtreeSearchesRow.holds Try.pinned (OpenSpec.ofChange rtreeSearchesWrong)

/-- 'mapmakerlaw34.RtreeBuilds': WHATEVER THE INPUT: true; the input reads as it did. -/
def rtreeBuildsSpec : ChangeSpec := { name := "rtreeBuilds", fn := fun _ => fun
  | [d1, d2] => { results := [.lit (.bool true)], args := [d1, d2] }
  | _ => none }
def rtreeBuildsRow : OpenClaim := { program := "ytegkikdefckccaa", sum := "488af04132054cc66f74b79390cb64bd190bf2bd56d84c5b74127fde02669158", func := "mapmaker/mapmakerlaw34.RtreeBuilds", spec := "rtreeBuilds", unfollowed := true, recurses := true, apart := false }
def RtreeBuildsSaid : Prop := rtreeBuildsRow.holds Try.pinned (OpenSpec.ofChange rtreeBuildsSpec)

/-- ITS FALSE NEIGHBOUR: 'it returns false'. Refute it at one input. -/
def rtreeBuildsWrong : ChangeSpec := { name := "rtreeBuilds", fn := fun _ => fun
  | [d1, d2] => { results := [.lit (.bool false)], args := [d1, d2] }
  | _ => none }
def RtreeBuildsWrongFalsely : Prop := rtreeBuildsRow.holds Try.pinned (OpenSpec.ofChange rtreeBuildsWrong)

/-- 'mapmakerlaw34.RtreeIndependent': WHATEVER THE INPUT: true; the input reads as it did. -/
def rtreeIndependentSpec : ChangeSpec := { name := "rtreeIndependent", fn := fun _ => fun
  | [d1, d2, d3, d4] => { results := [.lit (.bool true)], args := [d1, d2, d3, d4] }
  | _ => none }
def rtreeIndependentRow : OpenClaim := { program := "ytegkikdefckccaa", sum := "488af04132054cc66f74b79390cb64bd190bf2bd56d84c5b74127fde02669158", func := "mapmaker/mapmakerlaw34.RtreeIndependent", spec := "rtreeIndependent", unfollowed := true, recurses := true, apart := false }
def RtreeIndependentSaid : Prop := rtreeIndependentRow.holds Try.pinned (OpenSpec.ofChange rtreeIndependentSpec)

/-- ITS FALSE NEIGHBOUR: 'it returns false'. Refute it at one input. -/
def rtreeIndependentWrong : ChangeSpec := { name := "rtreeIndependent", fn := fun _ => fun
  | [d1, d2, d3, d4] => { results := [.lit (.bool false)], args := [d1, d2, d3, d4] }
  | _ => none }
def RtreeIndependentWrongFalsely : Prop := rtreeIndependentRow.holds Try.pinned (OpenSpec.ofChange rtreeIndependentWrong)

/-- 'mapmakerlaw34.RtreeLevels': WHATEVER THE INPUT: true; the input reads as it did. -/
def rtreeLevelsSpec : ChangeSpec := { name := "rtreeLevels", fn := fun _ => fun
  | [d1, d2] => { results := [.lit (.bool true)], args := [d1, d2] }
  | _ => none }
def rtreeLevelsRow : OpenClaim := { program := "ytegkikdefckccaa", sum := "488af04132054cc66f74b79390cb64bd190bf2bd56d84c5b74127fde02669158", func := "mapmaker/mapmakerlaw34.RtreeLevels", spec := "rtreeLevels", unfollowed := true, recurses := true, apart := false }
def RtreeLevelsSaid : Prop := rtreeLevelsRow.holds Try.pinned (OpenSpec.ofChange rtreeLevelsSpec)

/-- ITS FALSE NEIGHBOUR: 'it returns false'. Refute it at one input. -/
def rtreeLevelsWrong : ChangeSpec := { name := "rtreeLevels", fn := fun _ => fun
  | [d1, d2] => { results := [.lit (.bool false)], args := [d1, d2] }
  | _ => none }
def RtreeLevelsWrongFalsely : Prop := rtreeLevelsRow.holds Try.pinned (OpenSpec.ofChange rtreeLevelsWrong)

/- THE SECOND FORM. 'bulk': how many values and letters a reading holds, each counted each time it is reached (what is shared counts as often as it is met; a slice's spare places count too). A statement '..UptoSaid' is the law's where the arguments, and the package variables that the reading takes, are together of bulk at most 1048576: NARROWER than '..Said'. Prove '..Said' where nothing that the law and all that it calls make is longer than what came in: it says more and counts as full. Else prove '..UptoSaid'. A law counts once. -/
mutual
def uptoBulk {H : Type} : DataW H → Nat
  | .lit (.string bytes) => bytes.length + 1
  | .lit _ => 1
  | .nil => 1
  | .ptr d => uptoBulk d + 1
  | .slice elems spare => uptoBulkAll elems + uptoBulkAll spare + 1
  | .agg parts => uptoBulkAll parts + 1
  | .iface _ d => uptoBulk d + 1
  | .map entries => uptoBulkEntries entries + 1
  | .held _ => 1
def uptoBulkAll {H : Type} : List (DataW H) → Nat
  | [] => 0
  | d :: r => uptoBulk d + uptoBulkAll r
def uptoBulkEntries {H : Type} : List (Lit × DataW H) → Nat
  | [] => 0
  | x :: r => uptoBulkEntry x + uptoBulkEntries r
def uptoBulkEntry {H : Type} : Lit × DataW H → Nat
  | (.string bytes, d) => bytes.length + uptoBulk d + 1
  | (_, d) => uptoBulk d + 1
 end
def uptoSmall : (H : Type) → List (DataW H) → Bool := fun _ ds => decide (uptoBulkAll ds ≤ 1048576)
def OpenSpec.upto (s : _root_.Go.ChangeSpec) : _root_.Go.OpenSpec := { _root_.Go.OpenSpec.ofChange s with cond := some uptoSmall }

/-- 'mapmakerlaw34.RtreeSearches', WHERE WHAT IT READS IS OF BULK AT MOST 1048576: true; the input reads as it did. -/
def rtreeSearchesUptoRow : OpenClaim := { program := "ytegkikdefckccaa", sum := "488af04132054cc66f74b79390cb64bd190bf2bd56d84c5b74127fde02669158", func := "mapmaker/mapmakerlaw34.RtreeSearches", spec := "rtreeSearches", unfollowed := true, recurses := true, apart := false, narrowed := true }
def RtreeSearchesUptoSaid : Prop := rtreeSearchesUptoRow.holds Try.pinned (OpenSpec.upto rtreeSearchesSpec)

/-- 'mapmakerlaw34.RtreeBuilds', WHERE WHAT IT READS IS OF BULK AT MOST 1048576: true; the input reads as it did. -/
def rtreeBuildsUptoRow : OpenClaim := { program := "ytegkikdefckccaa", sum := "488af04132054cc66f74b79390cb64bd190bf2bd56d84c5b74127fde02669158", func := "mapmaker/mapmakerlaw34.RtreeBuilds", spec := "rtreeBuilds", unfollowed := true, recurses := true, apart := false, narrowed := true }
def RtreeBuildsUptoSaid : Prop := rtreeBuildsUptoRow.holds Try.pinned (OpenSpec.upto rtreeBuildsSpec)

/-- 'mapmakerlaw34.RtreeIndependent', WHERE WHAT IT READS IS OF BULK AT MOST 1048576: true; the input reads as it did. -/
def rtreeIndependentUptoRow : OpenClaim := { program := "ytegkikdefckccaa", sum := "488af04132054cc66f74b79390cb64bd190bf2bd56d84c5b74127fde02669158", func := "mapmaker/mapmakerlaw34.RtreeIndependent", spec := "rtreeIndependent", unfollowed := true, recurses := true, apart := false, narrowed := true }
def RtreeIndependentUptoSaid : Prop := rtreeIndependentUptoRow.holds Try.pinned (OpenSpec.upto rtreeIndependentSpec)

/-- 'mapmakerlaw34.RtreeLevels', WHERE WHAT IT READS IS OF BULK AT MOST 1048576: true; the input reads as it did. -/
def rtreeLevelsUptoRow : OpenClaim := { program := "ytegkikdefckccaa", sum := "488af04132054cc66f74b79390cb64bd190bf2bd56d84c5b74127fde02669158", func := "mapmaker/mapmakerlaw34.RtreeLevels", spec := "rtreeLevels", unfollowed := true, recurses := true, apart := false, narrowed := true }
def RtreeLevelsUptoSaid : Prop := rtreeLevelsUptoRow.holds Try.pinned (OpenSpec.upto rtreeLevelsSpec)

end Rows
end Go.Proofs.Ytegkikdefckccaa
