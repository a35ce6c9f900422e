/-
  No cell of these rows narrows 'for every input' (looked for: loops, veiled, ifaces, maps, wideKeys, modest, calm, conditions, laid).
  DERIVED. THE GIVEN ROWS OF THIS SEAT. 5 by the template 'for every input the law returns true; each argument reads behind the call as it read before'; 0 by the template 'total and deterministic' (their statements: YtjpkkdnilfoafaaTotals.lean).
  GIVEN WITH THE SEED: the statements are not yours to turn. If you find one false, say at which input.
  Laid BY PROGRAM, IN A SANDBOX (cutbox-rows.mjs): the forced cells as the released guide's own fill.sh prints them over the translation 4474f519cf050382… (all of the seat's roots in one cut). By AI agents, Wed Nov 11 2026. No macro, syntax, notation, axiom, sorry.
-/
import Derived.Test.YtjpkkdnilfoafaaChecked
import GoSem.Claim
import GoSem.ClaimJoined
import GoSem.ClaimMapViews
import Derived.JoinedTies
import Derived.KernelRfl
namespace Go.Proofs.Ytjpkkdnilfoafaa
/- THE CELL 'sum', in the pinned program and in every row, IS THE sha256 OF THE DUMP (.gsa) THAT YtjpkkdnilfoafaaProg.lean LOADS. Nothing in Lean hashes anything: it is a label: what it is worth is what the hold of that sum in a sandbox is worth. -/
noncomputable def Try.pinned : Pinned := { name := "ytjpkkdnilfoafaa", sum := "4474f519cf050382054db18b31f1ab0715d603bd9ebc45888c97558bd7b4d629", checked := Try.checked }
namespace Rows
def none {H : Type} : Left H := { results := [], args := [] }

/-- 'mapmakerlaw36.LocateWheres': WHATEVER THE INPUT: true; the input reads as it did. -/
def locateWheresSpec : ChangeSpec := { name := "locateWheres", fn := fun _ => fun
  | [d1, d2] => { results := [.lit (.bool true)], args := [d1, d2] }
  | _ => none }
def locateWheresRow : OpenClaim := { program := "ytjpkkdnilfoafaa", sum := "4474f519cf050382054db18b31f1ab0715d603bd9ebc45888c97558bd7b4d629", func := "mapmaker/mapmakerlaw36.LocateWheres", spec := "locateWheres", unfollowed := true, recurses := true, plainKeys := false, apart := false }
def LocateWheresSaid : Prop := locateWheresRow.holds Try.pinned (OpenSpec.ofChange locateWheresSpec)

/-- ITS FALSE NEIGHBOUR: 'it returns false'. Refute it at one input. -/
def locateWheresWrong : ChangeSpec := { name := "locateWheres", fn := fun _ => fun
  | [d1, d2] => { results := [.lit (.bool false)], args := [d1, d2] }
  | _ => none }
def LocateWheresWrongFalsely : Prop := locateWheresRow.holds Try.pinned (OpenSpec.ofChange locateWheresWrong)

/-- 'mapmakerlaw36.LocateNews': WHATEVER THE INPUT: true; the input reads as it did. -/
def locateNewsSpec : ChangeSpec := { name := "locateNews", fn := fun _ => fun
  | [d1, d2] => { results := [.lit (.bool true)], args := [d1, d2] }
  | _ => none }
def locateNewsRow : OpenClaim := { program := "ytjpkkdnilfoafaa", sum := "4474f519cf050382054db18b31f1ab0715d603bd9ebc45888c97558bd7b4d629", func := "mapmaker/mapmakerlaw36.LocateNews", spec := "locateNews", unfollowed := true, recurses := true, plainKeys := false, apart := false }
def LocateNewsSaid : Prop := locateNewsRow.holds Try.pinned (OpenSpec.ofChange locateNewsSpec)

/-- ITS FALSE NEIGHBOUR: 'it returns false'. Refute it at one input. -/
def locateNewsWrong : ChangeSpec := { name := "locateNews", fn := fun _ => fun
  | [d1, d2] => { results := [.lit (.bool false)], args := [d1, d2] }
  | _ => none }
def LocateNewsWrongFalsely : Prop := locateNewsRow.holds Try.pinned (OpenSpec.ofChange locateNewsWrong)

/-- 'mapmakerlaw36.LocateFinds': WHATEVER THE INPUT: true; the input reads as it did. -/
def locateFindsSpec : ChangeSpec := { name := "locateFinds", fn := fun _ => fun
  | [d1, d2, d3] => { results := [.lit (.bool true)], args := [d1, d2, d3] }
  | _ => none }
def locateFindsRow : OpenClaim := { program := "ytjpkkdnilfoafaa", sum := "4474f519cf050382054db18b31f1ab0715d603bd9ebc45888c97558bd7b4d629", func := "mapmaker/mapmakerlaw36.LocateFinds", spec := "locateFinds", unfollowed := true, recurses := true, plainKeys := false, apart := false }
def LocateFindsSaid : Prop := locateFindsRow.holds Try.pinned (OpenSpec.ofChange locateFindsSpec)

/-- ITS FALSE NEIGHBOUR: 'it returns false'. Refute it at one input. -/
def locateFindsWrong : ChangeSpec := { name := "locateFinds", fn := fun _ => fun
  | [d1, d2, d3] => { results := [.lit (.bool false)], args := [d1, d2, d3] }
  | _ => none }
def LocateFindsWrongFalsely : Prop := locateFindsRow.holds Try.pinned (OpenSpec.ofChange locateFindsWrong)

/-- 'mapmakerlaw36.LocateFans': WHATEVER THE INPUT: true; the input reads as it did. -/
def locateFansSpec : ChangeSpec := { name := "locateFans", fn := fun _ => fun
  | [d1, d2] => { results := [.lit (.bool true)], args := [d1, d2] }
  | _ => none }
def locateFansRow : OpenClaim := { program := "ytjpkkdnilfoafaa", sum := "4474f519cf050382054db18b31f1ab0715d603bd9ebc45888c97558bd7b4d629", func := "mapmaker/mapmakerlaw36.LocateFans", spec := "locateFans", unfollowed := true, recurses := true, plainKeys := false, apart := false }
def LocateFansSaid : Prop := locateFansRow.holds Try.pinned (OpenSpec.ofChange locateFansSpec)

/-- ITS FALSE NEIGHBOUR: 'it returns false'. Refute it at one input. -/
def locateFansWrong : ChangeSpec := { name := "locateFans", fn := fun _ => fun
  | [d1, d2] => { results := [.lit (.bool false)], args := [d1, d2] }
  | _ => none }
def LocateFansWrongFalsely : Prop := locateFansRow.holds Try.pinned (OpenSpec.ofChange locateFansWrong)

/-- 'mapmakerlaw36.LocateCorners': WHATEVER THE INPUT: true; the input reads as it did. -/
def locateCornersSpec : ChangeSpec := { name := "locateCorners", fn := fun _ => fun
  | [d1, d2] => { results := [.lit (.bool true)], args := [d1, d2] }
  | _ => none }
def locateCornersRow : OpenClaim := { program := "ytjpkkdnilfoafaa", sum := "4474f519cf050382054db18b31f1ab0715d603bd9ebc45888c97558bd7b4d629", func := "mapmaker/mapmakerlaw36.LocateCorners", spec := "locateCorners", unfollowed := true, recurses := true, plainKeys := false, apart := false }
def LocateCornersSaid : Prop := locateCornersRow.holds Try.pinned (OpenSpec.ofChange locateCornersSpec)

/-- ITS FALSE NEIGHBOUR: 'it returns false'. Refute it at one input. -/
def locateCornersWrong : ChangeSpec := { name := "locateCorners", fn := fun _ => fun
  | [d1, d2] => { results := [.lit (.bool false)], args := [d1, d2] }
  | _ => none }
def LocateCornersWrongFalsely : Prop := locateCornersRow.holds Try.pinned (OpenSpec.ofChange locateCornersWrong)

/- THE SECOND FORM. 'bulk': how many values and letters a reading holds, each counted each time it is reached (what is shared counts as often as it is met; a slice's spare places count too). A statement '..UptoSaid' is the law's where the arguments, and the package variables that the reading takes, are together of bulk at most 1048576: NARROWER than '..Said'. Prove '..Said' where nothing that the law and all that it calls make is longer than what came in: it says more and counts as full. Else prove '..UptoSaid'. A law counts once. -/
mutual
def uptoBulk {H : Type} : DataW H → Nat
  | .lit (.string bytes) => bytes.length + 1
  | .lit _ => 1
  | .nil => 1
  | .ptr d => uptoBulk d + 1
  | .slice elems spare => uptoBulkAll elems + uptoBulkAll spare + 1
  | .agg parts => uptoBulkAll parts + 1
  | .iface _ d => uptoBulk d + 1
  | .map entries => uptoBulkEntries entries + 1
  | .held _ => 1
def uptoBulkAll {H : Type} : List (DataW H) → Nat
  | [] => 0
  | d :: r => uptoBulk d + uptoBulkAll r
def uptoBulkEntries {H : Type} : List (Lit × DataW H) → Nat
  | [] => 0
  | x :: r => uptoBulkEntry x + uptoBulkEntries r
def uptoBulkEntry {H : Type} : Lit × DataW H → Nat
  | (.string bytes, d) => bytes.length + uptoBulk d + 1
  | (_, d) => uptoBulk d + 1
 end
def uptoSmall : (H : Type) → List (DataW H) → Bool := fun _ ds => decide (uptoBulkAll ds ≤ 1048576)
def OpenSpec.upto (s : _root_.Go.ChangeSpec) : _root_.Go.OpenSpec := { _root_.Go.OpenSpec.ofChange s with cond := some uptoSmall }

/-- 'mapmakerlaw36.LocateWheres', WHERE WHAT IT READS IS OF BULK AT MOST 1048576: true; the input reads as it did. -/
def locateWheresUptoRow : OpenClaim := { program := "ytjpkkdnilfoafaa", sum := "4474f519cf050382054db18b31f1ab0715d603bd9ebc45888c97558bd7b4d629", func := "mapmaker/mapmakerlaw36.LocateWheres", spec := "locateWheres", unfollowed := true, recurses := true, plainKeys := false, apart := false, narrowed := true }
def LocateWheresUptoSaid : Prop := locateWheresUptoRow.holds Try.pinned (OpenSpec.upto locateWheresSpec)

/-- 'mapmakerlaw36.LocateNews', WHERE WHAT IT READS IS OF BULK AT MOST 1048576: true; the input reads as it did. -/
def locateNewsUptoRow : OpenClaim := { program := "ytjpkkdnilfoafaa", sum := "4474f519cf050382054db18b31f1ab0715d603bd9ebc45888c97558bd7b4d629", func := "mapmaker/mapmakerlaw36.LocateNews", spec := "locateNews", unfollowed := true, recurses := true, plainKeys := false, apart := false, narrowed := true }
def LocateNewsUptoSaid : Prop := locateNewsUptoRow.holds Try.pinned (OpenSpec.upto locateNewsSpec)

/-- 'mapmakerlaw36.LocateFinds', WHERE WHAT IT READS IS OF BULK AT MOST 1048576: true; the input reads as it did. -/
def locateFindsUptoRow : OpenClaim := { program := "ytjpkkdnilfoafaa", sum := "4474f519cf050382054db18b31f1ab0715d603bd9ebc45888c97558bd7b4d629", func := "mapmaker/mapmakerlaw36.LocateFinds", spec := "locateFinds", unfollowed := true, recurses := true, plainKeys := false, apart := false, narrowed := true }
def LocateFindsUptoSaid : Prop := locateFindsUptoRow.holds Try.pinned (OpenSpec.upto locateFindsSpec)

/-- 'mapmakerlaw36.LocateFans', WHERE WHAT IT READS IS OF BULK AT MOST 1048576: true; the input reads as it did. -/
def locateFansUptoRow : OpenClaim := { program := "ytjpkkdnilfoafaa", sum := "4474f519cf050382054db18b31f1ab0715d603bd9ebc45888c97558bd7b4d629", func := "mapmaker/mapmakerlaw36.LocateFans", spec := "locateFans", unfollowed := true, recurses := true, plainKeys := false, apart := false, narrowed := true }
def LocateFansUptoSaid : Prop := locateFansUptoRow.holds Try.pinned (OpenSpec.upto locateFansSpec)

/-- 'mapmakerlaw36.LocateCorners', WHERE WHAT IT READS IS OF BULK AT MOST 1048576: true; the input reads as it did. -/
def locateCornersUptoRow : OpenClaim := { program := "ytjpkkdnilfoafaa", sum := "4474f519cf050382054db18b31f1ab0715d603bd9ebc45888c97558bd7b4d629", func := "mapmaker/mapmakerlaw36.LocateCorners", spec := "locateCorners", unfollowed := true, recurses := true, plainKeys := false, apart := false, narrowed := true }
def LocateCornersUptoSaid : Prop := locateCornersUptoRow.holds Try.pinned (OpenSpec.upto locateCornersSpec)

end Rows
end Go.Proofs.Ytjpkkdnilfoafaa
