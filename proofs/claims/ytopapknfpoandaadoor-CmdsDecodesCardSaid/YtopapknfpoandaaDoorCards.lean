/-
  DERIVED. GIVEN WITH THE SEED: THE CARDS: each row of YtopapknfpoandaaDoorRows.lean that lists a variable, with what it lists TIED to the program's text (the seventh form; the later family's looks); each row that meets fmt, with fmt's text TOLD by the authors' own Lean function (tested against real Go, not proved from fmt's source: count such statements apart). THE CARD IS WHAT COUNTS. Prove the row's statement (the work); the ties are given (YtopapknfpoandaaDoorTie.lean); close each card by the builder's one call (the guide's Derived/Test/ToyasCard.lean, 'card_holds'). Laid BY PROGRAM, IN A SANDBOX (cutbox-door.mjs). By AI agents, Wed Nov 11 2026. No macro, syntax, notation, axiom, sorry.
-/
import Derived.Test.YtopapknfpoandaaDoorRows
import GoSem.ClaimSeven
namespace Go.Proofs.YtopapknfpoandaaDoor
namespace Rows

/-- THE TIED CARD OF 'mapmakerlaw30.CmdsEncodes'. -/
def cmdsEncodesCard : Claim7 := { stood := { row := cmdsEncodesRow, standIns := [], harness := (true, "2633cf912ef7a74d54873e0e43fd901926e9910e584adf69786d1552ca309143"), looks := false }, kinds := [], alts := [], laidByText := true, laidKinds := [.data], laidTests := true, laidLooks := .later }
def CmdsEncodesCardSaid : Prop := Claim7.holds Tryd.pinned (.plain (OpenSpec.ofChange cmdsEncodesSpec)) cmdsEncodesCard

/-- THE TIED CARD OF 'mapmakerlaw30.CmdsDecodes'. -/
def cmdsDecodesCard : Claim7 := { stood := { row := cmdsDecodesRow, standIns := [], harness := (true, "2633cf912ef7a74d54873e0e43fd901926e9910e584adf69786d1552ca309143"), looks := false }, kinds := [], alts := [], laidByText := true, laidKinds := [.data], laidTests := true, laidLooks := .later }
def CmdsDecodesCardSaid : Prop := Claim7.holds Tryd.pinned (.plain (OpenSpec.ofChange cmdsDecodesSpec)) cmdsDecodesCard

/-- THE TIED CARD OF 'mapmakerlaw30.CmdsRoundTrip'. -/
def cmdsRoundTripCard : Claim7 := { stood := { row := cmdsRoundTripRow, standIns := [], harness := (true, "2633cf912ef7a74d54873e0e43fd901926e9910e584adf69786d1552ca309143"), looks := false }, kinds := [], alts := [], laidByText := true, laidKinds := [.data], laidTests := true, laidLooks := .later }
def CmdsRoundTripCardSaid : Prop := Claim7.holds Tryd.pinned (.plain (OpenSpec.ofChange cmdsRoundTripSpec)) cmdsRoundTripCard

/-- THE TIED CARD OF 'mapmakerlaw30.CmdsInverse'. -/
def cmdsInverseCard : Claim7 := { stood := { row := cmdsInverseRow, standIns := [], harness := (true, "2633cf912ef7a74d54873e0e43fd901926e9910e584adf69786d1552ca309143"), looks := false }, kinds := [], alts := [], laidByText := true, laidKinds := [.data], laidTests := true, laidLooks := .later }
def CmdsInverseCardSaid : Prop := Claim7.holds Tryd.pinned (.plain (OpenSpec.ofChange cmdsInverseSpec)) cmdsInverseCard

/-- THE SECOND FORM's CARD OF 'mapmakerlaw30.CmdsEncodes'. -/
def cmdsEncodesUptoCard : Claim7 := { stood := { row := cmdsEncodesUptoRow, standIns := [], harness := (true, "2633cf912ef7a74d54873e0e43fd901926e9910e584adf69786d1552ca309143"), looks := false }, kinds := [], alts := [], laidByText := true, laidKinds := [.data], laidTests := true, laidLooks := .later }
def CmdsEncodesUptoCardSaid : Prop := Claim7.holds Tryd.pinned (.plain (OpenSpec.upto cmdsEncodesSpec)) cmdsEncodesUptoCard

/-- THE SECOND FORM's CARD OF 'mapmakerlaw30.CmdsDecodes'. -/
def cmdsDecodesUptoCard : Claim7 := { stood := { row := cmdsDecodesUptoRow, standIns := [], harness := (true, "2633cf912ef7a74d54873e0e43fd901926e9910e584adf69786d1552ca309143"), looks := false }, kinds := [], alts := [], laidByText := true, laidKinds := [.data], laidTests := true, laidLooks := .later }
def CmdsDecodesUptoCardSaid : Prop := Claim7.holds Tryd.pinned (.plain (OpenSpec.upto cmdsDecodesSpec)) cmdsDecodesUptoCard

/-- THE SECOND FORM's CARD OF 'mapmakerlaw30.CmdsRoundTrip'. -/
def cmdsRoundTripUptoCard : Claim7 := { stood := { row := cmdsRoundTripUptoRow, standIns := [], harness := (true, "2633cf912ef7a74d54873e0e43fd901926e9910e584adf69786d1552ca309143"), looks := false }, kinds := [], alts := [], laidByText := true, laidKinds := [.data], laidTests := true, laidLooks := .later }
def CmdsRoundTripUptoCardSaid : Prop := Claim7.holds Tryd.pinned (.plain (OpenSpec.upto cmdsRoundTripSpec)) cmdsRoundTripUptoCard

/-- THE SECOND FORM's CARD OF 'mapmakerlaw30.CmdsInverse'. -/
def cmdsInverseUptoCard : Claim7 := { stood := { row := cmdsInverseUptoRow, standIns := [], harness := (true, "2633cf912ef7a74d54873e0e43fd901926e9910e584adf69786d1552ca309143"), looks := false }, kinds := [], alts := [], laidByText := true, laidKinds := [.data], laidTests := true, laidLooks := .later }
def CmdsInverseUptoCardSaid : Prop := Claim7.holds Tryd.pinned (.plain (OpenSpec.upto cmdsInverseSpec)) cmdsInverseUptoCard
end Rows
end Go.Proofs.YtopapknfpoandaaDoor
