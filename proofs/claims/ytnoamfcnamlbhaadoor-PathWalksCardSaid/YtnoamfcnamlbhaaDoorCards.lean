/-
  DERIVED. GIVEN WITH THE SEED: THE CARDS: each row of YtnoamfcnamlbhaaDoorRows.lean that lists a variable, with what it lists TIED to the program's text (the seventh form; the later family's looks); each row that meets fmt, with fmt's text TOLD by the authors' own Lean function (tested against real Go, not proved from fmt's source: count such statements apart). THE CARD IS WHAT COUNTS. Prove the row's statement (the work); the ties are given (YtnoamfcnamlbhaaDoorTie.lean); close each card by the builder's one call (the guide's Derived/Test/ToyasCard.lean, 'card_holds'). Laid BY PROGRAM, IN A SANDBOX (cutbox-door.mjs). By AI agents, Wed Nov 11 2026. No macro, syntax, notation, axiom, sorry.
-/
import Derived.Test.YtnoamfcnamlbhaaDoorRows
import GoSem.ClaimSeven
namespace Go.Proofs.YtnoamfcnamlbhaaDoor
namespace Rows

/-- THE TIED CARD OF 'retortlaw3.PathCleans'. -/
def pathCleansCard : Claim7 := { stood := { row := pathCleansRow, standIns := [], harness := (true, "3f467ef4db3f30acd04b0c06848fd9282428f75dae5576ae85a3a0e33a2613cd"), looks := false }, kinds := [], alts := [], laidByText := true, laidKinds := [.data, .pinned], laidTests := true, laidLooks := .later }
def PathCleansCardSaid : Prop := Claim7.holds Tryd.pinned (.plain (OpenSpec.ofChange pathCleansSpec)) pathCleansCard

/-- THE TIED CARD OF 'retortlaw3.PathMatches'. -/
def pathMatchesCard : Claim7 := { stood := { row := pathMatchesRow, standIns := [], harness := (true, "3f467ef4db3f30acd04b0c06848fd9282428f75dae5576ae85a3a0e33a2613cd"), looks := false }, kinds := [], alts := [], laidByText := true, laidKinds := [.data, .pinned], laidTests := true, laidLooks := .later }
def PathMatchesCardSaid : Prop := Claim7.holds Tryd.pinned (.plain (OpenSpec.ofChange pathMatchesSpec)) pathMatchesCard

/-- THE TIED CARD OF 'retortlaw3.PathPlain'. -/
def pathPlainCard : Claim7 := { stood := { row := pathPlainRow, standIns := [], harness := (true, "3f467ef4db3f30acd04b0c06848fd9282428f75dae5576ae85a3a0e33a2613cd"), looks := false }, kinds := [], alts := [], laidByText := true, laidKinds := [.data, .pinned], laidTests := true, laidLooks := .later }
def PathPlainCardSaid : Prop := Claim7.holds Tryd.pinned (.plain (OpenSpec.ofChange pathPlainSpec)) pathPlainCard

/-- THE TIED CARD OF 'retortlaw3.PathWalks'. -/
def pathWalksCard : Claim7 := { stood := { row := pathWalksRow, standIns := [], harness := (true, "3f467ef4db3f30acd04b0c06848fd9282428f75dae5576ae85a3a0e33a2613cd"), looks := false }, kinds := [], alts := [], laidByText := true, laidKinds := [.data, .pinned], laidTests := true, laidLooks := .later }
def PathWalksCardSaid : Prop := Claim7.holds Tryd.pinned (.plain (OpenSpec.ofChange pathWalksSpec)) pathWalksCard

/-- THE TIED CARD OF 'retortlaw3.PathOrders'. -/
def pathOrdersCard : Claim7 := { stood := { row := pathOrdersRow, standIns := [], harness := (true, "3f467ef4db3f30acd04b0c06848fd9282428f75dae5576ae85a3a0e33a2613cd"), looks := false }, kinds := [], alts := [], laidByText := true, laidKinds := [.data, .pinned], laidTests := true, laidLooks := .later }
def PathOrdersCardSaid : Prop := Claim7.holds Tryd.pinned (.plain (OpenSpec.ofChange pathOrdersSpec)) pathOrdersCard

/-- THE TIED CARD OF 'retortlaw3.PathLine'. -/
def pathLineCard : Claim7 := { stood := { row := pathLineRow, standIns := [], harness := (true, "3f467ef4db3f30acd04b0c06848fd9282428f75dae5576ae85a3a0e33a2613cd"), looks := false }, kinds := [], alts := [], laidByText := true, laidKinds := [.data, .pinned], laidTests := true, laidLooks := .later }
def PathLineCardSaid : Prop := Claim7.holds Tryd.pinned (.plain (OpenSpec.ofChange pathLineSpec)) pathLineCard

/-- THE TIED CARD OF 'retortlaw3.PathParts'. -/
def pathPartsCard : Claim7 := { stood := { row := pathPartsRow, standIns := [], harness := (true, "3f467ef4db3f30acd04b0c06848fd9282428f75dae5576ae85a3a0e33a2613cd"), looks := false }, kinds := [], alts := [], laidByText := true, laidKinds := [.data, .pinned], laidTests := true, laidLooks := .later }
def PathPartsCardSaid : Prop := Claim7.holds Tryd.pinned (.plain (OpenSpec.ofChange pathPartsSpec)) pathPartsCard

/-- THE TIED CARD OF 'retortlaw3.PathBack'. -/
def pathBackCard : Claim7 := { stood := { row := pathBackRow, standIns := [], harness := (true, "3f467ef4db3f30acd04b0c06848fd9282428f75dae5576ae85a3a0e33a2613cd"), looks := false }, kinds := [], alts := [], laidByText := true, laidKinds := [.data, .pinned], laidTests := true, laidLooks := .later }
def PathBackCardSaid : Prop := Claim7.holds Tryd.pinned (.plain (OpenSpec.ofChange pathBackSpec)) pathBackCard

/-- THE SECOND FORM's CARD OF 'retortlaw3.PathCleans'. -/
def pathCleansUptoCard : Claim7 := { stood := { row := pathCleansUptoRow, standIns := [], harness := (true, "3f467ef4db3f30acd04b0c06848fd9282428f75dae5576ae85a3a0e33a2613cd"), looks := false }, kinds := [], alts := [], laidByText := true, laidKinds := [.data, .pinned], laidTests := true, laidLooks := .later }
def PathCleansUptoCardSaid : Prop := Claim7.holds Tryd.pinned (.plain (OpenSpec.upto pathCleansSpec)) pathCleansUptoCard

/-- THE SECOND FORM's CARD OF 'retortlaw3.PathMatches'. -/
def pathMatchesUptoCard : Claim7 := { stood := { row := pathMatchesUptoRow, standIns := [], harness := (true, "3f467ef4db3f30acd04b0c06848fd9282428f75dae5576ae85a3a0e33a2613cd"), looks := false }, kinds := [], alts := [], laidByText := true, laidKinds := [.data, .pinned], laidTests := true, laidLooks := .later }
def PathMatchesUptoCardSaid : Prop := Claim7.holds Tryd.pinned (.plain (OpenSpec.upto pathMatchesSpec)) pathMatchesUptoCard

/-- THE SECOND FORM's CARD OF 'retortlaw3.PathPlain'. -/
def pathPlainUptoCard : Claim7 := { stood := { row := pathPlainUptoRow, standIns := [], harness := (true, "3f467ef4db3f30acd04b0c06848fd9282428f75dae5576ae85a3a0e33a2613cd"), looks := false }, kinds := [], alts := [], laidByText := true, laidKinds := [.data, .pinned], laidTests := true, laidLooks := .later }
def PathPlainUptoCardSaid : Prop := Claim7.holds Tryd.pinned (.plain (OpenSpec.upto pathPlainSpec)) pathPlainUptoCard

/-- THE SECOND FORM's CARD OF 'retortlaw3.PathWalks'. -/
def pathWalksUptoCard : Claim7 := { stood := { row := pathWalksUptoRow, standIns := [], harness := (true, "3f467ef4db3f30acd04b0c06848fd9282428f75dae5576ae85a3a0e33a2613cd"), looks := false }, kinds := [], alts := [], laidByText := true, laidKinds := [.data, .pinned], laidTests := true, laidLooks := .later }
def PathWalksUptoCardSaid : Prop := Claim7.holds Tryd.pinned (.plain (OpenSpec.upto pathWalksSpec)) pathWalksUptoCard

/-- THE SECOND FORM's CARD OF 'retortlaw3.PathOrders'. -/
def pathOrdersUptoCard : Claim7 := { stood := { row := pathOrdersUptoRow, standIns := [], harness := (true, "3f467ef4db3f30acd04b0c06848fd9282428f75dae5576ae85a3a0e33a2613cd"), looks := false }, kinds := [], alts := [], laidByText := true, laidKinds := [.data, .pinned], laidTests := true, laidLooks := .later }
def PathOrdersUptoCardSaid : Prop := Claim7.holds Tryd.pinned (.plain (OpenSpec.upto pathOrdersSpec)) pathOrdersUptoCard

/-- THE SECOND FORM's CARD OF 'retortlaw3.PathLine'. -/
def pathLineUptoCard : Claim7 := { stood := { row := pathLineUptoRow, standIns := [], harness := (true, "3f467ef4db3f30acd04b0c06848fd9282428f75dae5576ae85a3a0e33a2613cd"), looks := false }, kinds := [], alts := [], laidByText := true, laidKinds := [.data, .pinned], laidTests := true, laidLooks := .later }
def PathLineUptoCardSaid : Prop := Claim7.holds Tryd.pinned (.plain (OpenSpec.upto pathLineSpec)) pathLineUptoCard

/-- THE SECOND FORM's CARD OF 'retortlaw3.PathParts'. -/
def pathPartsUptoCard : Claim7 := { stood := { row := pathPartsUptoRow, standIns := [], harness := (true, "3f467ef4db3f30acd04b0c06848fd9282428f75dae5576ae85a3a0e33a2613cd"), looks := false }, kinds := [], alts := [], laidByText := true, laidKinds := [.data, .pinned], laidTests := true, laidLooks := .later }
def PathPartsUptoCardSaid : Prop := Claim7.holds Tryd.pinned (.plain (OpenSpec.upto pathPartsSpec)) pathPartsUptoCard

/-- THE SECOND FORM's CARD OF 'retortlaw3.PathBack'. -/
def pathBackUptoCard : Claim7 := { stood := { row := pathBackUptoRow, standIns := [], harness := (true, "3f467ef4db3f30acd04b0c06848fd9282428f75dae5576ae85a3a0e33a2613cd"), looks := false }, kinds := [], alts := [], laidByText := true, laidKinds := [.data, .pinned], laidTests := true, laidLooks := .later }
def PathBackUptoCardSaid : Prop := Claim7.holds Tryd.pinned (.plain (OpenSpec.upto pathBackSpec)) pathBackUptoCard
end Rows
end Go.Proofs.YtnoamfcnamlbhaaDoor
