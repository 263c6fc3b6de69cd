/-
  DERIVED. GIVEN WITH THE SEED: THE CARDS: each row of YtepaojbhjgefiaaGreatDoorRows.lean that lists a variable, with what it lists TIED to the program's text (the seventh form; the later family's looks); each row that meets fmt, with fmt's text TOLD by the authors' own Lean function (tested against real Go, not proved from fmt's source: count such statements apart). THE CARD IS WHAT COUNTS. Prove the row's statement (the work); the ties are given (YtepaojbhjgefiaaGreatDoorTie.lean); close each card by the builder's one call (the guide's Derived/Test/ToyasCard.lean, 'card_holds'). Laid BY PROGRAM, IN A SANDBOX (cutbox-door.mjs). By AI agents, Wed Nov 11 2026. No macro, syntax, notation, axiom, sorry.
-/
import Derived.Test.YtepaojbhjgefiaaGreatDoorRows
import GoSem.ClaimSeven
namespace Go.Proofs.YtepaojbhjgefiaaGreatDoor
namespace Rows

/-- THE TIED CARD OF 'retortlaw9.VfsNew'. -/
def vfsNewCard : Claim7 := { stood := { row := vfsNewRow, standIns := [], harness := (true, "df75f9ebe914f134f7ae100bf6261b35c514ffdaa2320c64f4a71ffac06c20e6"), looks := false }, kinds := [], alts := [], laidByText := true, laidKinds := [.data, .pinned], laidTests := true, laidLooks := .later }
def VfsNewCardSaid : Prop := Claim7.holds Tryz.pinned (.plain (OpenSpec.ofChange vfsNewSpec)) vfsNewCard

/-- THE TIED CARD OF 'retortlaw9.VfsPlays'. -/
def vfsPlaysCard : Claim7 := { stood := { row := vfsPlaysRow, standIns := [], harness := (true, "df75f9ebe914f134f7ae100bf6261b35c514ffdaa2320c64f4a71ffac06c20e6"), looks := false }, kinds := [], alts := [], laidByText := true, laidKinds := [.data, .pinned], laidTests := true, laidLooks := .later }
def VfsPlaysCardSaid : Prop := Claim7.holds Tryz.pinned (.plain (OpenSpec.ofChange vfsPlaysSpec)) vfsPlaysCard

/-- THE SECOND FORM's CARD OF 'retortlaw9.VfsNew'. -/
def vfsNewUptoCard : Claim7 := { stood := { row := vfsNewUptoRow, standIns := [], harness := (true, "df75f9ebe914f134f7ae100bf6261b35c514ffdaa2320c64f4a71ffac06c20e6"), looks := false }, kinds := [], alts := [], laidByText := true, laidKinds := [.data, .pinned], laidTests := true, laidLooks := .later }
def VfsNewUptoCardSaid : Prop := Claim7.holds Tryz.pinned (.plain (OpenSpec.upto vfsNewSpec)) vfsNewUptoCard

/-- THE SECOND FORM's CARD OF 'retortlaw9.VfsPlays'. -/
def vfsPlaysUptoCard : Claim7 := { stood := { row := vfsPlaysUptoRow, standIns := [], harness := (true, "df75f9ebe914f134f7ae100bf6261b35c514ffdaa2320c64f4a71ffac06c20e6"), looks := false }, kinds := [], alts := [], laidByText := true, laidKinds := [.data, .pinned], laidTests := true, laidLooks := .later }
def VfsPlaysUptoCardSaid : Prop := Claim7.holds Tryz.pinned (.plain (OpenSpec.upto vfsPlaysSpec)) vfsPlaysUptoCard
end Rows
end Go.Proofs.YtepaojbhjgefiaaGreatDoor
