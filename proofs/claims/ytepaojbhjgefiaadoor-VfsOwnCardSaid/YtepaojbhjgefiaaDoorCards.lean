/-
  DERIVED. GIVEN WITH THE SEED: THE CARDS: each row of YtepaojbhjgefiaaDoorRows.lean that lists a variable, with what it lists TIED to the program's text (the seventh form; the later family's looks); each row that meets fmt, with fmt's text TOLD by the authors' own Lean function (tested against real Go, not proved from fmt's source: count such statements apart). THE CARD IS WHAT COUNTS. Prove the row's statement (the work); the ties are given (YtepaojbhjgefiaaDoorTie.lean); close each card by the builder's one call (the guide's Derived/Test/ToyasCard.lean, 'card_holds'). Laid BY PROGRAM, IN A SANDBOX (cutbox-door.mjs). By AI agents, Wed Nov 11 2026. No macro, syntax, notation, axiom, sorry.
-/
import Derived.Test.YtepaojbhjgefiaaDoorRows
import GoSem.ClaimSeven
namespace Go.Proofs.YtepaojbhjgefiaaDoor
namespace Rows

/-- THE TIED CARD OF 'retortlaw9.VfsKeeps'. -/
def vfsKeepsCard : Claim7 := { stood := { row := vfsKeepsRow, standIns := [], harness := (true, "d081cdf3d3310e3e0e8b05e0294794cdc5ec0bf0f4cabffa0a7de67e63638090"), looks := false }, kinds := [], alts := [], laidByText := true, laidKinds := [.data, .pinned], laidTests := true, laidLooks := .later }
def VfsKeepsCardSaid : Prop := Claim7.holds Tryd.pinned (.plain (OpenSpec.ofChange vfsKeepsSpec)) vfsKeepsCard

/-- THE TIED CARD OF 'retortlaw9.VfsOwn'. -/
def vfsOwnCard : Claim7 := { stood := { row := vfsOwnRow, standIns := [], harness := (true, "d081cdf3d3310e3e0e8b05e0294794cdc5ec0bf0f4cabffa0a7de67e63638090"), looks := false }, kinds := [], alts := [], laidByText := true, laidKinds := [.data, .pinned], laidTests := true, laidLooks := .later }
def VfsOwnCardSaid : Prop := Claim7.holds Tryd.pinned (.plain (OpenSpec.ofChange vfsOwnSpec)) vfsOwnCard

/-- THE TIED CARD OF 'retortlaw9.VfsBounds'. -/
def vfsBoundsCard : Claim7 := { stood := { row := vfsBoundsRow, standIns := [], harness := (true, "d081cdf3d3310e3e0e8b05e0294794cdc5ec0bf0f4cabffa0a7de67e63638090"), looks := false }, kinds := [], alts := [], laidByText := true, laidKinds := [.data, .pinned], laidTests := true, laidLooks := .later }
def VfsBoundsCardSaid : Prop := Claim7.holds Tryd.pinned (.plain (OpenSpec.ofChange vfsBoundsSpec)) vfsBoundsCard

/-- THE TIED CARD OF 'retortlaw9.VfsTwins'. -/
def vfsTwinsCard : Claim7 := { stood := { row := vfsTwinsRow, standIns := [], harness := (true, "d081cdf3d3310e3e0e8b05e0294794cdc5ec0bf0f4cabffa0a7de67e63638090"), looks := false }, kinds := [], alts := [], laidByText := true, laidKinds := [.data, .pinned], laidTests := true, laidLooks := .later }
def VfsTwinsCardSaid : Prop := Claim7.holds Tryd.pinned (.plain (OpenSpec.ofChange vfsTwinsSpec)) vfsTwinsCard

/-- THE SECOND FORM's CARD OF 'retortlaw9.VfsKeeps'. -/
def vfsKeepsUptoCard : Claim7 := { stood := { row := vfsKeepsUptoRow, standIns := [], harness := (true, "d081cdf3d3310e3e0e8b05e0294794cdc5ec0bf0f4cabffa0a7de67e63638090"), looks := false }, kinds := [], alts := [], laidByText := true, laidKinds := [.data, .pinned], laidTests := true, laidLooks := .later }
def VfsKeepsUptoCardSaid : Prop := Claim7.holds Tryd.pinned (.plain (OpenSpec.upto vfsKeepsSpec)) vfsKeepsUptoCard

/-- THE SECOND FORM's CARD OF 'retortlaw9.VfsOwn'. -/
def vfsOwnUptoCard : Claim7 := { stood := { row := vfsOwnUptoRow, standIns := [], harness := (true, "d081cdf3d3310e3e0e8b05e0294794cdc5ec0bf0f4cabffa0a7de67e63638090"), looks := false }, kinds := [], alts := [], laidByText := true, laidKinds := [.data, .pinned], laidTests := true, laidLooks := .later }
def VfsOwnUptoCardSaid : Prop := Claim7.holds Tryd.pinned (.plain (OpenSpec.upto vfsOwnSpec)) vfsOwnUptoCard

/-- THE SECOND FORM's CARD OF 'retortlaw9.VfsBounds'. -/
def vfsBoundsUptoCard : Claim7 := { stood := { row := vfsBoundsUptoRow, standIns := [], harness := (true, "d081cdf3d3310e3e0e8b05e0294794cdc5ec0bf0f4cabffa0a7de67e63638090"), looks := false }, kinds := [], alts := [], laidByText := true, laidKinds := [.data, .pinned], laidTests := true, laidLooks := .later }
def VfsBoundsUptoCardSaid : Prop := Claim7.holds Tryd.pinned (.plain (OpenSpec.upto vfsBoundsSpec)) vfsBoundsUptoCard

/-- THE SECOND FORM's CARD OF 'retortlaw9.VfsTwins'. -/
def vfsTwinsUptoCard : Claim7 := { stood := { row := vfsTwinsUptoRow, standIns := [], harness := (true, "d081cdf3d3310e3e0e8b05e0294794cdc5ec0bf0f4cabffa0a7de67e63638090"), looks := false }, kinds := [], alts := [], laidByText := true, laidKinds := [.data, .pinned], laidTests := true, laidLooks := .later }
def VfsTwinsUptoCardSaid : Prop := Claim7.holds Tryd.pinned (.plain (OpenSpec.upto vfsTwinsSpec)) vfsTwinsUptoCard
end Rows
end Go.Proofs.YtepaojbhjgefiaaDoor
