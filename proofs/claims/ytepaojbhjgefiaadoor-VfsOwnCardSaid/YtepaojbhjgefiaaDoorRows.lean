/-
  NARROWER THAN 'FOR EVERY INPUT', by the rows' own cells (each row's printed sentence says how): VfsKeeps: laid · VfsOwn: laid · VfsBounds: laid · VfsTwins: laid.
  DERIVED. THE GIVEN ROWS OF THIS SEAT. 4 by the template 'for every input the law returns true; each argument reads behind the call as it read before'; 0 by the template 'total and deterministic' (their statements: YtepaojbhjgefiaaDoorTotals.lean).
  GIVEN WITH THE SEED: the statements are not yours to turn. If you find one false, say at which input.
  Laid BY PROGRAM, IN A SANDBOX (cutbox-rows.mjs): the forced cells as the released guide's own fill.sh prints them over the translation f85b8c1ec1fee35b… (all of the seat's roots in one cut). By AI agents, Wed Nov 11 2026. No macro, syntax, notation, axiom, sorry.
-/
import Derived.Test.YtepaojbhjgefiaaDoorChecked
import GoSem.PinnedTables
import GoSem.Claim
import GoSem.ClaimJoined
import GoSem.ClaimMapViews
import Derived.JoinedTies
import Derived.KernelRfl
namespace Go.Proofs.YtepaojbhjgefiaaDoor
/- THE CELL 'sum', in the pinned program and in every row, IS THE sha256 OF THE DUMP (.gsa) THAT YtepaojbhjgefiaaDoorProg.lean LOADS. Nothing in Lean hashes anything: it is a label: what it is worth is what the hold of that sum in a sandbox is worth. -/
noncomputable def Tryd.pinned : Pinned := { name := "ytepaojbhjgefiaadoor", sum := "f85b8c1ec1fee35bdf1bbb1f5bfd76facdd6da5ac9670bbd22aa81388ed48139", checked := Tryd.checked }
namespace Rows
def none {H : Type} : Left H := { results := [], args := [] }

/- WHAT THE LISTED PACKAGE-LEVEL VARIABLES READ AS WHEN THE CALL BEGINS. Each datum BY PROGRAM (the guide's laid-datum.mjs) off the statement by which the dump's own 'gosem.cut.vars' lays the variable. In a bare row this is a premise. The card (YtepaojbhjgefiaaDoorCards.lean) ties it to the program's text. -/
def laid_unicode_utf8_acceptRanges {H : Type} : DataW H := .agg [.agg [.lit (.int .u8 128), .lit (.int .u8 191)], .agg [.lit (.int .u8 160), .lit (.int .u8 191)], .agg [.lit (.int .u8 128), .lit (.int .u8 159)], .agg [.lit (.int .u8 144), .lit (.int .u8 191)], .agg [.lit (.int .u8 128), .lit (.int .u8 143)], .agg [.lit (.int .u8 0), .lit (.int .u8 0)], .agg [.lit (.int .u8 0), .lit (.int .u8 0)], .agg [.lit (.int .u8 0), .lit (.int .u8 0)], .agg [.lit (.int .u8 0), .lit (.int .u8 0)], .agg [.lit (.int .u8 0), .lit (.int .u8 0)], .agg [.lit (.int .u8 0), .lit (.int .u8 0)], .agg [.lit (.int .u8 0), .lit (.int .u8 0)], .agg [.lit (.int .u8 0), .lit (.int .u8 0)], .agg [.lit (.int .u8 0), .lit (.int .u8 0)], .agg [.lit (.int .u8 0), .lit (.int .u8 0)], .agg [.lit (.int .u8 0), .lit (.int .u8 0)]]
/-- One of Go's own tables, pinned by name: the form's constant. -/
def laid_unicode_utf8_first : DataW Unit := Go.Pinned.utf8First

/-- 'retortlaw9.VfsKeeps': WHATEVER THE INPUT: true; the input reads as it did. -/
def vfsKeepsSpec : ChangeSpec := { name := "vfsKeeps", fn := fun _ => fun
  | [d1, d2] => { results := [.lit (.bool true)], args := [d1, d2] }
  | _ => none }
def vfsKeepsRow : OpenClaim := { program := "ytepaojbhjgefiaadoor", sum := "f85b8c1ec1fee35bdf1bbb1f5bfd76facdd6da5ac9670bbd22aa81388ed48139", func := "retort/retortlaw9.VfsKeeps", spec := "vfsKeeps", inPlace := ["internal/bytealg.CountString", "internal/bytealg.IndexByteString", "internal/bytealg.IndexString", "internal/abi.NoEscape", "internal/bytealg.MakeNoZero"], unfollowed := true, recurses := true, named := ["unicode/utf8.first", "unicode/utf8.acceptRanges", "internal/bytealg.MaxLen"], apart := false, laid := [("unicode/utf8.acceptRanges", laid_unicode_utf8_acceptRanges), ("unicode/utf8.first", laid_unicode_utf8_first)] }
def VfsKeepsSaid : Prop := vfsKeepsRow.holds Tryd.pinned (OpenSpec.ofChange vfsKeepsSpec)

/-- ITS FALSE NEIGHBOUR: 'it returns false'. Refute it at one input. -/
def vfsKeepsWrong : ChangeSpec := { name := "vfsKeeps", fn := fun _ => fun
  | [d1, d2] => { results := [.lit (.bool false)], args := [d1, d2] }
  | _ => none }
def VfsKeepsWrongFalsely : Prop := vfsKeepsRow.holds Tryd.pinned (OpenSpec.ofChange vfsKeepsWrong)

/-- 'retortlaw9.VfsOwn': WHATEVER THE INPUT: true; the input reads as it did. -/
def vfsOwnSpec : ChangeSpec := { name := "vfsOwn", fn := fun _ => fun
  | [d1, d2] => { results := [.lit (.bool true)], args := [d1, d2] }
  | _ => none }
def vfsOwnRow : OpenClaim := { program := "ytepaojbhjgefiaadoor", sum := "f85b8c1ec1fee35bdf1bbb1f5bfd76facdd6da5ac9670bbd22aa81388ed48139", func := "retort/retortlaw9.VfsOwn", spec := "vfsOwn", inPlace := ["internal/bytealg.CountString", "internal/bytealg.IndexByteString", "internal/bytealg.IndexString", "internal/abi.NoEscape", "internal/bytealg.MakeNoZero"], unfollowed := true, recurses := true, named := ["unicode/utf8.first", "unicode/utf8.acceptRanges", "internal/bytealg.MaxLen"], apart := false, laid := [("unicode/utf8.acceptRanges", laid_unicode_utf8_acceptRanges), ("unicode/utf8.first", laid_unicode_utf8_first)] }
def VfsOwnSaid : Prop := vfsOwnRow.holds Tryd.pinned (OpenSpec.ofChange vfsOwnSpec)

/-- ITS FALSE NEIGHBOUR: 'it returns false'. Refute it at one input. -/
def vfsOwnWrong : ChangeSpec := { name := "vfsOwn", fn := fun _ => fun
  | [d1, d2] => { results := [.lit (.bool false)], args := [d1, d2] }
  | _ => none }
def VfsOwnWrongFalsely : Prop := vfsOwnRow.holds Tryd.pinned (OpenSpec.ofChange vfsOwnWrong)

/-- 'retortlaw9.VfsBounds': WHATEVER THE INPUT: true; the input reads as it did. -/
def vfsBoundsSpec : ChangeSpec := { name := "vfsBounds", fn := fun _ => fun
  | [d1, d2, d3] => { results := [.lit (.bool true)], args := [d1, d2, d3] }
  | _ => none }
def vfsBoundsRow : OpenClaim := { program := "ytepaojbhjgefiaadoor", sum := "f85b8c1ec1fee35bdf1bbb1f5bfd76facdd6da5ac9670bbd22aa81388ed48139", func := "retort/retortlaw9.VfsBounds", spec := "vfsBounds", inPlace := ["internal/bytealg.CountString", "internal/bytealg.IndexByteString", "internal/bytealg.IndexString", "internal/abi.NoEscape", "internal/bytealg.MakeNoZero"], unfollowed := true, recurses := true, named := ["unicode/utf8.first", "unicode/utf8.acceptRanges", "internal/bytealg.MaxLen"], apart := false, laid := [("unicode/utf8.acceptRanges", laid_unicode_utf8_acceptRanges), ("unicode/utf8.first", laid_unicode_utf8_first)] }
def VfsBoundsSaid : Prop := vfsBoundsRow.holds Tryd.pinned (OpenSpec.ofChange vfsBoundsSpec)

/-- ITS FALSE NEIGHBOUR: 'it returns false'. Refute it at one input. -/
def vfsBoundsWrong : ChangeSpec := { name := "vfsBounds", fn := fun _ => fun
  | [d1, d2, d3] => { results := [.lit (.bool false)], args := [d1, d2, d3] }
  | _ => none }
def VfsBoundsWrongFalsely : Prop := vfsBoundsRow.holds Tryd.pinned (OpenSpec.ofChange vfsBoundsWrong)

/-- 'retortlaw9.VfsTwins': WHATEVER THE INPUT: true; the input reads as it did. -/
def vfsTwinsSpec : ChangeSpec := { name := "vfsTwins", fn := fun _ => fun
  | [d1, d2, d3, d4, d5] => { results := [.lit (.bool true)], args := [d1, d2, d3, d4, d5] }
  | _ => none }
def vfsTwinsRow : OpenClaim := { program := "ytepaojbhjgefiaadoor", sum := "f85b8c1ec1fee35bdf1bbb1f5bfd76facdd6da5ac9670bbd22aa81388ed48139", func := "retort/retortlaw9.VfsTwins", spec := "vfsTwins", inPlace := ["internal/bytealg.CountString", "internal/bytealg.IndexByteString", "internal/bytealg.IndexString", "internal/abi.NoEscape", "internal/bytealg.MakeNoZero"], unfollowed := true, recurses := true, named := ["unicode/utf8.first", "unicode/utf8.acceptRanges", "internal/bytealg.MaxLen"], apart := false, laid := [("unicode/utf8.acceptRanges", laid_unicode_utf8_acceptRanges), ("unicode/utf8.first", laid_unicode_utf8_first)] }
def VfsTwinsSaid : Prop := vfsTwinsRow.holds Tryd.pinned (OpenSpec.ofChange vfsTwinsSpec)

/-- ITS FALSE NEIGHBOUR: 'it returns false'. Refute it at one input. -/
def vfsTwinsWrong : ChangeSpec := { name := "vfsTwins", fn := fun _ => fun
  | [d1, d2, d3, d4, d5] => { results := [.lit (.bool false)], args := [d1, d2, d3, d4, d5] }
  | _ => none }
def VfsTwinsWrongFalsely : Prop := vfsTwinsRow.holds Tryd.pinned (OpenSpec.ofChange vfsTwinsWrong)

/- THE SECOND FORM. 'bulk': how many values and letters a reading holds, each counted each time it is reached (what is shared counts as often as it is met; a slice's spare places count too). A statement '..UptoSaid' is the law's where the arguments, and the package variables that the reading takes, are together of bulk at most 1048576: NARROWER than '..Said'. Prove '..Said' where nothing that the law and all that it calls make is longer than what came in: it says more and counts as full. Else prove '..UptoSaid'. A law counts once. -/
mutual
def uptoBulk {H : Type} : DataW H → Nat
  | .lit (.string bytes) => bytes.length + 1
  | .lit _ => 1
  | .nil => 1
  | .ptr d => uptoBulk d + 1
  | .slice elems spare => uptoBulkAll elems + uptoBulkAll spare + 1
  | .agg parts => uptoBulkAll parts + 1
  | .iface _ d => uptoBulk d + 1
  | .map entries => uptoBulkEntries entries + 1
  | .held _ => 1
def uptoBulkAll {H : Type} : List (DataW H) → Nat
  | [] => 0
  | d :: r => uptoBulk d + uptoBulkAll r
def uptoBulkEntries {H : Type} : List (Lit × DataW H) → Nat
  | [] => 0
  | x :: r => uptoBulkEntry x + uptoBulkEntries r
def uptoBulkEntry {H : Type} : Lit × DataW H → Nat
  | (.string bytes, d) => bytes.length + uptoBulk d + 1
  | (_, d) => uptoBulk d + 1
 end
def uptoSmall : (H : Type) → List (DataW H) → Bool := fun _ ds => decide (uptoBulkAll ds ≤ 1048576)
def OpenSpec.upto (s : _root_.Go.ChangeSpec) : _root_.Go.OpenSpec := { _root_.Go.OpenSpec.ofChange s with cond := some uptoSmall }

/-- 'retortlaw9.VfsKeeps', WHERE WHAT IT READS IS OF BULK AT MOST 1048576: true; the input reads as it did. -/
def vfsKeepsUptoRow : OpenClaim := { program := "ytepaojbhjgefiaadoor", sum := "f85b8c1ec1fee35bdf1bbb1f5bfd76facdd6da5ac9670bbd22aa81388ed48139", func := "retort/retortlaw9.VfsKeeps", spec := "vfsKeeps", inPlace := ["internal/bytealg.CountString", "internal/bytealg.IndexByteString", "internal/bytealg.IndexString", "internal/abi.NoEscape", "internal/bytealg.MakeNoZero"], unfollowed := true, recurses := true, named := ["unicode/utf8.first", "unicode/utf8.acceptRanges", "internal/bytealg.MaxLen"], apart := false, laid := [("unicode/utf8.acceptRanges", laid_unicode_utf8_acceptRanges), ("unicode/utf8.first", laid_unicode_utf8_first)], narrowed := true }
def VfsKeepsUptoSaid : Prop := vfsKeepsUptoRow.holds Tryd.pinned (OpenSpec.upto vfsKeepsSpec)

/-- 'retortlaw9.VfsOwn', WHERE WHAT IT READS IS OF BULK AT MOST 1048576: true; the input reads as it did. -/
def vfsOwnUptoRow : OpenClaim := { program := "ytepaojbhjgefiaadoor", sum := "f85b8c1ec1fee35bdf1bbb1f5bfd76facdd6da5ac9670bbd22aa81388ed48139", func := "retort/retortlaw9.VfsOwn", spec := "vfsOwn", inPlace := ["internal/bytealg.CountString", "internal/bytealg.IndexByteString", "internal/bytealg.IndexString", "internal/abi.NoEscape", "internal/bytealg.MakeNoZero"], unfollowed := true, recurses := true, named := ["unicode/utf8.first", "unicode/utf8.acceptRanges", "internal/bytealg.MaxLen"], apart := false, laid := [("unicode/utf8.acceptRanges", laid_unicode_utf8_acceptRanges), ("unicode/utf8.first", laid_unicode_utf8_first)], narrowed := true }
def VfsOwnUptoSaid : Prop := vfsOwnUptoRow.holds Tryd.pinned (OpenSpec.upto vfsOwnSpec)

/-- 'retortlaw9.VfsBounds', WHERE WHAT IT READS IS OF BULK AT MOST 1048576: true; the input reads as it did. -/
def vfsBoundsUptoRow : OpenClaim := { program := "ytepaojbhjgefiaadoor", sum := "f85b8c1ec1fee35bdf1bbb1f5bfd76facdd6da5ac9670bbd22aa81388ed48139", func := "retort/retortlaw9.VfsBounds", spec := "vfsBounds", inPlace := ["internal/bytealg.CountString", "internal/bytealg.IndexByteString", "internal/bytealg.IndexString", "internal/abi.NoEscape", "internal/bytealg.MakeNoZero"], unfollowed := true, recurses := true, named := ["unicode/utf8.first", "unicode/utf8.acceptRanges", "internal/bytealg.MaxLen"], apart := false, laid := [("unicode/utf8.acceptRanges", laid_unicode_utf8_acceptRanges), ("unicode/utf8.first", laid_unicode_utf8_first)], narrowed := true }
def VfsBoundsUptoSaid : Prop := vfsBoundsUptoRow.holds Tryd.pinned (OpenSpec.upto vfsBoundsSpec)

/-- 'retortlaw9.VfsTwins', WHERE WHAT IT READS IS OF BULK AT MOST 1048576: true; the input reads as it did. -/
def vfsTwinsUptoRow : OpenClaim := { program := "ytepaojbhjgefiaadoor", sum := "f85b8c1ec1fee35bdf1bbb1f5bfd76facdd6da5ac9670bbd22aa81388ed48139", func := "retort/retortlaw9.VfsTwins", spec := "vfsTwins", inPlace := ["internal/bytealg.CountString", "internal/bytealg.IndexByteString", "internal/bytealg.IndexString", "internal/abi.NoEscape", "internal/bytealg.MakeNoZero"], unfollowed := true, recurses := true, named := ["unicode/utf8.first", "unicode/utf8.acceptRanges", "internal/bytealg.MaxLen"], apart := false, laid := [("unicode/utf8.acceptRanges", laid_unicode_utf8_acceptRanges), ("unicode/utf8.first", laid_unicode_utf8_first)], narrowed := true }
def VfsTwinsUptoSaid : Prop := vfsTwinsUptoRow.holds Tryd.pinned (OpenSpec.upto vfsTwinsSpec)

end Rows
end Go.Proofs.YtepaojbhjgefiaaDoor
