/-
  No cell of these rows narrows 'for every input' (looked for: loops, veiled, ifaces, maps, wideKeys, modest, calm, conditions, laid).
  DERIVED. THE GIVEN ROWS OF THIS SEAT. 8 by the template 'for every input the law returns true; each argument reads behind the call as it read before'; 0 by the template 'total and deterministic' (their statements: YtkdmkjlchlcebaaTotals.lean).
  GIVEN WITH THE SEED: the statements are not yours to turn. If you find one false, say at which input.
  Laid BY PROGRAM, IN A SANDBOX (cutbox-rows.mjs): the forced cells as the released guide's own fill.sh prints them over the translation 46830ee764443c3c… (all of the seat's roots in one cut). By AI agents, Wed Nov 11 2026. No macro, syntax, notation, axiom, sorry.
-/
import Derived.Test.YtkdmkjlchlcebaaChecked
import GoSem.Claim
import GoSem.ClaimJoined
import GoSem.ClaimMapViews
import Derived.JoinedTies
import Derived.KernelRfl
namespace Go.Proofs.Ytkdmkjlchlcebaa
/- THE CELL 'sum', in the pinned program and in every row, IS THE sha256 OF THE DUMP (.gsa) THAT YtkdmkjlchlcebaaProg.lean LOADS. Nothing in Lean hashes anything: it is a label: what it is worth is what the hold of that sum in a sandbox is worth. -/
noncomputable def Try.pinned : Pinned := { name := "ytkdmkjlchlcebaa", sum := "46830ee764443c3c1be61e181af1d008c5cd1ef5eeca3378245f6b41fc1e9e4e", checked := Try.checked }
namespace Rows
def none {H : Type} : Left H := { results := [], args := [] }

/-- 'retortlaw5.NodeChecks': WHATEVER THE INPUT: true; the input reads as it did. -/
def nodeChecksSpec : ChangeSpec := { name := "nodeChecks", fn := fun _ => fun
  | [d] => { results := [.lit (.bool true)], args := [d] }
  | _ => none }
def nodeChecksRow : OpenClaim := { program := "ytkdmkjlchlcebaa", sum := "46830ee764443c3c1be61e181af1d008c5cd1ef5eeca3378245f6b41fc1e9e4e", func := "retort/retortlaw5.NodeChecks", spec := "nodeChecks", inPlace := ["internal/bytealg.IndexByteString", "internal/bytealg.IndexString"], unfollowed := true, recurses := true, named := ["internal/bytealg.MaxLen"], apart := false }
def NodeChecksSaid : Prop := nodeChecksRow.holds Try.pinned (OpenSpec.ofChange nodeChecksSpec)

/-- ITS FALSE NEIGHBOUR: 'it returns false'. Refute it at one input. -/
def nodeChecksWrong : ChangeSpec := { name := "nodeChecks", fn := fun _ => fun
  | [d] => { results := [.lit (.bool false)], args := [d] }
  | _ => none }
def NodeChecksWrongFalsely : Prop := nodeChecksRow.holds Try.pinned (OpenSpec.ofChange nodeChecksWrong)

/-- 'retortlaw5.NodeReads': WHATEVER THE INPUT: true; the input reads as it did. -/
def nodeReadsSpec : ChangeSpec := { name := "nodeReads", fn := fun _ => fun
  | [d] => { results := [.lit (.bool true)], args := [d] }
  | _ => none }
def nodeReadsRow : OpenClaim := { program := "ytkdmkjlchlcebaa", sum := "46830ee764443c3c1be61e181af1d008c5cd1ef5eeca3378245f6b41fc1e9e4e", func := "retort/retortlaw5.NodeReads", spec := "nodeReads", inPlace := ["internal/bytealg.IndexByteString", "internal/bytealg.IndexString"], unfollowed := true, recurses := true, named := ["internal/bytealg.MaxLen"], apart := false }
def NodeReadsSaid : Prop := nodeReadsRow.holds Try.pinned (OpenSpec.ofChange nodeReadsSpec)

/-- ITS FALSE NEIGHBOUR: 'it returns false'. Refute it at one input. -/
def nodeReadsWrong : ChangeSpec := { name := "nodeReads", fn := fun _ => fun
  | [d] => { results := [.lit (.bool false)], args := [d] }
  | _ => none }
def NodeReadsWrongFalsely : Prop := nodeReadsRow.holds Try.pinned (OpenSpec.ofChange nodeReadsWrong)

/-- 'retortlaw5.NodeTurns': WHATEVER THE INPUT: true; the input reads as it did. -/
def nodeTurnsSpec : ChangeSpec := { name := "nodeTurns", fn := fun _ => fun
  | [d1, d2, d3, d4] => { results := [.lit (.bool true)], args := [d1, d2, d3, d4] }
  | _ => none }
def nodeTurnsRow : OpenClaim := { program := "ytkdmkjlchlcebaa", sum := "46830ee764443c3c1be61e181af1d008c5cd1ef5eeca3378245f6b41fc1e9e4e", func := "retort/retortlaw5.NodeTurns", spec := "nodeTurns", inPlace := ["internal/bytealg.IndexByteString", "internal/bytealg.IndexString"], unfollowed := true, recurses := true, named := ["internal/bytealg.MaxLen"], apart := false }
def NodeTurnsSaid : Prop := nodeTurnsRow.holds Try.pinned (OpenSpec.ofChange nodeTurnsSpec)

/-- ITS FALSE NEIGHBOUR: 'it returns false'. Refute it at one input. -/
def nodeTurnsWrong : ChangeSpec := { name := "nodeTurns", fn := fun _ => fun
  | [d1, d2, d3, d4] => { results := [.lit (.bool false)], args := [d1, d2, d3, d4] }
  | _ => none }
def NodeTurnsWrongFalsely : Prop := nodeTurnsRow.holds Try.pinned (OpenSpec.ofChange nodeTurnsWrong)

/-- 'retortlaw5.NodeBack': WHATEVER THE INPUT: true; the input reads as it did. -/
def nodeBackSpec : ChangeSpec := { name := "nodeBack", fn := fun _ => fun
  | [d1, d2, d3] => { results := [.lit (.bool true)], args := [d1, d2, d3] }
  | _ => none }
def nodeBackRow : OpenClaim := { program := "ytkdmkjlchlcebaa", sum := "46830ee764443c3c1be61e181af1d008c5cd1ef5eeca3378245f6b41fc1e9e4e", func := "retort/retortlaw5.NodeBack", spec := "nodeBack", inPlace := ["internal/bytealg.IndexByteString", "internal/bytealg.IndexString"], unfollowed := true, recurses := true, named := ["internal/bytealg.MaxLen"], apart := false }
def NodeBackSaid : Prop := nodeBackRow.holds Try.pinned (OpenSpec.ofChange nodeBackSpec)

/-- ITS FALSE NEIGHBOUR: 'it returns false'. Refute it at one input. -/
def nodeBackWrong : ChangeSpec := { name := "nodeBack", fn := fun _ => fun
  | [d1, d2, d3] => { results := [.lit (.bool false)], args := [d1, d2, d3] }
  | _ => none }
def NodeBackWrongFalsely : Prop := nodeBackRow.holds Try.pinned (OpenSpec.ofChange nodeBackWrong)

/-- 'retortlaw5.NodeEdits': WHATEVER THE INPUT: true; the input reads as it did. -/
def nodeEditsSpec : ChangeSpec := { name := "nodeEdits", fn := fun _ => fun
  | [d1, d2, d3] => { results := [.lit (.bool true)], args := [d1, d2, d3] }
  | _ => none }
def nodeEditsRow : OpenClaim := { program := "ytkdmkjlchlcebaa", sum := "46830ee764443c3c1be61e181af1d008c5cd1ef5eeca3378245f6b41fc1e9e4e", func := "retort/retortlaw5.NodeEdits", spec := "nodeEdits", inPlace := ["internal/bytealg.IndexByteString", "internal/bytealg.IndexString", "internal/bytealg.abigen_runtime_cmpstring", "slices.overlaps[retort/api.Entry]"], unfollowed := true, recurses := true, named := ["internal/bytealg.MaxLen"], apart := false }
def NodeEditsSaid : Prop := nodeEditsRow.holds Try.pinned (OpenSpec.ofChange nodeEditsSpec)

/-- ITS FALSE NEIGHBOUR: 'it returns false'. Refute it at one input. -/
def nodeEditsWrong : ChangeSpec := { name := "nodeEdits", fn := fun _ => fun
  | [d1, d2, d3] => { results := [.lit (.bool false)], args := [d1, d2, d3] }
  | _ => none }
def NodeEditsWrongFalsely : Prop := nodeEditsRow.holds Try.pinned (OpenSpec.ofChange nodeEditsWrong)

/-- 'retortlaw5.NodeMade': WHATEVER THE INPUT: true; the input reads as it did. -/
def nodeMadeSpec : ChangeSpec := { name := "nodeMade", fn := fun _ => fun
  | [d1, d2] => { results := [.lit (.bool true)], args := [d1, d2] }
  | _ => none }
def nodeMadeRow : OpenClaim := { program := "ytkdmkjlchlcebaa", sum := "46830ee764443c3c1be61e181af1d008c5cd1ef5eeca3378245f6b41fc1e9e4e", func := "retort/retortlaw5.NodeMade", spec := "nodeMade", inPlace := ["internal/bytealg.IndexByteString", "internal/bytealg.IndexString", "internal/bytealg.abigen_runtime_cmpstring", "slices.overlaps[retort/api.Entry]"], unfollowed := true, recurses := true, named := ["internal/bytealg.MaxLen"], apart := false }
def NodeMadeSaid : Prop := nodeMadeRow.holds Try.pinned (OpenSpec.ofChange nodeMadeSpec)

/-- ITS FALSE NEIGHBOUR: 'it returns false'. Refute it at one input. -/
def nodeMadeWrong : ChangeSpec := { name := "nodeMade", fn := fun _ => fun
  | [d1, d2] => { results := [.lit (.bool false)], args := [d1, d2] }
  | _ => none }
def NodeMadeWrongFalsely : Prop := nodeMadeRow.holds Try.pinned (OpenSpec.ofChange nodeMadeWrong)

/-- 'retortlaw5.NodeOwn': WHATEVER THE INPUT: true; the input reads as it did. -/
def nodeOwnSpec : ChangeSpec := { name := "nodeOwn", fn := fun _ => fun
  | [d1, d2, d3] => { results := [.lit (.bool true)], args := [d1, d2, d3] }
  | _ => none }
def nodeOwnRow : OpenClaim := { program := "ytkdmkjlchlcebaa", sum := "46830ee764443c3c1be61e181af1d008c5cd1ef5eeca3378245f6b41fc1e9e4e", func := "retort/retortlaw5.NodeOwn", spec := "nodeOwn", inPlace := ["internal/bytealg.IndexByteString", "internal/bytealg.IndexString", "internal/bytealg.abigen_runtime_cmpstring", "slices.overlaps[retort/api.Entry]"], unfollowed := true, recurses := true, named := ["internal/bytealg.MaxLen"], apart := false }
def NodeOwnSaid : Prop := nodeOwnRow.holds Try.pinned (OpenSpec.ofChange nodeOwnSpec)

/-- ITS FALSE NEIGHBOUR: 'it returns false'. Refute it at one input. -/
def nodeOwnWrong : ChangeSpec := { name := "nodeOwn", fn := fun _ => fun
  | [d1, d2, d3] => { results := [.lit (.bool false)], args := [d1, d2, d3] }
  | _ => none }
def NodeOwnWrongFalsely : Prop := nodeOwnRow.holds Try.pinned (OpenSpec.ofChange nodeOwnWrong)

/-- 'retortlaw5.NodeAny': WHATEVER THE INPUT: true; the input reads as it did. -/
def nodeAnySpec : ChangeSpec := { name := "nodeAny", fn := fun _ => fun
  | [d1, d2, d3] => { results := [.lit (.bool true)], args := [d1, d2, d3] }
  | _ => none }
def nodeAnyRow : OpenClaim := { program := "ytkdmkjlchlcebaa", sum := "46830ee764443c3c1be61e181af1d008c5cd1ef5eeca3378245f6b41fc1e9e4e", func := "retort/retortlaw5.NodeAny", spec := "nodeAny", inPlace := ["internal/bytealg.IndexByteString", "internal/bytealg.IndexString", "internal/bytealg.abigen_runtime_cmpstring", "slices.overlaps[retort/api.Entry]"], unfollowed := true, recurses := true, named := ["internal/bytealg.MaxLen"], apart := false }
def NodeAnySaid : Prop := nodeAnyRow.holds Try.pinned (OpenSpec.ofChange nodeAnySpec)

/-- ITS FALSE NEIGHBOUR: 'it returns false'. Refute it at one input. -/
def nodeAnyWrong : ChangeSpec := { name := "nodeAny", fn := fun _ => fun
  | [d1, d2, d3] => { results := [.lit (.bool false)], args := [d1, d2, d3] }
  | _ => none }
def NodeAnyWrongFalsely : Prop := nodeAnyRow.holds Try.pinned (OpenSpec.ofChange nodeAnyWrong)

/- THE SECOND FORM. 'bulk': how many values and letters a reading holds, each counted each time it is reached (what is shared counts as often as it is met; a slice's spare places count too). A statement '..UptoSaid' is the law's where the arguments, and the package variables that the reading takes, are together of bulk at most 1048576: NARROWER than '..Said'. Prove '..Said' where nothing that the law and all that it calls make is longer than what came in: it says more and counts as full. Else prove '..UptoSaid'. A law counts once. -/
mutual
def uptoBulk {H : Type} : DataW H → Nat
  | .lit (.string bytes) => bytes.length + 1
  | .lit _ => 1
  | .nil => 1
  | .ptr d => uptoBulk d + 1
  | .slice elems spare => uptoBulkAll elems + uptoBulkAll spare + 1
  | .agg parts => uptoBulkAll parts + 1
  | .iface _ d => uptoBulk d + 1
  | .map entries => uptoBulkEntries entries + 1
  | .held _ => 1
def uptoBulkAll {H : Type} : List (DataW H) → Nat
  | [] => 0
  | d :: r => uptoBulk d + uptoBulkAll r
def uptoBulkEntries {H : Type} : List (Lit × DataW H) → Nat
  | [] => 0
  | x :: r => uptoBulkEntry x + uptoBulkEntries r
def uptoBulkEntry {H : Type} : Lit × DataW H → Nat
  | (.string bytes, d) => bytes.length + uptoBulk d + 1
  | (_, d) => uptoBulk d + 1
 end
def uptoSmall : (H : Type) → List (DataW H) → Bool := fun _ ds => decide (uptoBulkAll ds ≤ 1048576)
def OpenSpec.upto (s : _root_.Go.ChangeSpec) : _root_.Go.OpenSpec := { _root_.Go.OpenSpec.ofChange s with cond := some uptoSmall }

/-- 'retortlaw5.NodeChecks', WHERE WHAT IT READS IS OF BULK AT MOST 1048576: true; the input reads as it did. -/
def nodeChecksUptoRow : OpenClaim := { program := "ytkdmkjlchlcebaa", sum := "46830ee764443c3c1be61e181af1d008c5cd1ef5eeca3378245f6b41fc1e9e4e", func := "retort/retortlaw5.NodeChecks", spec := "nodeChecks", inPlace := ["internal/bytealg.IndexByteString", "internal/bytealg.IndexString"], unfollowed := true, recurses := true, named := ["internal/bytealg.MaxLen"], apart := false, narrowed := true }
def NodeChecksUptoSaid : Prop := nodeChecksUptoRow.holds Try.pinned (OpenSpec.upto nodeChecksSpec)

/-- 'retortlaw5.NodeReads', WHERE WHAT IT READS IS OF BULK AT MOST 1048576: true; the input reads as it did. -/
def nodeReadsUptoRow : OpenClaim := { program := "ytkdmkjlchlcebaa", sum := "46830ee764443c3c1be61e181af1d008c5cd1ef5eeca3378245f6b41fc1e9e4e", func := "retort/retortlaw5.NodeReads", spec := "nodeReads", inPlace := ["internal/bytealg.IndexByteString", "internal/bytealg.IndexString"], unfollowed := true, recurses := true, named := ["internal/bytealg.MaxLen"], apart := false, narrowed := true }
def NodeReadsUptoSaid : Prop := nodeReadsUptoRow.holds Try.pinned (OpenSpec.upto nodeReadsSpec)

/-- 'retortlaw5.NodeTurns', WHERE WHAT IT READS IS OF BULK AT MOST 1048576: true; the input reads as it did. -/
def nodeTurnsUptoRow : OpenClaim := { program := "ytkdmkjlchlcebaa", sum := "46830ee764443c3c1be61e181af1d008c5cd1ef5eeca3378245f6b41fc1e9e4e", func := "retort/retortlaw5.NodeTurns", spec := "nodeTurns", inPlace := ["internal/bytealg.IndexByteString", "internal/bytealg.IndexString"], unfollowed := true, recurses := true, named := ["internal/bytealg.MaxLen"], apart := false, narrowed := true }
def NodeTurnsUptoSaid : Prop := nodeTurnsUptoRow.holds Try.pinned (OpenSpec.upto nodeTurnsSpec)

/-- 'retortlaw5.NodeBack', WHERE WHAT IT READS IS OF BULK AT MOST 1048576: true; the input reads as it did. -/
def nodeBackUptoRow : OpenClaim := { program := "ytkdmkjlchlcebaa", sum := "46830ee764443c3c1be61e181af1d008c5cd1ef5eeca3378245f6b41fc1e9e4e", func := "retort/retortlaw5.NodeBack", spec := "nodeBack", inPlace := ["internal/bytealg.IndexByteString", "internal/bytealg.IndexString"], unfollowed := true, recurses := true, named := ["internal/bytealg.MaxLen"], apart := false, narrowed := true }
def NodeBackUptoSaid : Prop := nodeBackUptoRow.holds Try.pinned (OpenSpec.upto nodeBackSpec)

/-- 'retortlaw5.NodeEdits', WHERE WHAT IT READS IS OF BULK AT MOST 1048576: true; the input reads as it did. -/
def nodeEditsUptoRow : OpenClaim := { program := "ytkdmkjlchlcebaa", sum := "46830ee764443c3c1be61e181af1d008c5cd1ef5eeca3378245f6b41fc1e9e4e", func := "retort/retortlaw5.NodeEdits", spec := "nodeEdits", inPlace := ["internal/bytealg.IndexByteString", "internal/bytealg.IndexString", "internal/bytealg.abigen_runtime_cmpstring", "slices.overlaps[retort/api.Entry]"], unfollowed := true, recurses := true, named := ["internal/bytealg.MaxLen"], apart := false, narrowed := true }
def NodeEditsUptoSaid : Prop := nodeEditsUptoRow.holds Try.pinned (OpenSpec.upto nodeEditsSpec)

/-- 'retortlaw5.NodeMade', WHERE WHAT IT READS IS OF BULK AT MOST 1048576: true; the input reads as it did. -/
def nodeMadeUptoRow : OpenClaim := { program := "ytkdmkjlchlcebaa", sum := "46830ee764443c3c1be61e181af1d008c5cd1ef5eeca3378245f6b41fc1e9e4e", func := "retort/retortlaw5.NodeMade", spec := "nodeMade", inPlace := ["internal/bytealg.IndexByteString", "internal/bytealg.IndexString", "internal/bytealg.abigen_runtime_cmpstring", "slices.overlaps[retort/api.Entry]"], unfollowed := true, recurses := true, named := ["internal/bytealg.MaxLen"], apart := false, narrowed := true }
def NodeMadeUptoSaid : Prop := nodeMadeUptoRow.holds Try.pinned (OpenSpec.upto nodeMadeSpec)

/-- 'retortlaw5.NodeOwn', WHERE WHAT IT READS IS OF BULK AT MOST 1048576: true; the input reads as it did. -/
def nodeOwnUptoRow : OpenClaim := { program := "ytkdmkjlchlcebaa", sum := "46830ee764443c3c1be61e181af1d008c5cd1ef5eeca3378245f6b41fc1e9e4e", func := "retort/retortlaw5.NodeOwn", spec := "nodeOwn", inPlace := ["internal/bytealg.IndexByteString", "internal/bytealg.IndexString", "internal/bytealg.abigen_runtime_cmpstring", "slices.overlaps[retort/api.Entry]"], unfollowed := true, recurses := true, named := ["internal/bytealg.MaxLen"], apart := false, narrowed := true }
def NodeOwnUptoSaid : Prop := nodeOwnUptoRow.holds Try.pinned (OpenSpec.upto nodeOwnSpec)

/-- 'retortlaw5.NodeAny', WHERE WHAT IT READS IS OF BULK AT MOST 1048576: true; the input reads as it did. -/
def nodeAnyUptoRow : OpenClaim := { program := "ytkdmkjlchlcebaa", sum := "46830ee764443c3c1be61e181af1d008c5cd1ef5eeca3378245f6b41fc1e9e4e", func := "retort/retortlaw5.NodeAny", spec := "nodeAny", inPlace := ["internal/bytealg.IndexByteString", "internal/bytealg.IndexString", "internal/bytealg.abigen_runtime_cmpstring", "slices.overlaps[retort/api.Entry]"], unfollowed := true, recurses := true, named := ["internal/bytealg.MaxLen"], apart := false, narrowed := true }
def NodeAnyUptoSaid : Prop := nodeAnyUptoRow.holds Try.pinned (OpenSpec.upto nodeAnySpec)

end Rows
end Go.Proofs.Ytkdmkjlchlcebaa
