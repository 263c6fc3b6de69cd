/-
  No cell of these rows narrows 'for every input' (looked for: loops, veiled, ifaces, maps, wideKeys, modest, calm, conditions, laid).
  DERIVED. THE GIVEN ROWS OF THIS SEAT. 7 by the template 'for every input the law returns true; each argument reads behind the call as it read before'; 0 by the template 'total and deterministic' (their statements: YtakhjiecinpmiaaTotals.lean).
  GIVEN WITH THE SEED: the statements are not yours to turn. If you find one false, say at which input.
  Laid BY PROGRAM, IN A SANDBOX (cutbox-rows.mjs): the forced cells as the released guide's own fill.sh prints them over the translation 431f90eae954e0c1… (all of the seat's roots in one cut). By AI agents, Wed Nov 11 2026. No macro, syntax, notation, axiom, sorry.
-/
import Derived.Test.YtakhjiecinpmiaaChecked
import GoSem.Claim
import GoSem.ClaimJoined
import GoSem.ClaimMapViews
import Derived.JoinedTies
import Derived.KernelRfl
namespace Go.Proofs.Ytakhjiecinpmiaa
/- THE CELL 'sum', in the pinned program and in every row, IS THE sha256 OF THE DUMP (.gsa) THAT YtakhjiecinpmiaaProg.lean LOADS. Nothing in Lean hashes anything: it is a label: what it is worth is what the hold of that sum in a sandbox is worth. -/
noncomputable def Try.pinned : Pinned := { name := "ytakhjiecinpmiaa", sum := "431f90eae954e0c1f74b9f296e993a2100952f06aa69c01586a04f3486be1907", checked := Try.checked }
namespace Rows
def none {H : Type} : Left H := { results := [], args := [] }

/-- 'retortlaw4.CasClash': WHATEVER THE INPUT: true; the input reads as it did. -/
def casClashSpec : ChangeSpec := { name := "casClash", fn := fun _ => fun
  | [d1, d2, d3, d4] => { results := [.lit (.bool true)], args := [d1, d2, d3, d4] }
  | _ => none }
def casClashRow : OpenClaim := { program := "ytakhjiecinpmiaa", sum := "431f90eae954e0c1f74b9f296e993a2100952f06aa69c01586a04f3486be1907", func := "retort/retortlaw4.CasClash", spec := "casClash", inPlace := ["internal/bytealg.Compare"], unfollowed := true, recurses := true, plainKeys := false, apart := false }
def CasClashSaid : Prop := casClashRow.holds Try.pinned (OpenSpec.ofChange casClashSpec)

/-- ITS FALSE NEIGHBOUR: 'it returns false'. Refute it at one input. -/
def casClashWrong : ChangeSpec := { name := "casClash", fn := fun _ => fun
  | [d1, d2, d3, d4] => { results := [.lit (.bool false)], args := [d1, d2, d3, d4] }
  | _ => none }
def CasClashWrongFalsely : Prop := casClashRow.holds Try.pinned (OpenSpec.ofChange casClashWrong)

/-- 'retortlaw4.CasBig': WHATEVER THE INPUT: true; the input reads as it did. -/
def casBigSpec : ChangeSpec := { name := "casBig", fn := fun _ => fun
  | [d1, d2] => { results := [.lit (.bool true)], args := [d1, d2] }
  | _ => none }
def casBigRow : OpenClaim := { program := "ytakhjiecinpmiaa", sum := "431f90eae954e0c1f74b9f296e993a2100952f06aa69c01586a04f3486be1907", func := "retort/retortlaw4.CasBig", spec := "casBig", inPlace := ["internal/bytealg.Compare"], unfollowed := true, recurses := true, plainKeys := false, apart := false }
def CasBigSaid : Prop := casBigRow.holds Try.pinned (OpenSpec.ofChange casBigSpec)

/-- ITS FALSE NEIGHBOUR: 'it returns false'. Refute it at one input. -/
def casBigWrong : ChangeSpec := { name := "casBig", fn := fun _ => fun
  | [d1, d2] => { results := [.lit (.bool false)], args := [d1, d2] }
  | _ => none }
def CasBigWrongFalsely : Prop := casBigRow.holds Try.pinned (OpenSpec.ofChange casBigWrong)

/-- 'retortlaw4.CasRoom': WHATEVER THE INPUT: true; the input reads as it did. -/
def casRoomSpec : ChangeSpec := { name := "casRoom", fn := fun _ => fun
  | [d1, d2, d3] => { results := [.lit (.bool true)], args := [d1, d2, d3] }
  | _ => none }
def casRoomRow : OpenClaim := { program := "ytakhjiecinpmiaa", sum := "431f90eae954e0c1f74b9f296e993a2100952f06aa69c01586a04f3486be1907", func := "retort/retortlaw4.CasRoom", spec := "casRoom", inPlace := ["internal/bytealg.Compare"], unfollowed := true, recurses := true, plainKeys := false, apart := false }
def CasRoomSaid : Prop := casRoomRow.holds Try.pinned (OpenSpec.ofChange casRoomSpec)

/-- ITS FALSE NEIGHBOUR: 'it returns false'. Refute it at one input. -/
def casRoomWrong : ChangeSpec := { name := "casRoom", fn := fun _ => fun
  | [d1, d2, d3] => { results := [.lit (.bool false)], args := [d1, d2, d3] }
  | _ => none }
def CasRoomWrongFalsely : Prop := casRoomRow.holds Try.pinned (OpenSpec.ofChange casRoomWrong)

/-- 'retortlaw4.CasFound': WHATEVER THE INPUT: true; the input reads as it did. -/
def casFoundSpec : ChangeSpec := { name := "casFound", fn := fun _ => fun
  | [d1, d2, d3] => { results := [.lit (.bool true)], args := [d1, d2, d3] }
  | _ => none }
def casFoundRow : OpenClaim := { program := "ytakhjiecinpmiaa", sum := "431f90eae954e0c1f74b9f296e993a2100952f06aa69c01586a04f3486be1907", func := "retort/retortlaw4.CasFound", spec := "casFound", inPlace := ["internal/bytealg.Compare"], unfollowed := true, recurses := true, plainKeys := false, apart := false }
def CasFoundSaid : Prop := casFoundRow.holds Try.pinned (OpenSpec.ofChange casFoundSpec)

/-- ITS FALSE NEIGHBOUR: 'it returns false'. Refute it at one input. -/
def casFoundWrong : ChangeSpec := { name := "casFound", fn := fun _ => fun
  | [d1, d2, d3] => { results := [.lit (.bool false)], args := [d1, d2, d3] }
  | _ => none }
def CasFoundWrongFalsely : Prop := casFoundRow.holds Try.pinned (OpenSpec.ofChange casFoundWrong)

/-- 'retortlaw4.CasPlays': WHATEVER THE INPUT: true; the input reads as it did. -/
def casPlaysSpec : ChangeSpec := { name := "casPlays", fn := fun _ => fun
  | [d1, d2, d3] => { results := [.lit (.bool true)], args := [d1, d2, d3] }
  | _ => none }
def casPlaysRow : OpenClaim := { program := "ytakhjiecinpmiaa", sum := "431f90eae954e0c1f74b9f296e993a2100952f06aa69c01586a04f3486be1907", func := "retort/retortlaw4.CasPlays", spec := "casPlays", inPlace := ["internal/bytealg.Compare"], unfollowed := true, recurses := true, plainKeys := false, apart := false }
def CasPlaysSaid : Prop := casPlaysRow.holds Try.pinned (OpenSpec.ofChange casPlaysSpec)

/-- ITS FALSE NEIGHBOUR: 'it returns false'. Refute it at one input. -/
def casPlaysWrong : ChangeSpec := { name := "casPlays", fn := fun _ => fun
  | [d1, d2, d3] => { results := [.lit (.bool false)], args := [d1, d2, d3] }
  | _ => none }
def CasPlaysWrongFalsely : Prop := casPlaysRow.holds Try.pinned (OpenSpec.ofChange casPlaysWrong)

/-- 'retortlaw4.CasAlls': WHATEVER THE INPUT: true; the input reads as it did. -/
def casAllsSpec : ChangeSpec := { name := "casAlls", fn := fun _ => fun
  | [d1, d2, d3, d4, d5] => { results := [.lit (.bool true)], args := [d1, d2, d3, d4, d5] }
  | _ => none }
def casAllsRow : OpenClaim := { program := "ytakhjiecinpmiaa", sum := "431f90eae954e0c1f74b9f296e993a2100952f06aa69c01586a04f3486be1907", func := "retort/retortlaw4.CasAlls", spec := "casAlls", inPlace := ["internal/bytealg.Compare"], unfollowed := true, recurses := true, plainKeys := false, apart := false }
def CasAllsSaid : Prop := casAllsRow.holds Try.pinned (OpenSpec.ofChange casAllsSpec)

/-- ITS FALSE NEIGHBOUR: 'it returns false'. Refute it at one input. -/
def casAllsWrong : ChangeSpec := { name := "casAlls", fn := fun _ => fun
  | [d1, d2, d3, d4, d5] => { results := [.lit (.bool false)], args := [d1, d2, d3, d4, d5] }
  | _ => none }
def CasAllsWrongFalsely : Prop := casAllsRow.holds Try.pinned (OpenSpec.ofChange casAllsWrong)

/-- 'retortlaw4.CasApart': WHATEVER THE INPUT: true; the input reads as it did. -/
def casApartSpec : ChangeSpec := { name := "casApart", fn := fun _ => fun
  | [d1, d2, d3, d4, d5, d6, d7, d8] => { results := [.lit (.bool true)], args := [d1, d2, d3, d4, d5, d6, d7, d8] }
  | _ => none }
def casApartRow : OpenClaim := { program := "ytakhjiecinpmiaa", sum := "431f90eae954e0c1f74b9f296e993a2100952f06aa69c01586a04f3486be1907", func := "retort/retortlaw4.CasApart", spec := "casApart", inPlace := ["internal/bytealg.Compare"], unfollowed := true, recurses := true, plainKeys := false, apart := false }
def CasApartSaid : Prop := casApartRow.holds Try.pinned (OpenSpec.ofChange casApartSpec)

/-- ITS FALSE NEIGHBOUR: 'it returns false'. Refute it at one input. -/
def casApartWrong : ChangeSpec := { name := "casApart", fn := fun _ => fun
  | [d1, d2, d3, d4, d5, d6, d7, d8] => { results := [.lit (.bool false)], args := [d1, d2, d3, d4, d5, d6, d7, d8] }
  | _ => none }
def CasApartWrongFalsely : Prop := casApartRow.holds Try.pinned (OpenSpec.ofChange casApartWrong)

/- THE SECOND FORM. 'bulk': how many values and letters a reading holds, each counted each time it is reached (what is shared counts as often as it is met; a slice's spare places count too). A statement '..UptoSaid' is the law's where the arguments, and the package variables that the reading takes, are together of bulk at most 1048576: NARROWER than '..Said'. Prove '..Said' where nothing that the law and all that it calls make is longer than what came in: it says more and counts as full. Else prove '..UptoSaid'. A law counts once. -/
mutual
def uptoBulk {H : Type} : DataW H → Nat
  | .lit (.string bytes) => bytes.length + 1
  | .lit _ => 1
  | .nil => 1
  | .ptr d => uptoBulk d + 1
  | .slice elems spare => uptoBulkAll elems + uptoBulkAll spare + 1
  | .agg parts => uptoBulkAll parts + 1
  | .iface _ d => uptoBulk d + 1
  | .map entries => uptoBulkEntries entries + 1
  | .held _ => 1
def uptoBulkAll {H : Type} : List (DataW H) → Nat
  | [] => 0
  | d :: r => uptoBulk d + uptoBulkAll r
def uptoBulkEntries {H : Type} : List (Lit × DataW H) → Nat
  | [] => 0
  | x :: r => uptoBulkEntry x + uptoBulkEntries r
def uptoBulkEntry {H : Type} : Lit × DataW H → Nat
  | (.string bytes, d) => bytes.length + uptoBulk d + 1
  | (_, d) => uptoBulk d + 1
 end
def uptoSmall : (H : Type) → List (DataW H) → Bool := fun _ ds => decide (uptoBulkAll ds ≤ 1048576)
def OpenSpec.upto (s : _root_.Go.ChangeSpec) : _root_.Go.OpenSpec := { _root_.Go.OpenSpec.ofChange s with cond := some uptoSmall }

/-- 'retortlaw4.CasClash', WHERE WHAT IT READS IS OF BULK AT MOST 1048576: true; the input reads as it did. -/
def casClashUptoRow : OpenClaim := { program := "ytakhjiecinpmiaa", sum := "431f90eae954e0c1f74b9f296e993a2100952f06aa69c01586a04f3486be1907", func := "retort/retortlaw4.CasClash", spec := "casClash", inPlace := ["internal/bytealg.Compare"], unfollowed := true, recurses := true, plainKeys := false, apart := false, narrowed := true }
def CasClashUptoSaid : Prop := casClashUptoRow.holds Try.pinned (OpenSpec.upto casClashSpec)

/-- 'retortlaw4.CasBig', WHERE WHAT IT READS IS OF BULK AT MOST 1048576: true; the input reads as it did. -/
def casBigUptoRow : OpenClaim := { program := "ytakhjiecinpmiaa", sum := "431f90eae954e0c1f74b9f296e993a2100952f06aa69c01586a04f3486be1907", func := "retort/retortlaw4.CasBig", spec := "casBig", inPlace := ["internal/bytealg.Compare"], unfollowed := true, recurses := true, plainKeys := false, apart := false, narrowed := true }
def CasBigUptoSaid : Prop := casBigUptoRow.holds Try.pinned (OpenSpec.upto casBigSpec)

/-- 'retortlaw4.CasRoom', WHERE WHAT IT READS IS OF BULK AT MOST 1048576: true; the input reads as it did. -/
def casRoomUptoRow : OpenClaim := { program := "ytakhjiecinpmiaa", sum := "431f90eae954e0c1f74b9f296e993a2100952f06aa69c01586a04f3486be1907", func := "retort/retortlaw4.CasRoom", spec := "casRoom", inPlace := ["internal/bytealg.Compare"], unfollowed := true, recurses := true, plainKeys := false, apart := false, narrowed := true }
def CasRoomUptoSaid : Prop := casRoomUptoRow.holds Try.pinned (OpenSpec.upto casRoomSpec)

/-- 'retortlaw4.CasFound', WHERE WHAT IT READS IS OF BULK AT MOST 1048576: true; the input reads as it did. -/
def casFoundUptoRow : OpenClaim := { program := "ytakhjiecinpmiaa", sum := "431f90eae954e0c1f74b9f296e993a2100952f06aa69c01586a04f3486be1907", func := "retort/retortlaw4.CasFound", spec := "casFound", inPlace := ["internal/bytealg.Compare"], unfollowed := true, recurses := true, plainKeys := false, apart := false, narrowed := true }
def CasFoundUptoSaid : Prop := casFoundUptoRow.holds Try.pinned (OpenSpec.upto casFoundSpec)

/-- 'retortlaw4.CasPlays', WHERE WHAT IT READS IS OF BULK AT MOST 1048576: true; the input reads as it did. -/
def casPlaysUptoRow : OpenClaim := { program := "ytakhjiecinpmiaa", sum := "431f90eae954e0c1f74b9f296e993a2100952f06aa69c01586a04f3486be1907", func := "retort/retortlaw4.CasPlays", spec := "casPlays", inPlace := ["internal/bytealg.Compare"], unfollowed := true, recurses := true, plainKeys := false, apart := false, narrowed := true }
def CasPlaysUptoSaid : Prop := casPlaysUptoRow.holds Try.pinned (OpenSpec.upto casPlaysSpec)

/-- 'retortlaw4.CasAlls', WHERE WHAT IT READS IS OF BULK AT MOST 1048576: true; the input reads as it did. -/
def casAllsUptoRow : OpenClaim := { program := "ytakhjiecinpmiaa", sum := "431f90eae954e0c1f74b9f296e993a2100952f06aa69c01586a04f3486be1907", func := "retort/retortlaw4.CasAlls", spec := "casAlls", inPlace := ["internal/bytealg.Compare"], unfollowed := true, recurses := true, plainKeys := false, apart := false, narrowed := true }
def CasAllsUptoSaid : Prop := casAllsUptoRow.holds Try.pinned (OpenSpec.upto casAllsSpec)

/-- 'retortlaw4.CasApart', WHERE WHAT IT READS IS OF BULK AT MOST 1048576: true; the input reads as it did. -/
def casApartUptoRow : OpenClaim := { program := "ytakhjiecinpmiaa", sum := "431f90eae954e0c1f74b9f296e993a2100952f06aa69c01586a04f3486be1907", func := "retort/retortlaw4.CasApart", spec := "casApart", inPlace := ["internal/bytealg.Compare"], unfollowed := true, recurses := true, plainKeys := false, apart := false, narrowed := true }
def CasApartUptoSaid : Prop := casApartUptoRow.holds Try.pinned (OpenSpec.upto casApartSpec)

end Rows
end Go.Proofs.Ytakhjiecinpmiaa
