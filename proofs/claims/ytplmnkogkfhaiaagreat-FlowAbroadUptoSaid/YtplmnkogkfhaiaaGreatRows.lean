/-
  No cell of these rows narrows 'for every input' (looked for: loops, veiled, ifaces, maps, wideKeys, modest, calm, conditions, laid).
  DERIVED. THE GIVEN ROWS OF THIS SEAT. 12 by the template 'for every input the law returns true; each argument reads behind the call as it read before'; 0 by the template 'total and deterministic' (their statements: YtplmnkogkfhaiaaGreatTotals.lean).
  GIVEN WITH THE SEED: the statements are not yours to turn. If you find one false, say at which input.
  Laid BY PROGRAM, IN A SANDBOX (cutbox-rows.mjs): the forced cells as the released guide's own fill.sh prints them over the translation c699b1365f5aea8a… (all of the seat's roots in one cut). By AI agents, Wed Nov 11 2026. No macro, syntax, notation, axiom, sorry.
-/
import Derived.Test.YtplmnkogkfhaiaaGreatChecked
import GoSem.Claim
import GoSem.ClaimJoined
import GoSem.ClaimMapViews
import Derived.JoinedTies
import Derived.KernelRfl
namespace Go.Proofs.YtplmnkogkfhaiaaGreat
/- THE CELL 'sum', in the pinned program and in every row, IS THE sha256 OF THE DUMP (.gsa) THAT YtplmnkogkfhaiaaGreatProg.lean LOADS. Nothing in Lean hashes anything: it is a label: what it is worth is what the hold of that sum in a sandbox is worth. -/
noncomputable def Tryz.pinned : Pinned := { name := "ytplmnkogkfhaiaagreat", sum := "c699b1365f5aea8a04db60ccac73ec963f65b183259e805a8fd26dc1c85e41aa", checked := Tryz.checked }
namespace Rows
def none {H : Type} : Left H := { results := [], args := [] }

/-- 'retortlaw8.FlowReaches': WHATEVER THE INPUT: true; the input reads as it did. -/
def flowReachesSpec : ChangeSpec := { name := "flowReaches", fn := fun _ => fun
  | [d1, d2, d3, d4] => { results := [.lit (.bool true)], args := [d1, d2, d3, d4] }
  | _ => none }
def flowReachesRow : OpenClaim := { program := "ytplmnkogkfhaiaagreat", sum := "c699b1365f5aea8a04db60ccac73ec963f65b183259e805a8fd26dc1c85e41aa", func := "retort/retortlaw8.FlowReaches", spec := "flowReaches", inPlace := ["internal/bytealg.IndexByteString", "internal/bytealg.IndexString", "internal/bytealg.Compare"], unfollowed := true, recurses := true, named := ["internal/bytealg.MaxLen"], plainKeys := false, apart := false }
def FlowReachesSaid : Prop := flowReachesRow.holds Tryz.pinned (OpenSpec.ofChange flowReachesSpec)

/-- ITS FALSE NEIGHBOUR: 'it returns false'. Refute it at one input. -/
def flowReachesWrong : ChangeSpec := { name := "flowReaches", fn := fun _ => fun
  | [d1, d2, d3, d4] => { results := [.lit (.bool false)], args := [d1, d2, d3, d4] }
  | _ => none }
def FlowReachesWrongFalsely : Prop := flowReachesRow.holds Tryz.pinned (OpenSpec.ofChange flowReachesWrong)

/-- 'retortlaw8.FlowSweeps': WHATEVER THE INPUT: true; the input reads as it did. -/
def flowSweepsSpec : ChangeSpec := { name := "flowSweeps", fn := fun _ => fun
  | [d1, d2, d3, d4] => { results := [.lit (.bool true)], args := [d1, d2, d3, d4] }
  | _ => none }
def flowSweepsRow : OpenClaim := { program := "ytplmnkogkfhaiaagreat", sum := "c699b1365f5aea8a04db60ccac73ec963f65b183259e805a8fd26dc1c85e41aa", func := "retort/retortlaw8.FlowSweeps", spec := "flowSweeps", inPlace := ["internal/bytealg.IndexByteString", "internal/bytealg.IndexString", "internal/bytealg.Compare"], unfollowed := true, recurses := true, named := ["internal/bytealg.MaxLen"], plainKeys := false, apart := false }
def FlowSweepsSaid : Prop := flowSweepsRow.holds Tryz.pinned (OpenSpec.ofChange flowSweepsSpec)

/-- ITS FALSE NEIGHBOUR: 'it returns false'. Refute it at one input. -/
def flowSweepsWrong : ChangeSpec := { name := "flowSweeps", fn := fun _ => fun
  | [d1, d2, d3, d4] => { results := [.lit (.bool false)], args := [d1, d2, d3, d4] }
  | _ => none }
def FlowSweepsWrongFalsely : Prop := flowSweepsRow.holds Tryz.pinned (OpenSpec.ofChange flowSweepsWrong)

/-- 'retortlaw8.FlowSelf': WHATEVER THE INPUT: true; the input reads as it did. -/
def flowSelfSpec : ChangeSpec := { name := "flowSelf", fn := fun _ => fun
  | [d1, d2, d3, d4] => { results := [.lit (.bool true)], args := [d1, d2, d3, d4] }
  | _ => none }
def flowSelfRow : OpenClaim := { program := "ytplmnkogkfhaiaagreat", sum := "c699b1365f5aea8a04db60ccac73ec963f65b183259e805a8fd26dc1c85e41aa", func := "retort/retortlaw8.FlowSelf", spec := "flowSelf", inPlace := ["internal/bytealg.IndexByteString", "internal/bytealg.IndexString", "internal/bytealg.Compare"], unfollowed := true, recurses := true, named := ["internal/bytealg.MaxLen"], plainKeys := false, apart := false }
def FlowSelfSaid : Prop := flowSelfRow.holds Tryz.pinned (OpenSpec.ofChange flowSelfSpec)

/-- ITS FALSE NEIGHBOUR: 'it returns false'. Refute it at one input. -/
def flowSelfWrong : ChangeSpec := { name := "flowSelf", fn := fun _ => fun
  | [d1, d2, d3, d4] => { results := [.lit (.bool false)], args := [d1, d2, d3, d4] }
  | _ => none }
def FlowSelfWrongFalsely : Prop := flowSelfRow.holds Tryz.pinned (OpenSpec.ofChange flowSelfWrong)

/-- 'retortlaw8.FlowCopies': WHATEVER THE INPUT: true; the input reads as it did. -/
def flowCopiesSpec : ChangeSpec := { name := "flowCopies", fn := fun _ => fun
  | [d1, d2, d3, d4, d5, d6] => { results := [.lit (.bool true)], args := [d1, d2, d3, d4, d5, d6] }
  | _ => none }
def flowCopiesRow : OpenClaim := { program := "ytplmnkogkfhaiaagreat", sum := "c699b1365f5aea8a04db60ccac73ec963f65b183259e805a8fd26dc1c85e41aa", func := "retort/retortlaw8.FlowCopies", spec := "flowCopies", inPlace := ["internal/bytealg.IndexByteString", "internal/bytealg.IndexString", "internal/bytealg.Compare"], unfollowed := true, recurses := true, named := ["internal/bytealg.MaxLen"], plainKeys := false, apart := false }
def FlowCopiesSaid : Prop := flowCopiesRow.holds Tryz.pinned (OpenSpec.ofChange flowCopiesSpec)

/-- ITS FALSE NEIGHBOUR: 'it returns false'. Refute it at one input. -/
def flowCopiesWrong : ChangeSpec := { name := "flowCopies", fn := fun _ => fun
  | [d1, d2, d3, d4, d5, d6] => { results := [.lit (.bool false)], args := [d1, d2, d3, d4, d5, d6] }
  | _ => none }
def FlowCopiesWrongFalsely : Prop := flowCopiesRow.holds Tryz.pinned (OpenSpec.ofChange flowCopiesWrong)

/-- 'retortlaw8.FlowSwept': WHATEVER THE INPUT: true; the input reads as it did. -/
def flowSweptSpec : ChangeSpec := { name := "flowSwept", fn := fun _ => fun
  | [d1, d2, d3] => { results := [.lit (.bool true)], args := [d1, d2, d3] }
  | _ => none }
def flowSweptRow : OpenClaim := { program := "ytplmnkogkfhaiaagreat", sum := "c699b1365f5aea8a04db60ccac73ec963f65b183259e805a8fd26dc1c85e41aa", func := "retort/retortlaw8.FlowSwept", spec := "flowSwept", inPlace := ["internal/bytealg.IndexByteString", "internal/bytealg.IndexString", "internal/bytealg.Compare"], unfollowed := true, recurses := true, named := ["internal/bytealg.MaxLen"], plainKeys := false, apart := false }
def FlowSweptSaid : Prop := flowSweptRow.holds Tryz.pinned (OpenSpec.ofChange flowSweptSpec)

/-- ITS FALSE NEIGHBOUR: 'it returns false'. Refute it at one input. -/
def flowSweptWrong : ChangeSpec := { name := "flowSwept", fn := fun _ => fun
  | [d1, d2, d3] => { results := [.lit (.bool false)], args := [d1, d2, d3] }
  | _ => none }
def FlowSweptWrongFalsely : Prop := flowSweptRow.holds Tryz.pinned (OpenSpec.ofChange flowSweptWrong)

/-- 'retortlaw8.FlowFree': WHATEVER THE INPUT: true; the input reads as it did. -/
def flowFreeSpec : ChangeSpec := { name := "flowFree", fn := fun _ => fun
  | [d1, d2, d3, d4] => { results := [.lit (.bool true)], args := [d1, d2, d3, d4] }
  | _ => none }
def flowFreeRow : OpenClaim := { program := "ytplmnkogkfhaiaagreat", sum := "c699b1365f5aea8a04db60ccac73ec963f65b183259e805a8fd26dc1c85e41aa", func := "retort/retortlaw8.FlowFree", spec := "flowFree", inPlace := ["internal/bytealg.IndexByteString", "internal/bytealg.IndexString", "internal/bytealg.Compare"], unfollowed := true, recurses := true, named := ["internal/bytealg.MaxLen"], plainKeys := false, apart := false }
def FlowFreeSaid : Prop := flowFreeRow.holds Tryz.pinned (OpenSpec.ofChange flowFreeSpec)

/-- ITS FALSE NEIGHBOUR: 'it returns false'. Refute it at one input. -/
def flowFreeWrong : ChangeSpec := { name := "flowFree", fn := fun _ => fun
  | [d1, d2, d3, d4] => { results := [.lit (.bool false)], args := [d1, d2, d3, d4] }
  | _ => none }
def FlowFreeWrongFalsely : Prop := flowFreeRow.holds Tryz.pinned (OpenSpec.ofChange flowFreeWrong)

/-- 'retortlaw8.FlowPacks': WHATEVER THE INPUT: true; the input reads as it did. -/
def flowPacksSpec : ChangeSpec := { name := "flowPacks", fn := fun _ => fun
  | [d1, d2, d3, d4] => { results := [.lit (.bool true)], args := [d1, d2, d3, d4] }
  | _ => none }
def flowPacksRow : OpenClaim := { program := "ytplmnkogkfhaiaagreat", sum := "c699b1365f5aea8a04db60ccac73ec963f65b183259e805a8fd26dc1c85e41aa", func := "retort/retortlaw8.FlowPacks", spec := "flowPacks", inPlace := ["internal/bytealg.IndexByteString", "internal/bytealg.IndexString", "internal/bytealg.Compare"], unfollowed := true, recurses := true, named := ["internal/bytealg.MaxLen"], plainKeys := false, apart := false }
def FlowPacksSaid : Prop := flowPacksRow.holds Tryz.pinned (OpenSpec.ofChange flowPacksSpec)

/-- ITS FALSE NEIGHBOUR: 'it returns false'. Refute it at one input. -/
def flowPacksWrong : ChangeSpec := { name := "flowPacks", fn := fun _ => fun
  | [d1, d2, d3, d4] => { results := [.lit (.bool false)], args := [d1, d2, d3, d4] }
  | _ => none }
def FlowPacksWrongFalsely : Prop := flowPacksRow.holds Tryz.pinned (OpenSpec.ofChange flowPacksWrong)

/-- 'retortlaw8.FlowBounds': WHATEVER THE INPUT: true; the input reads as it did. -/
def flowBoundsSpec : ChangeSpec := { name := "flowBounds", fn := fun _ => fun
  | [d1, d2, d3] => { results := [.lit (.bool true)], args := [d1, d2, d3] }
  | _ => none }
def flowBoundsRow : OpenClaim := { program := "ytplmnkogkfhaiaagreat", sum := "c699b1365f5aea8a04db60ccac73ec963f65b183259e805a8fd26dc1c85e41aa", func := "retort/retortlaw8.FlowBounds", spec := "flowBounds", inPlace := ["internal/bytealg.IndexByteString", "internal/bytealg.IndexString", "internal/bytealg.Compare"], unfollowed := true, recurses := true, named := ["internal/bytealg.MaxLen"], plainKeys := false, apart := false }
def FlowBoundsSaid : Prop := flowBoundsRow.holds Tryz.pinned (OpenSpec.ofChange flowBoundsSpec)

/-- ITS FALSE NEIGHBOUR: 'it returns false'. Refute it at one input. -/
def flowBoundsWrong : ChangeSpec := { name := "flowBounds", fn := fun _ => fun
  | [d1, d2, d3] => { results := [.lit (.bool false)], args := [d1, d2, d3] }
  | _ => none }
def FlowBoundsWrongFalsely : Prop := flowBoundsRow.holds Tryz.pinned (OpenSpec.ofChange flowBoundsWrong)

/-- 'retortlaw8.FlowUnpacks': WHATEVER THE INPUT: true; the input reads as it did. -/
def flowUnpacksSpec : ChangeSpec := { name := "flowUnpacks", fn := fun _ => fun
  | [d1, d2, d3] => { results := [.lit (.bool true)], args := [d1, d2, d3] }
  | _ => none }
def flowUnpacksRow : OpenClaim := { program := "ytplmnkogkfhaiaagreat", sum := "c699b1365f5aea8a04db60ccac73ec963f65b183259e805a8fd26dc1c85e41aa", func := "retort/retortlaw8.FlowUnpacks", spec := "flowUnpacks", inPlace := ["internal/bytealg.IndexByteString", "internal/bytealg.IndexString", "internal/bytealg.Compare"], unfollowed := true, recurses := true, named := ["internal/bytealg.MaxLen"], plainKeys := false, apart := false }
def FlowUnpacksSaid : Prop := flowUnpacksRow.holds Tryz.pinned (OpenSpec.ofChange flowUnpacksSpec)

/-- ITS FALSE NEIGHBOUR: 'it returns false'. Refute it at one input. -/
def flowUnpacksWrong : ChangeSpec := { name := "flowUnpacks", fn := fun _ => fun
  | [d1, d2, d3] => { results := [.lit (.bool false)], args := [d1, d2, d3] }
  | _ => none }
def FlowUnpacksWrongFalsely : Prop := flowUnpacksRow.holds Tryz.pinned (OpenSpec.ofChange flowUnpacksWrong)

/-- 'retortlaw8.FlowOrders': WHATEVER THE INPUT: true; the input reads as it did. -/
def flowOrdersSpec : ChangeSpec := { name := "flowOrders", fn := fun _ => fun
  | [d1, d2, d3, d4, d5, d6] => { results := [.lit (.bool true)], args := [d1, d2, d3, d4, d5, d6] }
  | _ => none }
def flowOrdersRow : OpenClaim := { program := "ytplmnkogkfhaiaagreat", sum := "c699b1365f5aea8a04db60ccac73ec963f65b183259e805a8fd26dc1c85e41aa", func := "retort/retortlaw8.FlowOrders", spec := "flowOrders", inPlace := ["internal/bytealg.IndexByteString", "internal/bytealg.IndexString", "internal/bytealg.Compare"], unfollowed := true, recurses := true, named := ["internal/bytealg.MaxLen"], plainKeys := false, apart := false }
def FlowOrdersSaid : Prop := flowOrdersRow.holds Tryz.pinned (OpenSpec.ofChange flowOrdersSpec)

/-- ITS FALSE NEIGHBOUR: 'it returns false'. Refute it at one input. -/
def flowOrdersWrong : ChangeSpec := { name := "flowOrders", fn := fun _ => fun
  | [d1, d2, d3, d4, d5, d6] => { results := [.lit (.bool false)], args := [d1, d2, d3, d4, d5, d6] }
  | _ => none }
def FlowOrdersWrongFalsely : Prop := flowOrdersRow.holds Tryz.pinned (OpenSpec.ofChange flowOrdersWrong)

/-- 'retortlaw8.FlowAbroad': WHATEVER THE INPUT: true; the input reads as it did. -/
def flowAbroadSpec : ChangeSpec := { name := "flowAbroad", fn := fun _ => fun
  | [d1, d2, d3, d4] => { results := [.lit (.bool true)], args := [d1, d2, d3, d4] }
  | _ => none }
def flowAbroadRow : OpenClaim := { program := "ytplmnkogkfhaiaagreat", sum := "c699b1365f5aea8a04db60ccac73ec963f65b183259e805a8fd26dc1c85e41aa", func := "retort/retortlaw8.FlowAbroad", spec := "flowAbroad", inPlace := ["internal/bytealg.IndexByteString", "internal/bytealg.IndexString", "internal/bytealg.Compare"], unfollowed := true, recurses := true, named := ["internal/bytealg.MaxLen"], plainKeys := false, apart := false }
def FlowAbroadSaid : Prop := flowAbroadRow.holds Tryz.pinned (OpenSpec.ofChange flowAbroadSpec)

/-- ITS FALSE NEIGHBOUR: 'it returns false'. Refute it at one input. -/
def flowAbroadWrong : ChangeSpec := { name := "flowAbroad", fn := fun _ => fun
  | [d1, d2, d3, d4] => { results := [.lit (.bool false)], args := [d1, d2, d3, d4] }
  | _ => none }
def FlowAbroadWrongFalsely : Prop := flowAbroadRow.holds Tryz.pinned (OpenSpec.ofChange flowAbroadWrong)

/-- 'retortlaw8.FlowPacked': WHATEVER THE INPUT: true; the input reads as it did. -/
def flowPackedSpec : ChangeSpec := { name := "flowPacked", fn := fun _ => fun
  | [d1, d2, d3] => { results := [.lit (.bool true)], args := [d1, d2, d3] }
  | _ => none }
def flowPackedRow : OpenClaim := { program := "ytplmnkogkfhaiaagreat", sum := "c699b1365f5aea8a04db60ccac73ec963f65b183259e805a8fd26dc1c85e41aa", func := "retort/retortlaw8.FlowPacked", spec := "flowPacked", inPlace := ["internal/bytealg.IndexByteString", "internal/bytealg.IndexString", "internal/bytealg.Compare"], unfollowed := true, recurses := true, named := ["internal/bytealg.MaxLen"], plainKeys := false, apart := false }
def FlowPackedSaid : Prop := flowPackedRow.holds Tryz.pinned (OpenSpec.ofChange flowPackedSpec)

/-- ITS FALSE NEIGHBOUR: 'it returns false'. Refute it at one input. -/
def flowPackedWrong : ChangeSpec := { name := "flowPacked", fn := fun _ => fun
  | [d1, d2, d3] => { results := [.lit (.bool false)], args := [d1, d2, d3] }
  | _ => none }
def FlowPackedWrongFalsely : Prop := flowPackedRow.holds Tryz.pinned (OpenSpec.ofChange flowPackedWrong)

/- THE SECOND FORM. 'bulk': how many values and letters a reading holds, each counted each time it is reached (what is shared counts as often as it is met; a slice's spare places count too). A statement '..UptoSaid' is the law's where the arguments, and the package variables that the reading takes, are together of bulk at most 1048576: NARROWER than '..Said'. Prove '..Said' where nothing that the law and all that it calls make is longer than what came in: it says more and counts as full. Else prove '..UptoSaid'. A law counts once. -/
mutual
def uptoBulk {H : Type} : DataW H → Nat
  | .lit (.string bytes) => bytes.length + 1
  | .lit _ => 1
  | .nil => 1
  | .ptr d => uptoBulk d + 1
  | .slice elems spare => uptoBulkAll elems + uptoBulkAll spare + 1
  | .agg parts => uptoBulkAll parts + 1
  | .iface _ d => uptoBulk d + 1
  | .map entries => uptoBulkEntries entries + 1
  | .held _ => 1
def uptoBulkAll {H : Type} : List (DataW H) → Nat
  | [] => 0
  | d :: r => uptoBulk d + uptoBulkAll r
def uptoBulkEntries {H : Type} : List (Lit × DataW H) → Nat
  | [] => 0
  | x :: r => uptoBulkEntry x + uptoBulkEntries r
def uptoBulkEntry {H : Type} : Lit × DataW H → Nat
  | (.string bytes, d) => bytes.length + uptoBulk d + 1
  | (_, d) => uptoBulk d + 1
 end
def uptoSmall : (H : Type) → List (DataW H) → Bool := fun _ ds => decide (uptoBulkAll ds ≤ 1048576)
def OpenSpec.upto (s : _root_.Go.ChangeSpec) : _root_.Go.OpenSpec := { _root_.Go.OpenSpec.ofChange s with cond := some uptoSmall }

/-- 'retortlaw8.FlowReaches', WHERE WHAT IT READS IS OF BULK AT MOST 1048576: true; the input reads as it did. -/
def flowReachesUptoRow : OpenClaim := { program := "ytplmnkogkfhaiaagreat", sum := "c699b1365f5aea8a04db60ccac73ec963f65b183259e805a8fd26dc1c85e41aa", func := "retort/retortlaw8.FlowReaches", spec := "flowReaches", inPlace := ["internal/bytealg.IndexByteString", "internal/bytealg.IndexString", "internal/bytealg.Compare"], unfollowed := true, recurses := true, named := ["internal/bytealg.MaxLen"], plainKeys := false, apart := false, narrowed := true }
def FlowReachesUptoSaid : Prop := flowReachesUptoRow.holds Tryz.pinned (OpenSpec.upto flowReachesSpec)

/-- 'retortlaw8.FlowSweeps', WHERE WHAT IT READS IS OF BULK AT MOST 1048576: true; the input reads as it did. -/
def flowSweepsUptoRow : OpenClaim := { program := "ytplmnkogkfhaiaagreat", sum := "c699b1365f5aea8a04db60ccac73ec963f65b183259e805a8fd26dc1c85e41aa", func := "retort/retortlaw8.FlowSweeps", spec := "flowSweeps", inPlace := ["internal/bytealg.IndexByteString", "internal/bytealg.IndexString", "internal/bytealg.Compare"], unfollowed := true, recurses := true, named := ["internal/bytealg.MaxLen"], plainKeys := false, apart := false, narrowed := true }
def FlowSweepsUptoSaid : Prop := flowSweepsUptoRow.holds Tryz.pinned (OpenSpec.upto flowSweepsSpec)

/-- 'retortlaw8.FlowSelf', WHERE WHAT IT READS IS OF BULK AT MOST 1048576: true; the input reads as it did. -/
def flowSelfUptoRow : OpenClaim := { program := "ytplmnkogkfhaiaagreat", sum := "c699b1365f5aea8a04db60ccac73ec963f65b183259e805a8fd26dc1c85e41aa", func := "retort/retortlaw8.FlowSelf", spec := "flowSelf", inPlace := ["internal/bytealg.IndexByteString", "internal/bytealg.IndexString", "internal/bytealg.Compare"], unfollowed := true, recurses := true, named := ["internal/bytealg.MaxLen"], plainKeys := false, apart := false, narrowed := true }
def FlowSelfUptoSaid : Prop := flowSelfUptoRow.holds Tryz.pinned (OpenSpec.upto flowSelfSpec)

/-- 'retortlaw8.FlowCopies', WHERE WHAT IT READS IS OF BULK AT MOST 1048576: true; the input reads as it did. -/
def flowCopiesUptoRow : OpenClaim := { program := "ytplmnkogkfhaiaagreat", sum := "c699b1365f5aea8a04db60ccac73ec963f65b183259e805a8fd26dc1c85e41aa", func := "retort/retortlaw8.FlowCopies", spec := "flowCopies", inPlace := ["internal/bytealg.IndexByteString", "internal/bytealg.IndexString", "internal/bytealg.Compare"], unfollowed := true, recurses := true, named := ["internal/bytealg.MaxLen"], plainKeys := false, apart := false, narrowed := true }
def FlowCopiesUptoSaid : Prop := flowCopiesUptoRow.holds Tryz.pinned (OpenSpec.upto flowCopiesSpec)

/-- 'retortlaw8.FlowSwept', WHERE WHAT IT READS IS OF BULK AT MOST 1048576: true; the input reads as it did. -/
def flowSweptUptoRow : OpenClaim := { program := "ytplmnkogkfhaiaagreat", sum := "c699b1365f5aea8a04db60ccac73ec963f65b183259e805a8fd26dc1c85e41aa", func := "retort/retortlaw8.FlowSwept", spec := "flowSwept", inPlace := ["internal/bytealg.IndexByteString", "internal/bytealg.IndexString", "internal/bytealg.Compare"], unfollowed := true, recurses := true, named := ["internal/bytealg.MaxLen"], plainKeys := false, apart := false, narrowed := true }
def FlowSweptUptoSaid : Prop := flowSweptUptoRow.holds Tryz.pinned (OpenSpec.upto flowSweptSpec)

/-- 'retortlaw8.FlowFree', WHERE WHAT IT READS IS OF BULK AT MOST 1048576: true; the input reads as it did. -/
def flowFreeUptoRow : OpenClaim := { program := "ytplmnkogkfhaiaagreat", sum := "c699b1365f5aea8a04db60ccac73ec963f65b183259e805a8fd26dc1c85e41aa", func := "retort/retortlaw8.FlowFree", spec := "flowFree", inPlace := ["internal/bytealg.IndexByteString", "internal/bytealg.IndexString", "internal/bytealg.Compare"], unfollowed := true, recurses := true, named := ["internal/bytealg.MaxLen"], plainKeys := false, apart := false, narrowed := true }
def FlowFreeUptoSaid : Prop := flowFreeUptoRow.holds Tryz.pinned (OpenSpec.upto flowFreeSpec)

/-- 'retortlaw8.FlowPacks', WHERE WHAT IT READS IS OF BULK AT MOST 1048576: true; the input reads as it did. -/
def flowPacksUptoRow : OpenClaim := { program := "ytplmnkogkfhaiaagreat", sum := "c699b1365f5aea8a04db60ccac73ec963f65b183259e805a8fd26dc1c85e41aa", func := "retort/retortlaw8.FlowPacks", spec := "flowPacks", inPlace := ["internal/bytealg.IndexByteString", "internal/bytealg.IndexString", "internal/bytealg.Compare"], unfollowed := true, recurses := true, named := ["internal/bytealg.MaxLen"], plainKeys := false, apart := false, narrowed := true }
def FlowPacksUptoSaid : Prop := flowPacksUptoRow.holds Tryz.pinned (OpenSpec.upto flowPacksSpec)

/-- 'retortlaw8.FlowBounds', WHERE WHAT IT READS IS OF BULK AT MOST 1048576: true; the input reads as it did. -/
def flowBoundsUptoRow : OpenClaim := { program := "ytplmnkogkfhaiaagreat", sum := "c699b1365f5aea8a04db60ccac73ec963f65b183259e805a8fd26dc1c85e41aa", func := "retort/retortlaw8.FlowBounds", spec := "flowBounds", inPlace := ["internal/bytealg.IndexByteString", "internal/bytealg.IndexString", "internal/bytealg.Compare"], unfollowed := true, recurses := true, named := ["internal/bytealg.MaxLen"], plainKeys := false, apart := false, narrowed := true }
def FlowBoundsUptoSaid : Prop := flowBoundsUptoRow.holds Tryz.pinned (OpenSpec.upto flowBoundsSpec)

/-- 'retortlaw8.FlowUnpacks', WHERE WHAT IT READS IS OF BULK AT MOST 1048576: true; the input reads as it did. -/
def flowUnpacksUptoRow : OpenClaim := { program := "ytplmnkogkfhaiaagreat", sum := "c699b1365f5aea8a04db60ccac73ec963f65b183259e805a8fd26dc1c85e41aa", func := "retort/retortlaw8.FlowUnpacks", spec := "flowUnpacks", inPlace := ["internal/bytealg.IndexByteString", "internal/bytealg.IndexString", "internal/bytealg.Compare"], unfollowed := true, recurses := true, named := ["internal/bytealg.MaxLen"], plainKeys := false, apart := false, narrowed := true }
def FlowUnpacksUptoSaid : Prop := flowUnpacksUptoRow.holds Tryz.pinned (OpenSpec.upto flowUnpacksSpec)

/-- 'retortlaw8.FlowOrders', WHERE WHAT IT READS IS OF BULK AT MOST 1048576: true; the input reads as it did. -/
def flowOrdersUptoRow : OpenClaim := { program := "ytplmnkogkfhaiaagreat", sum := "c699b1365f5aea8a04db60ccac73ec963f65b183259e805a8fd26dc1c85e41aa", func := "retort/retortlaw8.FlowOrders", spec := "flowOrders", inPlace := ["internal/bytealg.IndexByteString", "internal/bytealg.IndexString", "internal/bytealg.Compare"], unfollowed := true, recurses := true, named := ["internal/bytealg.MaxLen"], plainKeys := false, apart := false, narrowed := true }
def FlowOrdersUptoSaid : Prop := flowOrdersUptoRow.holds Tryz.pinned (OpenSpec.upto flowOrdersSpec)

/-- 'retortlaw8.FlowAbroad', WHERE WHAT IT READS IS OF BULK AT MOST 1048576: true; the input reads as it did. -/
def flowAbroadUptoRow : OpenClaim := { program := "ytplmnkogkfhaiaagreat", sum := "c699b1365f5aea8a04db60ccac73ec963f65b183259e805a8fd26dc1c85e41aa", func := "retort/retortlaw8.FlowAbroad", spec := "flowAbroad", inPlace := ["internal/bytealg.IndexByteString", "internal/bytealg.IndexString", "internal/bytealg.Compare"], unfollowed := true, recurses := true, named := ["internal/bytealg.MaxLen"], plainKeys := false, apart := false, narrowed := true }
def FlowAbroadUptoSaid : Prop := flowAbroadUptoRow.holds Tryz.pinned (OpenSpec.upto flowAbroadSpec)

/-- 'retortlaw8.FlowPacked', WHERE WHAT IT READS IS OF BULK AT MOST 1048576: true; the input reads as it did. -/
def flowPackedUptoRow : OpenClaim := { program := "ytplmnkogkfhaiaagreat", sum := "c699b1365f5aea8a04db60ccac73ec963f65b183259e805a8fd26dc1c85e41aa", func := "retort/retortlaw8.FlowPacked", spec := "flowPacked", inPlace := ["internal/bytealg.IndexByteString", "internal/bytealg.IndexString", "internal/bytealg.Compare"], unfollowed := true, recurses := true, named := ["internal/bytealg.MaxLen"], plainKeys := false, apart := false, narrowed := true }
def FlowPackedUptoSaid : Prop := flowPackedUptoRow.holds Tryz.pinned (OpenSpec.upto flowPackedSpec)

end Rows
end Go.Proofs.YtplmnkogkfhaiaaGreat
