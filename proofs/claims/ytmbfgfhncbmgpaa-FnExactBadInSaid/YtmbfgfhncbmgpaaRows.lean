/-
  No cell of these rows narrows 'for every input' (looked for: loops, veiled, ifaces, maps, wideKeys, modest, calm, conditions, laid).
  DERIVED. THE GIVEN ROWS OF THIS SEAT. 9 by the template 'for every input the law returns true; each argument reads behind the call as it read before'; 0 by the template 'total and deterministic' (their statements: YtmbfgfhncbmgpaaTotals.lean).
  GIVEN WITH THE SEED: the statements are not yours to turn. If you find one false, say at which input.
  Laid BY PROGRAM, IN A SANDBOX (cutbox-rows.mjs): the forced cells as the released guide's own fill.sh prints them over the translation c5b00ded29a07d47… (all of the seat's roots in one cut). By AI agents, Wed Nov 11 2026. No macro, syntax, notation, axiom, sorry.
-/
import Derived.Test.YtmbfgfhncbmgpaaChecked
import GoSem.Claim
import GoSem.ClaimJoined
import GoSem.ClaimMapViews
import Derived.JoinedTies
import Derived.KernelRfl
namespace Go.Proofs.Ytmbfgfhncbmgpaa
/- THE CELL 'sum', in the pinned program and in every row, IS THE sha256 OF THE DUMP (.gsa) THAT YtmbfgfhncbmgpaaProg.lean LOADS. Nothing in Lean hashes anything: it is a label: what it is worth is what the hold of that sum in a sandbox is worth. -/
noncomputable def Try.pinned : Pinned := { name := "ytmbfgfhncbmgpaa", sum := "c5b00ded29a07d478ac9493882b98a4e7f5cdd68432d9f517e566e0bf7557893", checked := Try.checked }
namespace Rows
def none {H : Type} : Left H := { results := [], args := [] }

/-- 'laws.FnExactImplies': WHATEVER THE INPUT: true; the input reads as it did. -/
def fnExactImpliesSpec : ChangeSpec := { name := "fnExactImplies", fn := fun _ => fun
  | [d1, d2, d3] => { results := [.lit (.bool true)], args := [d1, d2, d3] }
  | _ => none }
def fnExactImpliesRow : OpenClaim := { program := "ytmbfgfhncbmgpaa", sum := "c5b00ded29a07d478ac9493882b98a4e7f5cdd68432d9f517e566e0bf7557893", func := "loop.example/g00641/laws.FnExactImplies", spec := "fnExactImplies", unfollowed := true, recurses := true, apart := false }
def FnExactImpliesSaid : Prop := fnExactImpliesRow.holds Try.pinned (OpenSpec.ofChange fnExactImpliesSpec)

/-- ITS FALSE NEIGHBOUR: 'it returns false'. Refute it at one input. -/
def fnExactImpliesWrong : ChangeSpec := { name := "fnExactImplies", fn := fun _ => fun
  | [d1, d2, d3] => { results := [.lit (.bool false)], args := [d1, d2, d3] }
  | _ => none }
def FnExactImpliesWrongFalsely : Prop := fnExactImpliesRow.holds Try.pinned (OpenSpec.ofChange fnExactImpliesWrong)

/-- 'laws.FnExactSplitBy': WHATEVER THE INPUT: true; the input reads as it did. -/
def fnExactSplitBySpec : ChangeSpec := { name := "fnExactSplitBy", fn := fun _ => fun
  | [d1, d2, d3] => { results := [.lit (.bool true)], args := [d1, d2, d3] }
  | _ => none }
def fnExactSplitByRow : OpenClaim := { program := "ytmbfgfhncbmgpaa", sum := "c5b00ded29a07d478ac9493882b98a4e7f5cdd68432d9f517e566e0bf7557893", func := "loop.example/g00641/laws.FnExactSplitBy", spec := "fnExactSplitBy", unfollowed := true, recurses := true, apart := false }
def FnExactSplitBySaid : Prop := fnExactSplitByRow.holds Try.pinned (OpenSpec.ofChange fnExactSplitBySpec)

/-- ITS FALSE NEIGHBOUR: 'it returns false'. Refute it at one input. -/
def fnExactSplitByWrong : ChangeSpec := { name := "fnExactSplitBy", fn := fun _ => fun
  | [d1, d2, d3] => { results := [.lit (.bool false)], args := [d1, d2, d3] }
  | _ => none }
def FnExactSplitByWrongFalsely : Prop := fnExactSplitByRow.holds Try.pinned (OpenSpec.ofChange fnExactSplitByWrong)

/-- 'laws.FnExactIsKept': WHATEVER THE INPUT: true; the input reads as it did. -/
def fnExactIsKeptSpec : ChangeSpec := { name := "fnExactIsKept", fn := fun _ => fun
  | [d1, d2, d3, d4] => { results := [.lit (.bool true)], args := [d1, d2, d3, d4] }
  | _ => none }
def fnExactIsKeptRow : OpenClaim := { program := "ytmbfgfhncbmgpaa", sum := "c5b00ded29a07d478ac9493882b98a4e7f5cdd68432d9f517e566e0bf7557893", func := "loop.example/g00641/laws.FnExactIsKept", spec := "fnExactIsKept", unfollowed := true, recurses := true, apart := false }
def FnExactIsKeptSaid : Prop := fnExactIsKeptRow.holds Try.pinned (OpenSpec.ofChange fnExactIsKeptSpec)

/-- ITS FALSE NEIGHBOUR: 'it returns false'. Refute it at one input. -/
def fnExactIsKeptWrong : ChangeSpec := { name := "fnExactIsKept", fn := fun _ => fun
  | [d1, d2, d3, d4] => { results := [.lit (.bool false)], args := [d1, d2, d3, d4] }
  | _ => none }
def FnExactIsKeptWrongFalsely : Prop := fnExactIsKeptRow.holds Try.pinned (OpenSpec.ofChange fnExactIsKeptWrong)

/-- 'laws.FnExactClosureOf': WHATEVER THE INPUT: true; the input reads as it did. -/
def fnExactClosureOfSpec : ChangeSpec := { name := "fnExactClosureOf", fn := fun _ => fun
  | [d1, d2, d3] => { results := [.lit (.bool true)], args := [d1, d2, d3] }
  | _ => none }
def fnExactClosureOfRow : OpenClaim := { program := "ytmbfgfhncbmgpaa", sum := "c5b00ded29a07d478ac9493882b98a4e7f5cdd68432d9f517e566e0bf7557893", func := "loop.example/g00641/laws.FnExactClosureOf", spec := "fnExactClosureOf", unfollowed := true, recurses := true, apart := false }
def FnExactClosureOfSaid : Prop := fnExactClosureOfRow.holds Try.pinned (OpenSpec.ofChange fnExactClosureOfSpec)

/-- ITS FALSE NEIGHBOUR: 'it returns false'. Refute it at one input. -/
def fnExactClosureOfWrong : ChangeSpec := { name := "fnExactClosureOf", fn := fun _ => fun
  | [d1, d2, d3] => { results := [.lit (.bool false)], args := [d1, d2, d3] }
  | _ => none }
def FnExactClosureOfWrongFalsely : Prop := fnExactClosureOfRow.holds Try.pinned (OpenSpec.ofChange fnExactClosureOfWrong)

/-- 'laws.FnExactIsLossless': WHATEVER THE INPUT: true; the input reads as it did. -/
def fnExactIsLosslessSpec : ChangeSpec := { name := "fnExactIsLossless", fn := fun _ => fun
  | [d1, d2, d3, d4] => { results := [.lit (.bool true)], args := [d1, d2, d3, d4] }
  | _ => none }
def fnExactIsLosslessRow : OpenClaim := { program := "ytmbfgfhncbmgpaa", sum := "c5b00ded29a07d478ac9493882b98a4e7f5cdd68432d9f517e566e0bf7557893", func := "loop.example/g00641/laws.FnExactIsLossless", spec := "fnExactIsLossless", unfollowed := true, recurses := true, apart := false }
def FnExactIsLosslessSaid : Prop := fnExactIsLosslessRow.holds Try.pinned (OpenSpec.ofChange fnExactIsLosslessSpec)

/-- ITS FALSE NEIGHBOUR: 'it returns false'. Refute it at one input. -/
def fnExactIsLosslessWrong : ChangeSpec := { name := "fnExactIsLossless", fn := fun _ => fun
  | [d1, d2, d3, d4] => { results := [.lit (.bool false)], args := [d1, d2, d3, d4] }
  | _ => none }
def FnExactIsLosslessWrongFalsely : Prop := fnExactIsLosslessRow.holds Try.pinned (OpenSpec.ofChange fnExactIsLosslessWrong)

/-- 'laws.FnExactCoverOf': WHATEVER THE INPUT: true; the input reads as it did. -/
def fnExactCoverOfSpec : ChangeSpec := { name := "fnExactCoverOf", fn := fun _ => fun
  | [d1, d2] => { results := [.lit (.bool true)], args := [d1, d2] }
  | _ => none }
def fnExactCoverOfRow : OpenClaim := { program := "ytmbfgfhncbmgpaa", sum := "c5b00ded29a07d478ac9493882b98a4e7f5cdd68432d9f517e566e0bf7557893", func := "loop.example/g00641/laws.FnExactCoverOf", spec := "fnExactCoverOf", unfollowed := true, recurses := true, apart := false }
def FnExactCoverOfSaid : Prop := fnExactCoverOfRow.holds Try.pinned (OpenSpec.ofChange fnExactCoverOfSpec)

/-- ITS FALSE NEIGHBOUR: 'it returns false'. Refute it at one input. -/
def fnExactCoverOfWrong : ChangeSpec := { name := "fnExactCoverOf", fn := fun _ => fun
  | [d1, d2] => { results := [.lit (.bool false)], args := [d1, d2] }
  | _ => none }
def FnExactCoverOfWrongFalsely : Prop := fnExactCoverOfRow.holds Try.pinned (OpenSpec.ofChange fnExactCoverOfWrong)

/-- 'laws.FnExactKeysFor': WHATEVER THE INPUT: true; the input reads as it did. -/
def fnExactKeysForSpec : ChangeSpec := { name := "fnExactKeysFor", fn := fun _ => fun
  | [d1, d2] => { results := [.lit (.bool true)], args := [d1, d2] }
  | _ => none }
def fnExactKeysForRow : OpenClaim := { program := "ytmbfgfhncbmgpaa", sum := "c5b00ded29a07d478ac9493882b98a4e7f5cdd68432d9f517e566e0bf7557893", func := "loop.example/g00641/laws.FnExactKeysFor", spec := "fnExactKeysFor", unfollowed := true, recurses := true, apart := false }
def FnExactKeysForSaid : Prop := fnExactKeysForRow.holds Try.pinned (OpenSpec.ofChange fnExactKeysForSpec)

/-- ITS FALSE NEIGHBOUR: 'it returns false'. Refute it at one input. -/
def fnExactKeysForWrong : ChangeSpec := { name := "fnExactKeysFor", fn := fun _ => fun
  | [d1, d2] => { results := [.lit (.bool false)], args := [d1, d2] }
  | _ => none }
def FnExactKeysForWrongFalsely : Prop := fnExactKeysForRow.holds Try.pinned (OpenSpec.ofChange fnExactKeysForWrong)

/-- 'laws.FnExactBadIn': WHATEVER THE INPUT: true; the input reads as it did. -/
def fnExactBadInSpec : ChangeSpec := { name := "fnExactBadIn", fn := fun _ => fun
  | [d1, d2, d3] => { results := [.lit (.bool true)], args := [d1, d2, d3] }
  | _ => none }
def fnExactBadInRow : OpenClaim := { program := "ytmbfgfhncbmgpaa", sum := "c5b00ded29a07d478ac9493882b98a4e7f5cdd68432d9f517e566e0bf7557893", func := "loop.example/g00641/laws.FnExactBadIn", spec := "fnExactBadIn", unfollowed := true, recurses := true, apart := false }
def FnExactBadInSaid : Prop := fnExactBadInRow.holds Try.pinned (OpenSpec.ofChange fnExactBadInSpec)

/-- ITS FALSE NEIGHBOUR: 'it returns false'. Refute it at one input. -/
def fnExactBadInWrong : ChangeSpec := { name := "fnExactBadIn", fn := fun _ => fun
  | [d1, d2, d3] => { results := [.lit (.bool false)], args := [d1, d2, d3] }
  | _ => none }
def FnExactBadInWrongFalsely : Prop := fnExactBadInRow.holds Try.pinned (OpenSpec.ofChange fnExactBadInWrong)

/-- 'laws.FnExactSplitAll': WHATEVER THE INPUT: true; the input reads as it did. -/
def fnExactSplitAllSpec : ChangeSpec := { name := "fnExactSplitAll", fn := fun _ => fun
  | [d1, d2] => { results := [.lit (.bool true)], args := [d1, d2] }
  | _ => none }
def fnExactSplitAllRow : OpenClaim := { program := "ytmbfgfhncbmgpaa", sum := "c5b00ded29a07d478ac9493882b98a4e7f5cdd68432d9f517e566e0bf7557893", func := "loop.example/g00641/laws.FnExactSplitAll", spec := "fnExactSplitAll", inPlace := ["slices.overlaps[[]int]"], unfollowed := true, recurses := true, apart := false }
def FnExactSplitAllSaid : Prop := fnExactSplitAllRow.holds Try.pinned (OpenSpec.ofChange fnExactSplitAllSpec)

/-- ITS FALSE NEIGHBOUR: 'it returns false'. Refute it at one input. -/
def fnExactSplitAllWrong : ChangeSpec := { name := "fnExactSplitAll", fn := fun _ => fun
  | [d1, d2] => { results := [.lit (.bool false)], args := [d1, d2] }
  | _ => none }
def FnExactSplitAllWrongFalsely : Prop := fnExactSplitAllRow.holds Try.pinned (OpenSpec.ofChange fnExactSplitAllWrong)

/- THE SECOND FORM. 'bulk': how many values and letters a reading holds, each counted each time it is reached (what is shared counts as often as it is met; a slice's spare places count too). A statement '..UptoSaid' is the law's where the arguments, and the package variables that the reading takes, are together of bulk at most 1048576: NARROWER than '..Said'. Prove '..Said' where nothing that the law and all that it calls make is longer than what came in: it says more and counts as full. Else prove '..UptoSaid'. A law counts once. -/
mutual
def uptoBulk {H : Type} : DataW H → Nat
  | .lit (.string bytes) => bytes.length + 1
  | .lit _ => 1
  | .nil => 1
  | .ptr d => uptoBulk d + 1
  | .slice elems spare => uptoBulkAll elems + uptoBulkAll spare + 1
  | .agg parts => uptoBulkAll parts + 1
  | .iface _ d => uptoBulk d + 1
  | .map entries => uptoBulkEntries entries + 1
  | .held _ => 1
def uptoBulkAll {H : Type} : List (DataW H) → Nat
  | [] => 0
  | d :: r => uptoBulk d + uptoBulkAll r
def uptoBulkEntries {H : Type} : List (Lit × DataW H) → Nat
  | [] => 0
  | x :: r => uptoBulkEntry x + uptoBulkEntries r
def uptoBulkEntry {H : Type} : Lit × DataW H → Nat
  | (.string bytes, d) => bytes.length + uptoBulk d + 1
  | (_, d) => uptoBulk d + 1
 end
def uptoSmall : (H : Type) → List (DataW H) → Bool := fun _ ds => decide (uptoBulkAll ds ≤ 1048576)
def OpenSpec.upto (s : _root_.Go.ChangeSpec) : _root_.Go.OpenSpec := { _root_.Go.OpenSpec.ofChange s with cond := some uptoSmall }

/-- 'laws.FnExactImplies', WHERE WHAT IT READS IS OF BULK AT MOST 1048576: true; the input reads as it did. -/
def fnExactImpliesUptoRow : OpenClaim := { program := "ytmbfgfhncbmgpaa", sum := "c5b00ded29a07d478ac9493882b98a4e7f5cdd68432d9f517e566e0bf7557893", func := "loop.example/g00641/laws.FnExactImplies", spec := "fnExactImplies", unfollowed := true, recurses := true, apart := false, narrowed := true }
def FnExactImpliesUptoSaid : Prop := fnExactImpliesUptoRow.holds Try.pinned (OpenSpec.upto fnExactImpliesSpec)

/-- 'laws.FnExactSplitBy', WHERE WHAT IT READS IS OF BULK AT MOST 1048576: true; the input reads as it did. -/
def fnExactSplitByUptoRow : OpenClaim := { program := "ytmbfgfhncbmgpaa", sum := "c5b00ded29a07d478ac9493882b98a4e7f5cdd68432d9f517e566e0bf7557893", func := "loop.example/g00641/laws.FnExactSplitBy", spec := "fnExactSplitBy", unfollowed := true, recurses := true, apart := false, narrowed := true }
def FnExactSplitByUptoSaid : Prop := fnExactSplitByUptoRow.holds Try.pinned (OpenSpec.upto fnExactSplitBySpec)

/-- 'laws.FnExactIsKept', WHERE WHAT IT READS IS OF BULK AT MOST 1048576: true; the input reads as it did. -/
def fnExactIsKeptUptoRow : OpenClaim := { program := "ytmbfgfhncbmgpaa", sum := "c5b00ded29a07d478ac9493882b98a4e7f5cdd68432d9f517e566e0bf7557893", func := "loop.example/g00641/laws.FnExactIsKept", spec := "fnExactIsKept", unfollowed := true, recurses := true, apart := false, narrowed := true }
def FnExactIsKeptUptoSaid : Prop := fnExactIsKeptUptoRow.holds Try.pinned (OpenSpec.upto fnExactIsKeptSpec)

/-- 'laws.FnExactClosureOf', WHERE WHAT IT READS IS OF BULK AT MOST 1048576: true; the input reads as it did. -/
def fnExactClosureOfUptoRow : OpenClaim := { program := "ytmbfgfhncbmgpaa", sum := "c5b00ded29a07d478ac9493882b98a4e7f5cdd68432d9f517e566e0bf7557893", func := "loop.example/g00641/laws.FnExactClosureOf", spec := "fnExactClosureOf", unfollowed := true, recurses := true, apart := false, narrowed := true }
def FnExactClosureOfUptoSaid : Prop := fnExactClosureOfUptoRow.holds Try.pinned (OpenSpec.upto fnExactClosureOfSpec)

/-- 'laws.FnExactIsLossless', WHERE WHAT IT READS IS OF BULK AT MOST 1048576: true; the input reads as it did. -/
def fnExactIsLosslessUptoRow : OpenClaim := { program := "ytmbfgfhncbmgpaa", sum := "c5b00ded29a07d478ac9493882b98a4e7f5cdd68432d9f517e566e0bf7557893", func := "loop.example/g00641/laws.FnExactIsLossless", spec := "fnExactIsLossless", unfollowed := true, recurses := true, apart := false, narrowed := true }
def FnExactIsLosslessUptoSaid : Prop := fnExactIsLosslessUptoRow.holds Try.pinned (OpenSpec.upto fnExactIsLosslessSpec)

/-- 'laws.FnExactCoverOf', WHERE WHAT IT READS IS OF BULK AT MOST 1048576: true; the input reads as it did. -/
def fnExactCoverOfUptoRow : OpenClaim := { program := "ytmbfgfhncbmgpaa", sum := "c5b00ded29a07d478ac9493882b98a4e7f5cdd68432d9f517e566e0bf7557893", func := "loop.example/g00641/laws.FnExactCoverOf", spec := "fnExactCoverOf", unfollowed := true, recurses := true, apart := false, narrowed := true }
def FnExactCoverOfUptoSaid : Prop := fnExactCoverOfUptoRow.holds Try.pinned (OpenSpec.upto fnExactCoverOfSpec)

/-- 'laws.FnExactKeysFor', WHERE WHAT IT READS IS OF BULK AT MOST 1048576: true; the input reads as it did. -/
def fnExactKeysForUptoRow : OpenClaim := { program := "ytmbfgfhncbmgpaa", sum := "c5b00ded29a07d478ac9493882b98a4e7f5cdd68432d9f517e566e0bf7557893", func := "loop.example/g00641/laws.FnExactKeysFor", spec := "fnExactKeysFor", unfollowed := true, recurses := true, apart := false, narrowed := true }
def FnExactKeysForUptoSaid : Prop := fnExactKeysForUptoRow.holds Try.pinned (OpenSpec.upto fnExactKeysForSpec)

/-- 'laws.FnExactBadIn', WHERE WHAT IT READS IS OF BULK AT MOST 1048576: true; the input reads as it did. -/
def fnExactBadInUptoRow : OpenClaim := { program := "ytmbfgfhncbmgpaa", sum := "c5b00ded29a07d478ac9493882b98a4e7f5cdd68432d9f517e566e0bf7557893", func := "loop.example/g00641/laws.FnExactBadIn", spec := "fnExactBadIn", unfollowed := true, recurses := true, apart := false, narrowed := true }
def FnExactBadInUptoSaid : Prop := fnExactBadInUptoRow.holds Try.pinned (OpenSpec.upto fnExactBadInSpec)

/-- 'laws.FnExactSplitAll', WHERE WHAT IT READS IS OF BULK AT MOST 1048576: true; the input reads as it did. -/
def fnExactSplitAllUptoRow : OpenClaim := { program := "ytmbfgfhncbmgpaa", sum := "c5b00ded29a07d478ac9493882b98a4e7f5cdd68432d9f517e566e0bf7557893", func := "loop.example/g00641/laws.FnExactSplitAll", spec := "fnExactSplitAll", inPlace := ["slices.overlaps[[]int]"], unfollowed := true, recurses := true, apart := false, narrowed := true }
def FnExactSplitAllUptoSaid : Prop := fnExactSplitAllUptoRow.holds Try.pinned (OpenSpec.upto fnExactSplitAllSpec)

end Rows
end Go.Proofs.Ytmbfgfhncbmgpaa
