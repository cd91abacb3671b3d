/-
  No cell of these rows narrows 'for every input' (looked for: loops, veiled, ifaces, maps, wideKeys, modest, calm, conditions, laid).
  DERIVED. THE GIVEN ROWS OF THIS SEAT. 9 by the template 'for every input the law returns true; each argument reads behind the call as it read before'; 0 by the template 'total and deterministic' (their statements: YtilkklbocjhdoaaTotals.lean).
  GIVEN WITH THE SEED: the statements are not yours to turn. If you find one false, say at which input.
  Laid BY PROGRAM, IN A SANDBOX (cutbox-rows.mjs): the forced cells as the released guide's own fill.sh prints them over the translation c161056e25cad9d0… (all of the seat's roots in one cut). By AI agents, Wed Nov 11 2026. No macro, syntax, notation, axiom, sorry.
-/
import Derived.Test.YtilkklbocjhdoaaChecked
import GoSem.Claim
import GoSem.ClaimJoined
import GoSem.ClaimMapViews
import Derived.JoinedTies
import Derived.KernelRfl
namespace Go.Proofs.Ytilkklbocjhdoaa
/- THE CELL 'sum', in the pinned program and in every row, IS THE sha256 OF THE DUMP (.gsa) THAT YtilkklbocjhdoaaProg.lean LOADS. Nothing in Lean hashes anything: it is a label: what it is worth is what the hold of that sum in a sandbox is worth. -/
noncomputable def Try.pinned : Pinned := { name := "ytilkklbocjhdoaa", sum := "c161056e25cad9d0eacb7bb1da54e641cf9172c23ed648a983e5cefe3754d501", checked := Try.checked }
namespace Rows
def none {H : Type} : Left H := { results := [], args := [] }

/-- 'laws.FnExactGoodPlay': WHATEVER THE INPUT: true; the input reads as it did. -/
def fnExactGoodPlaySpec : ChangeSpec := { name := "fnExactGoodPlay", fn := fun _ => fun
  | [d] => { results := [.lit (.bool true)], args := [d] }
  | _ => none }
def fnExactGoodPlayRow : OpenClaim := { program := "ytilkklbocjhdoaa", sum := "c161056e25cad9d0eacb7bb1da54e641cf9172c23ed648a983e5cefe3754d501", func := "loop.example/g00641/laws.FnExactGoodPlay", spec := "fnExactGoodPlay", unfollowed := true, recurses := true, apart := false }
def FnExactGoodPlaySaid : Prop := fnExactGoodPlayRow.holds Try.pinned (OpenSpec.ofChange fnExactGoodPlaySpec)

/-- ITS FALSE NEIGHBOUR: 'it returns false'. Refute it at one input. -/
def fnExactGoodPlayWrong : ChangeSpec := { name := "fnExactGoodPlay", fn := fun _ => fun
  | [d] => { results := [.lit (.bool false)], args := [d] }
  | _ => none }
def FnExactGoodPlayWrongFalsely : Prop := fnExactGoodPlayRow.holds Try.pinned (OpenSpec.ofChange fnExactGoodPlayWrong)

/-- 'laws.FnExactConflictsOf': WHATEVER THE INPUT: true; the input reads as it did. -/
def fnExactConflictsOfSpec : ChangeSpec := { name := "fnExactConflictsOf", fn := fun _ => fun
  | [d] => { results := [.lit (.bool true)], args := [d] }
  | _ => none }
def fnExactConflictsOfRow : OpenClaim := { program := "ytilkklbocjhdoaa", sum := "c161056e25cad9d0eacb7bb1da54e641cf9172c23ed648a983e5cefe3754d501", func := "loop.example/g00641/laws.FnExactConflictsOf", spec := "fnExactConflictsOf", unfollowed := true, recurses := true, apart := false }
def FnExactConflictsOfSaid : Prop := fnExactConflictsOfRow.holds Try.pinned (OpenSpec.ofChange fnExactConflictsOfSpec)

/-- ITS FALSE NEIGHBOUR: 'it returns false'. Refute it at one input. -/
def fnExactConflictsOfWrong : ChangeSpec := { name := "fnExactConflictsOf", fn := fun _ => fun
  | [d] => { results := [.lit (.bool false)], args := [d] }
  | _ => none }
def FnExactConflictsOfWrongFalsely : Prop := fnExactConflictsOfRow.holds Try.pinned (OpenSpec.ofChange fnExactConflictsOfWrong)

/-- 'laws.FnExactLastWrites': WHATEVER THE INPUT: true; the input reads as it did. -/
def fnExactLastWritesSpec : ChangeSpec := { name := "fnExactLastWrites", fn := fun _ => fun
  | [d] => { results := [.lit (.bool true)], args := [d] }
  | _ => none }
def fnExactLastWritesRow : OpenClaim := { program := "ytilkklbocjhdoaa", sum := "c161056e25cad9d0eacb7bb1da54e641cf9172c23ed648a983e5cefe3754d501", func := "loop.example/g00641/laws.FnExactLastWrites", spec := "fnExactLastWrites", unfollowed := true, recurses := true, apart := false }
def FnExactLastWritesSaid : Prop := fnExactLastWritesRow.holds Try.pinned (OpenSpec.ofChange fnExactLastWritesSpec)

/-- ITS FALSE NEIGHBOUR: 'it returns false'. Refute it at one input. -/
def fnExactLastWritesWrong : ChangeSpec := { name := "fnExactLastWrites", fn := fun _ => fun
  | [d] => { results := [.lit (.bool false)], args := [d] }
  | _ => none }
def FnExactLastWritesWrongFalsely : Prop := fnExactLastWritesRow.holds Try.pinned (OpenSpec.ofChange fnExactLastWritesWrong)

/-- 'laws.FnExactReadsFrom': WHATEVER THE INPUT: true; the input reads as it did. -/
def fnExactReadsFromSpec : ChangeSpec := { name := "fnExactReadsFrom", fn := fun _ => fun
  | [d] => { results := [.lit (.bool true)], args := [d] }
  | _ => none }
def fnExactReadsFromRow : OpenClaim := { program := "ytilkklbocjhdoaa", sum := "c161056e25cad9d0eacb7bb1da54e641cf9172c23ed648a983e5cefe3754d501", func := "loop.example/g00641/laws.FnExactReadsFrom", spec := "fnExactReadsFrom", unfollowed := true, recurses := true, apart := false }
def FnExactReadsFromSaid : Prop := fnExactReadsFromRow.holds Try.pinned (OpenSpec.ofChange fnExactReadsFromSpec)

/-- ITS FALSE NEIGHBOUR: 'it returns false'. Refute it at one input. -/
def fnExactReadsFromWrong : ChangeSpec := { name := "fnExactReadsFrom", fn := fun _ => fun
  | [d] => { results := [.lit (.bool false)], args := [d] }
  | _ => none }
def FnExactReadsFromWrongFalsely : Prop := fnExactReadsFromRow.holds Try.pinned (OpenSpec.ofChange fnExactReadsFromWrong)

/-- 'laws.FnExactSerialOf': WHATEVER THE INPUT: true; the input reads as it did. -/
def fnExactSerialOfSpec : ChangeSpec := { name := "fnExactSerialOf", fn := fun _ => fun
  | [d] => { results := [.lit (.bool true)], args := [d] }
  | _ => none }
def fnExactSerialOfRow : OpenClaim := { program := "ytilkklbocjhdoaa", sum := "c161056e25cad9d0eacb7bb1da54e641cf9172c23ed648a983e5cefe3754d501", func := "loop.example/g00641/laws.FnExactSerialOf", spec := "fnExactSerialOf", unfollowed := true, recurses := true, apart := false }
def FnExactSerialOfSaid : Prop := fnExactSerialOfRow.holds Try.pinned (OpenSpec.ofChange fnExactSerialOfSpec)

/-- ITS FALSE NEIGHBOUR: 'it returns false'. Refute it at one input. -/
def fnExactSerialOfWrong : ChangeSpec := { name := "fnExactSerialOf", fn := fun _ => fun
  | [d] => { results := [.lit (.bool false)], args := [d] }
  | _ => none }
def FnExactSerialOfWrongFalsely : Prop := fnExactSerialOfRow.holds Try.pinned (OpenSpec.ofChange fnExactSerialOfWrong)

/-- 'laws.FnExactSwapAt': WHATEVER THE INPUT: true; the input reads as it did. -/
def fnExactSwapAtSpec : ChangeSpec := { name := "fnExactSwapAt", fn := fun _ => fun
  | [d1, d2] => { results := [.lit (.bool true)], args := [d1, d2] }
  | _ => none }
def fnExactSwapAtRow : OpenClaim := { program := "ytilkklbocjhdoaa", sum := "c161056e25cad9d0eacb7bb1da54e641cf9172c23ed648a983e5cefe3754d501", func := "loop.example/g00641/laws.FnExactSwapAt", spec := "fnExactSwapAt", unfollowed := true, recurses := true, apart := false }
def FnExactSwapAtSaid : Prop := fnExactSwapAtRow.holds Try.pinned (OpenSpec.ofChange fnExactSwapAtSpec)

/-- ITS FALSE NEIGHBOUR: 'it returns false'. Refute it at one input. -/
def fnExactSwapAtWrong : ChangeSpec := { name := "fnExactSwapAt", fn := fun _ => fun
  | [d1, d2] => { results := [.lit (.bool false)], args := [d1, d2] }
  | _ => none }
def FnExactSwapAtWrongFalsely : Prop := fnExactSwapAtRow.holds Try.pinned (OpenSpec.ofChange fnExactSwapAtWrong)

/-- 'laws.FnExactSameEffect': WHATEVER THE INPUT: true; the input reads as it did. -/
def fnExactSameEffectSpec : ChangeSpec := { name := "fnExactSameEffect", fn := fun _ => fun
  | [d1, d2] => { results := [.lit (.bool true)], args := [d1, d2] }
  | _ => none }
def fnExactSameEffectRow : OpenClaim := { program := "ytilkklbocjhdoaa", sum := "c161056e25cad9d0eacb7bb1da54e641cf9172c23ed648a983e5cefe3754d501", func := "loop.example/g00641/laws.FnExactSameEffect", spec := "fnExactSameEffect", unfollowed := true, recurses := true, apart := false }
def FnExactSameEffectSaid : Prop := fnExactSameEffectRow.holds Try.pinned (OpenSpec.ofChange fnExactSameEffectSpec)

/-- ITS FALSE NEIGHBOUR: 'it returns false'. Refute it at one input. -/
def fnExactSameEffectWrong : ChangeSpec := { name := "fnExactSameEffect", fn := fun _ => fun
  | [d1, d2] => { results := [.lit (.bool false)], args := [d1, d2] }
  | _ => none }
def FnExactSameEffectWrongFalsely : Prop := fnExactSameEffectRow.holds Try.pinned (OpenSpec.ofChange fnExactSameEffectWrong)

/-- 'laws.FnExactOneByOne': WHATEVER THE INPUT: true; the input reads as it did. -/
def fnExactOneByOneSpec : ChangeSpec := { name := "fnExactOneByOne", fn := fun _ => fun
  | [d1, d2] => { results := [.lit (.bool true)], args := [d1, d2] }
  | _ => none }
def fnExactOneByOneRow : OpenClaim := { program := "ytilkklbocjhdoaa", sum := "c161056e25cad9d0eacb7bb1da54e641cf9172c23ed648a983e5cefe3754d501", func := "loop.example/g00641/laws.FnExactOneByOne", spec := "fnExactOneByOne", unfollowed := true, recurses := true, apart := false }
def FnExactOneByOneSaid : Prop := fnExactOneByOneRow.holds Try.pinned (OpenSpec.ofChange fnExactOneByOneSpec)

/-- ITS FALSE NEIGHBOUR: 'it returns false'. Refute it at one input. -/
def fnExactOneByOneWrong : ChangeSpec := { name := "fnExactOneByOne", fn := fun _ => fun
  | [d1, d2] => { results := [.lit (.bool false)], args := [d1, d2] }
  | _ => none }
def FnExactOneByOneWrongFalsely : Prop := fnExactOneByOneRow.holds Try.pinned (OpenSpec.ofChange fnExactOneByOneWrong)

/-- 'laws.FnExactHasRound': WHATEVER THE INPUT: true; the input reads as it did. -/
def fnExactHasRoundSpec : ChangeSpec := { name := "fnExactHasRound", fn := fun _ => fun
  | [d] => { results := [.lit (.bool true)], args := [d] }
  | _ => none }
def fnExactHasRoundRow : OpenClaim := { program := "ytilkklbocjhdoaa", sum := "c161056e25cad9d0eacb7bb1da54e641cf9172c23ed648a983e5cefe3754d501", func := "loop.example/g00641/laws.FnExactHasRound", spec := "fnExactHasRound", unfollowed := true, recurses := true, apart := false }
def FnExactHasRoundSaid : Prop := fnExactHasRoundRow.holds Try.pinned (OpenSpec.ofChange fnExactHasRoundSpec)

/-- ITS FALSE NEIGHBOUR: 'it returns false'. Refute it at one input. -/
def fnExactHasRoundWrong : ChangeSpec := { name := "fnExactHasRound", fn := fun _ => fun
  | [d] => { results := [.lit (.bool false)], args := [d] }
  | _ => none }
def FnExactHasRoundWrongFalsely : Prop := fnExactHasRoundRow.holds Try.pinned (OpenSpec.ofChange fnExactHasRoundWrong)

/- THE SECOND FORM. 'bulk': how many values and letters a reading holds, each counted each time it is reached (what is shared counts as often as it is met; a slice's spare places count too). A statement '..UptoSaid' is the law's where the arguments, and the package variables that the reading takes, are together of bulk at most 1048576: NARROWER than '..Said'. Prove '..Said' where nothing that the law and all that it calls make is longer than what came in: it says more and counts as full. Else prove '..UptoSaid'. A law counts once. -/
mutual
def uptoBulk {H : Type} : DataW H → Nat
  | .lit (.string bytes) => bytes.length + 1
  | .lit _ => 1
  | .nil => 1
  | .ptr d => uptoBulk d + 1
  | .slice elems spare => uptoBulkAll elems + uptoBulkAll spare + 1
  | .agg parts => uptoBulkAll parts + 1
  | .iface _ d => uptoBulk d + 1
  | .map entries => uptoBulkEntries entries + 1
  | .held _ => 1
def uptoBulkAll {H : Type} : List (DataW H) → Nat
  | [] => 0
  | d :: r => uptoBulk d + uptoBulkAll r
def uptoBulkEntries {H : Type} : List (Lit × DataW H) → Nat
  | [] => 0
  | x :: r => uptoBulkEntry x + uptoBulkEntries r
def uptoBulkEntry {H : Type} : Lit × DataW H → Nat
  | (.string bytes, d) => bytes.length + uptoBulk d + 1
  | (_, d) => uptoBulk d + 1
 end
def uptoSmall : (H : Type) → List (DataW H) → Bool := fun _ ds => decide (uptoBulkAll ds ≤ 1048576)
def OpenSpec.upto (s : _root_.Go.ChangeSpec) : _root_.Go.OpenSpec := { _root_.Go.OpenSpec.ofChange s with cond := some uptoSmall }

/-- 'laws.FnExactGoodPlay', WHERE WHAT IT READS IS OF BULK AT MOST 1048576: true; the input reads as it did. -/
def fnExactGoodPlayUptoRow : OpenClaim := { program := "ytilkklbocjhdoaa", sum := "c161056e25cad9d0eacb7bb1da54e641cf9172c23ed648a983e5cefe3754d501", func := "loop.example/g00641/laws.FnExactGoodPlay", spec := "fnExactGoodPlay", unfollowed := true, recurses := true, apart := false, narrowed := true }
def FnExactGoodPlayUptoSaid : Prop := fnExactGoodPlayUptoRow.holds Try.pinned (OpenSpec.upto fnExactGoodPlaySpec)

/-- 'laws.FnExactConflictsOf', WHERE WHAT IT READS IS OF BULK AT MOST 1048576: true; the input reads as it did. -/
def fnExactConflictsOfUptoRow : OpenClaim := { program := "ytilkklbocjhdoaa", sum := "c161056e25cad9d0eacb7bb1da54e641cf9172c23ed648a983e5cefe3754d501", func := "loop.example/g00641/laws.FnExactConflictsOf", spec := "fnExactConflictsOf", unfollowed := true, recurses := true, apart := false, narrowed := true }
def FnExactConflictsOfUptoSaid : Prop := fnExactConflictsOfUptoRow.holds Try.pinned (OpenSpec.upto fnExactConflictsOfSpec)

/-- 'laws.FnExactLastWrites', WHERE WHAT IT READS IS OF BULK AT MOST 1048576: true; the input reads as it did. -/
def fnExactLastWritesUptoRow : OpenClaim := { program := "ytilkklbocjhdoaa", sum := "c161056e25cad9d0eacb7bb1da54e641cf9172c23ed648a983e5cefe3754d501", func := "loop.example/g00641/laws.FnExactLastWrites", spec := "fnExactLastWrites", unfollowed := true, recurses := true, apart := false, narrowed := true }
def FnExactLastWritesUptoSaid : Prop := fnExactLastWritesUptoRow.holds Try.pinned (OpenSpec.upto fnExactLastWritesSpec)

/-- 'laws.FnExactReadsFrom', WHERE WHAT IT READS IS OF BULK AT MOST 1048576: true; the input reads as it did. -/
def fnExactReadsFromUptoRow : OpenClaim := { program := "ytilkklbocjhdoaa", sum := "c161056e25cad9d0eacb7bb1da54e641cf9172c23ed648a983e5cefe3754d501", func := "loop.example/g00641/laws.FnExactReadsFrom", spec := "fnExactReadsFrom", unfollowed := true, recurses := true, apart := false, narrowed := true }
def FnExactReadsFromUptoSaid : Prop := fnExactReadsFromUptoRow.holds Try.pinned (OpenSpec.upto fnExactReadsFromSpec)

/-- 'laws.FnExactSerialOf', WHERE WHAT IT READS IS OF BULK AT MOST 1048576: true; the input reads as it did. -/
def fnExactSerialOfUptoRow : OpenClaim := { program := "ytilkklbocjhdoaa", sum := "c161056e25cad9d0eacb7bb1da54e641cf9172c23ed648a983e5cefe3754d501", func := "loop.example/g00641/laws.FnExactSerialOf", spec := "fnExactSerialOf", unfollowed := true, recurses := true, apart := false, narrowed := true }
def FnExactSerialOfUptoSaid : Prop := fnExactSerialOfUptoRow.holds Try.pinned (OpenSpec.upto fnExactSerialOfSpec)

/-- 'laws.FnExactSwapAt', WHERE WHAT IT READS IS OF BULK AT MOST 1048576: true; the input reads as it did. -/
def fnExactSwapAtUptoRow : OpenClaim := { program := "ytilkklbocjhdoaa", sum := "c161056e25cad9d0eacb7bb1da54e641cf9172c23ed648a983e5cefe3754d501", func := "loop.example/g00641/laws.FnExactSwapAt", spec := "fnExactSwapAt", unfollowed := true, recurses := true, apart := false, narrowed := true }
def FnExactSwapAtUptoSaid : Prop := fnExactSwapAtUptoRow.holds Try.pinned (OpenSpec.upto fnExactSwapAtSpec)

/-- 'laws.FnExactSameEffect', WHERE WHAT IT READS IS OF BULK AT MOST 1048576: true; the input reads as it did. -/
def fnExactSameEffectUptoRow : OpenClaim := { program := "ytilkklbocjhdoaa", sum := "c161056e25cad9d0eacb7bb1da54e641cf9172c23ed648a983e5cefe3754d501", func := "loop.example/g00641/laws.FnExactSameEffect", spec := "fnExactSameEffect", unfollowed := true, recurses := true, apart := false, narrowed := true }
def FnExactSameEffectUptoSaid : Prop := fnExactSameEffectUptoRow.holds Try.pinned (OpenSpec.upto fnExactSameEffectSpec)

/-- 'laws.FnExactOneByOne', WHERE WHAT IT READS IS OF BULK AT MOST 1048576: true; the input reads as it did. -/
def fnExactOneByOneUptoRow : OpenClaim := { program := "ytilkklbocjhdoaa", sum := "c161056e25cad9d0eacb7bb1da54e641cf9172c23ed648a983e5cefe3754d501", func := "loop.example/g00641/laws.FnExactOneByOne", spec := "fnExactOneByOne", unfollowed := true, recurses := true, apart := false, narrowed := true }
def FnExactOneByOneUptoSaid : Prop := fnExactOneByOneUptoRow.holds Try.pinned (OpenSpec.upto fnExactOneByOneSpec)

/-- 'laws.FnExactHasRound', WHERE WHAT IT READS IS OF BULK AT MOST 1048576: true; the input reads as it did. -/
def fnExactHasRoundUptoRow : OpenClaim := { program := "ytilkklbocjhdoaa", sum := "c161056e25cad9d0eacb7bb1da54e641cf9172c23ed648a983e5cefe3754d501", func := "loop.example/g00641/laws.FnExactHasRound", spec := "fnExactHasRound", unfollowed := true, recurses := true, apart := false, narrowed := true }
def FnExactHasRoundUptoSaid : Prop := fnExactHasRoundUptoRow.holds Try.pinned (OpenSpec.upto fnExactHasRoundSpec)

end Rows
end Go.Proofs.Ytilkklbocjhdoaa
