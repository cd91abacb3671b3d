/-
  No cell of these rows narrows 'for every input' (looked for: loops, veiled, ifaces, maps, wideKeys, modest, calm, conditions, laid).
  DERIVED. THE GIVEN ROWS OF THIS SEAT. 4 by the template 'for every input the law returns true; each argument reads behind the call as it read before'; 0 by the template 'total and deterministic' (their statements: YtpnlkmpoaboncaaTotals.lean).
  GIVEN WITH THE SEED: the statements are not yours to turn. If you find one false, say at which input.
  Laid BY PROGRAM, IN A SANDBOX (cutbox-rows.mjs): the forced cells as the released guide's own fill.sh prints them over the translation e89fe711bc1a0018… (all of the seat's roots in one cut). By AI agents, Wed Nov 11 2026. No macro, syntax, notation, axiom, sorry.
-/
import Derived.Test.YtpnlkmpoaboncaaChecked
import GoSem.Claim
import GoSem.ClaimJoined
import GoSem.ClaimMapViews
import Derived.JoinedTies
import Derived.KernelRfl
namespace Go.Proofs.Ytpnlkmpoaboncaa
/- THE CELL 'sum', in the pinned program and in every row, IS THE sha256 OF THE DUMP (.gsa) THAT YtpnlkmpoaboncaaProg.lean LOADS. Nothing in Lean hashes anything: it is a label: what it is worth is what the hold of that sum in a sandbox is worth. -/
noncomputable def Try.pinned : Pinned := { name := "ytpnlkmpoaboncaa", sum := "e89fe711bc1a0018df6c584d830923d633e0999a8aa49993a5d00f6ec74e2061", checked := Try.checked }
namespace Rows
def none {H : Type} : Left H := { results := [], args := [] }

/-- 'laws.FnExactLastWrites': WHATEVER THE INPUT: true; the input reads as it did. -/
def fnExactLastWritesSpec : ChangeSpec := { name := "fnExactLastWrites", fn := fun _ => fun
  | [d] => { results := [.lit (.bool true)], args := [d] }
  | _ => none }
def fnExactLastWritesRow : OpenClaim := { program := "ytpnlkmpoaboncaa", sum := "e89fe711bc1a0018df6c584d830923d633e0999a8aa49993a5d00f6ec74e2061", func := "loop.example/g00641/laws.FnExactLastWrites", spec := "fnExactLastWrites", unfollowed := true, recurses := true, apart := false }
def FnExactLastWritesSaid : Prop := fnExactLastWritesRow.holds Try.pinned (OpenSpec.ofChange fnExactLastWritesSpec)

/-- ITS FALSE NEIGHBOUR: 'it returns false'. Refute it at one input. -/
def fnExactLastWritesWrong : ChangeSpec := { name := "fnExactLastWrites", fn := fun _ => fun
  | [d] => { results := [.lit (.bool false)], args := [d] }
  | _ => none }
def FnExactLastWritesWrongFalsely : Prop := fnExactLastWritesRow.holds Try.pinned (OpenSpec.ofChange fnExactLastWritesWrong)

/-- 'laws.FnExactReadsFrom': WHATEVER THE INPUT: true; the input reads as it did. -/
def fnExactReadsFromSpec : ChangeSpec := { name := "fnExactReadsFrom", fn := fun _ => fun
  | [d] => { results := [.lit (.bool true)], args := [d] }
  | _ => none }
def fnExactReadsFromRow : OpenClaim := { program := "ytpnlkmpoaboncaa", sum := "e89fe711bc1a0018df6c584d830923d633e0999a8aa49993a5d00f6ec74e2061", func := "loop.example/g00641/laws.FnExactReadsFrom", spec := "fnExactReadsFrom", unfollowed := true, recurses := true, apart := false }
def FnExactReadsFromSaid : Prop := fnExactReadsFromRow.holds Try.pinned (OpenSpec.ofChange fnExactReadsFromSpec)

/-- ITS FALSE NEIGHBOUR: 'it returns false'. Refute it at one input. -/
def fnExactReadsFromWrong : ChangeSpec := { name := "fnExactReadsFrom", fn := fun _ => fun
  | [d] => { results := [.lit (.bool false)], args := [d] }
  | _ => none }
def FnExactReadsFromWrongFalsely : Prop := fnExactReadsFromRow.holds Try.pinned (OpenSpec.ofChange fnExactReadsFromWrong)

/-- 'laws.FnExactSameEffect': WHATEVER THE INPUT: true; the input reads as it did. -/
def fnExactSameEffectSpec : ChangeSpec := { name := "fnExactSameEffect", fn := fun _ => fun
  | [d1, d2] => { results := [.lit (.bool true)], args := [d1, d2] }
  | _ => none }
def fnExactSameEffectRow : OpenClaim := { program := "ytpnlkmpoaboncaa", sum := "e89fe711bc1a0018df6c584d830923d633e0999a8aa49993a5d00f6ec74e2061", func := "loop.example/g00641/laws.FnExactSameEffect", spec := "fnExactSameEffect", unfollowed := true, recurses := true, apart := false }
def FnExactSameEffectSaid : Prop := fnExactSameEffectRow.holds Try.pinned (OpenSpec.ofChange fnExactSameEffectSpec)

/-- ITS FALSE NEIGHBOUR: 'it returns false'. Refute it at one input. -/
def fnExactSameEffectWrong : ChangeSpec := { name := "fnExactSameEffect", fn := fun _ => fun
  | [d1, d2] => { results := [.lit (.bool false)], args := [d1, d2] }
  | _ => none }
def FnExactSameEffectWrongFalsely : Prop := fnExactSameEffectRow.holds Try.pinned (OpenSpec.ofChange fnExactSameEffectWrong)

/-- 'laws.FnExactOneByOne': WHATEVER THE INPUT: true; the input reads as it did. -/
def fnExactOneByOneSpec : ChangeSpec := { name := "fnExactOneByOne", fn := fun _ => fun
  | [d1, d2] => { results := [.lit (.bool true)], args := [d1, d2] }
  | _ => none }
def fnExactOneByOneRow : OpenClaim := { program := "ytpnlkmpoaboncaa", sum := "e89fe711bc1a0018df6c584d830923d633e0999a8aa49993a5d00f6ec74e2061", func := "loop.example/g00641/laws.FnExactOneByOne", spec := "fnExactOneByOne", unfollowed := true, recurses := true, apart := false }
def FnExactOneByOneSaid : Prop := fnExactOneByOneRow.holds Try.pinned (OpenSpec.ofChange fnExactOneByOneSpec)

/-- ITS FALSE NEIGHBOUR: 'it returns false'. Refute it at one input. -/
def fnExactOneByOneWrong : ChangeSpec := { name := "fnExactOneByOne", fn := fun _ => fun
  | [d1, d2] => { results := [.lit (.bool false)], args := [d1, d2] }
  | _ => none }
def FnExactOneByOneWrongFalsely : Prop := fnExactOneByOneRow.holds Try.pinned (OpenSpec.ofChange fnExactOneByOneWrong)

/- THE SECOND FORM. 'bulk': how many values and letters a reading holds, each counted each time it is reached (what is shared counts as often as it is met; a slice's spare places count too). A statement '..UptoSaid' is the law's where the arguments, and the package variables that the reading takes, are together of bulk at most 1048576: NARROWER than '..Said'. Prove '..Said' where nothing that the law and all that it calls make is longer than what came in: it says more and counts as full. Else prove '..UptoSaid'. A law counts once. -/
mutual
def uptoBulk {H : Type} : DataW H → Nat
  | .lit (.string bytes) => bytes.length + 1
  | .lit _ => 1
  | .nil => 1
  | .ptr d => uptoBulk d + 1
  | .slice elems spare => uptoBulkAll elems + uptoBulkAll spare + 1
  | .agg parts => uptoBulkAll parts + 1
  | .iface _ d => uptoBulk d + 1
  | .map entries => uptoBulkEntries entries + 1
  | .held _ => 1
def uptoBulkAll {H : Type} : List (DataW H) → Nat
  | [] => 0
  | d :: r => uptoBulk d + uptoBulkAll r
def uptoBulkEntries {H : Type} : List (Lit × DataW H) → Nat
  | [] => 0
  | x :: r => uptoBulkEntry x + uptoBulkEntries r
def uptoBulkEntry {H : Type} : Lit × DataW H → Nat
  | (.string bytes, d) => bytes.length + uptoBulk d + 1
  | (_, d) => uptoBulk d + 1
 end
def uptoSmall : (H : Type) → List (DataW H) → Bool := fun _ ds => decide (uptoBulkAll ds ≤ 1048576)
def OpenSpec.upto (s : _root_.Go.ChangeSpec) : _root_.Go.OpenSpec := { _root_.Go.OpenSpec.ofChange s with cond := some uptoSmall }

/-- 'laws.FnExactLastWrites', WHERE WHAT IT READS IS OF BULK AT MOST 1048576: true; the input reads as it did. -/
def fnExactLastWritesUptoRow : OpenClaim := { program := "ytpnlkmpoaboncaa", sum := "e89fe711bc1a0018df6c584d830923d633e0999a8aa49993a5d00f6ec74e2061", func := "loop.example/g00641/laws.FnExactLastWrites", spec := "fnExactLastWrites", unfollowed := true, recurses := true, apart := false, narrowed := true }
def FnExactLastWritesUptoSaid : Prop := fnExactLastWritesUptoRow.holds Try.pinned (OpenSpec.upto fnExactLastWritesSpec)

/-- 'laws.FnExactReadsFrom', WHERE WHAT IT READS IS OF BULK AT MOST 1048576: true; the input reads as it did. -/
def fnExactReadsFromUptoRow : OpenClaim := { program := "ytpnlkmpoaboncaa", sum := "e89fe711bc1a0018df6c584d830923d633e0999a8aa49993a5d00f6ec74e2061", func := "loop.example/g00641/laws.FnExactReadsFrom", spec := "fnExactReadsFrom", unfollowed := true, recurses := true, apart := false, narrowed := true }
def FnExactReadsFromUptoSaid : Prop := fnExactReadsFromUptoRow.holds Try.pinned (OpenSpec.upto fnExactReadsFromSpec)

/-- 'laws.FnExactSameEffect', WHERE WHAT IT READS IS OF BULK AT MOST 1048576: true; the input reads as it did. -/
def fnExactSameEffectUptoRow : OpenClaim := { program := "ytpnlkmpoaboncaa", sum := "e89fe711bc1a0018df6c584d830923d633e0999a8aa49993a5d00f6ec74e2061", func := "loop.example/g00641/laws.FnExactSameEffect", spec := "fnExactSameEffect", unfollowed := true, recurses := true, apart := false, narrowed := true }
def FnExactSameEffectUptoSaid : Prop := fnExactSameEffectUptoRow.holds Try.pinned (OpenSpec.upto fnExactSameEffectSpec)

/-- 'laws.FnExactOneByOne', WHERE WHAT IT READS IS OF BULK AT MOST 1048576: true; the input reads as it did. -/
def fnExactOneByOneUptoRow : OpenClaim := { program := "ytpnlkmpoaboncaa", sum := "e89fe711bc1a0018df6c584d830923d633e0999a8aa49993a5d00f6ec74e2061", func := "loop.example/g00641/laws.FnExactOneByOne", spec := "fnExactOneByOne", unfollowed := true, recurses := true, apart := false, narrowed := true }
def FnExactOneByOneUptoSaid : Prop := fnExactOneByOneUptoRow.holds Try.pinned (OpenSpec.upto fnExactOneByOneSpec)

end Rows
end Go.Proofs.Ytpnlkmpoaboncaa
