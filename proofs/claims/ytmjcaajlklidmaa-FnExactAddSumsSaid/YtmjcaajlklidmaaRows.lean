/-
  No cell of these rows narrows 'for every input' (looked for: loops, veiled, ifaces, maps, wideKeys, modest, calm, conditions, laid).
  DERIVED. THE GIVEN ROWS OF THIS SEAT. 12 by the template 'for every input the law returns true; each argument reads behind the call as it read before'; 0 by the template 'total and deterministic' (their statements: YtmjcaajlklidmaaTotals.lean).
  GIVEN WITH THE SEED: the statements are not yours to turn. If you find one false, say at which input.
  Laid BY PROGRAM, IN A SANDBOX (cutbox-rows.mjs): the forced cells as the released guide's own fill.sh prints them over the translation 0f84df35cd038464… (all of the seat's roots in one cut). By AI agents, Wed Nov 11 2026. No macro, syntax, notation, axiom, sorry.
-/
import Derived.Test.YtmjcaajlklidmaaChecked
import GoSem.Claim
import GoSem.ClaimJoined
import GoSem.ClaimMapViews
import Derived.JoinedTies
import Derived.KernelRfl
namespace Go.Proofs.Ytmjcaajlklidmaa
/- THE CELL 'sum', in the pinned program and in every row, IS THE sha256 OF THE DUMP (.gsa) THAT YtmjcaajlklidmaaProg.lean LOADS. Nothing in Lean hashes anything: it is a label: what it is worth is what the hold of that sum in a sandbox is worth. -/
noncomputable def Try.pinned : Pinned := { name := "ytmjcaajlklidmaa", sum := "0f84df35cd038464f9a87868f2b253b2de677f8ec5f36d12685a0a63958d7cf7", checked := Try.checked }
namespace Rows
def none {H : Type} : Left H := { results := [], args := [] }

/-- 'laws.FnExactConstants': WHATEVER THE INPUT: true; the input reads as it did. -/
def fnExactConstantsSpec : ChangeSpec := { name := "fnExactConstants", fn := fun _ => fun
  | [] => { results := [.lit (.bool true)], args := [] }
  | _ => none }
def fnExactConstantsRow : OpenClaim := { program := "ytmjcaajlklidmaa", sum := "0f84df35cd038464f9a87868f2b253b2de677f8ec5f36d12685a0a63958d7cf7", func := "loop.example/g00641/laws.FnExactConstants", spec := "fnExactConstants", apart := false }
def FnExactConstantsSaid : Prop := fnExactConstantsRow.holds Try.pinned (OpenSpec.ofChange fnExactConstantsSpec)

/-- ITS FALSE NEIGHBOUR: 'it returns false'. Refute it at one input. -/
def fnExactConstantsWrong : ChangeSpec := { name := "fnExactConstants", fn := fun _ => fun
  | [] => { results := [.lit (.bool false)], args := [] }
  | _ => none }
def FnExactConstantsWrongFalsely : Prop := fnExactConstantsRow.holds Try.pinned (OpenSpec.ofChange fnExactConstantsWrong)

/-- 'laws.FnExactGoodValue': WHATEVER THE INPUT: true; the input reads as it did. -/
def fnExactGoodValueSpec : ChangeSpec := { name := "fnExactGoodValue", fn := fun _ => fun
  | [d] => { results := [.lit (.bool true)], args := [d] }
  | _ => none }
def fnExactGoodValueRow : OpenClaim := { program := "ytmjcaajlklidmaa", sum := "0f84df35cd038464f9a87868f2b253b2de677f8ec5f36d12685a0a63958d7cf7", func := "loop.example/g00641/laws.FnExactGoodValue", spec := "fnExactGoodValue", apart := false }
def FnExactGoodValueSaid : Prop := fnExactGoodValueRow.holds Try.pinned (OpenSpec.ofChange fnExactGoodValueSpec)

/-- ITS FALSE NEIGHBOUR: 'it returns false'. Refute it at one input. -/
def fnExactGoodValueWrong : ChangeSpec := { name := "fnExactGoodValue", fn := fun _ => fun
  | [d] => { results := [.lit (.bool false)], args := [d] }
  | _ => none }
def FnExactGoodValueWrongFalsely : Prop := fnExactGoodValueRow.holds Try.pinned (OpenSpec.ofChange fnExactGoodValueWrong)

/-- 'laws.FnExactNotOf': WHATEVER THE INPUT: true; the input reads as it did. -/
def fnExactNotOfSpec : ChangeSpec := { name := "fnExactNotOf", fn := fun _ => fun
  | [d] => { results := [.lit (.bool true)], args := [d] }
  | _ => none }
def fnExactNotOfRow : OpenClaim := { program := "ytmjcaajlklidmaa", sum := "0f84df35cd038464f9a87868f2b253b2de677f8ec5f36d12685a0a63958d7cf7", func := "loop.example/g00641/laws.FnExactNotOf", spec := "fnExactNotOf", apart := false }
def FnExactNotOfSaid : Prop := fnExactNotOfRow.holds Try.pinned (OpenSpec.ofChange fnExactNotOfSpec)

/-- ITS FALSE NEIGHBOUR: 'it returns false'. Refute it at one input. -/
def fnExactNotOfWrong : ChangeSpec := { name := "fnExactNotOf", fn := fun _ => fun
  | [d] => { results := [.lit (.bool false)], args := [d] }
  | _ => none }
def FnExactNotOfWrongFalsely : Prop := fnExactNotOfRow.holds Try.pinned (OpenSpec.ofChange fnExactNotOfWrong)

/-- 'laws.FnExactAndOf': WHATEVER THE INPUT: true; the input reads as it did. -/
def fnExactAndOfSpec : ChangeSpec := { name := "fnExactAndOf", fn := fun _ => fun
  | [d1, d2] => { results := [.lit (.bool true)], args := [d1, d2] }
  | _ => none }
def fnExactAndOfRow : OpenClaim := { program := "ytmjcaajlklidmaa", sum := "0f84df35cd038464f9a87868f2b253b2de677f8ec5f36d12685a0a63958d7cf7", func := "loop.example/g00641/laws.FnExactAndOf", spec := "fnExactAndOf", apart := false }
def FnExactAndOfSaid : Prop := fnExactAndOfRow.holds Try.pinned (OpenSpec.ofChange fnExactAndOfSpec)

/-- ITS FALSE NEIGHBOUR: 'it returns false'. Refute it at one input. -/
def fnExactAndOfWrong : ChangeSpec := { name := "fnExactAndOf", fn := fun _ => fun
  | [d1, d2] => { results := [.lit (.bool false)], args := [d1, d2] }
  | _ => none }
def FnExactAndOfWrongFalsely : Prop := fnExactAndOfRow.holds Try.pinned (OpenSpec.ofChange fnExactAndOfWrong)

/-- 'laws.FnExactOrOf': WHATEVER THE INPUT: true; the input reads as it did. -/
def fnExactOrOfSpec : ChangeSpec := { name := "fnExactOrOf", fn := fun _ => fun
  | [d1, d2] => { results := [.lit (.bool true)], args := [d1, d2] }
  | _ => none }
def fnExactOrOfRow : OpenClaim := { program := "ytmjcaajlklidmaa", sum := "0f84df35cd038464f9a87868f2b253b2de677f8ec5f36d12685a0a63958d7cf7", func := "loop.example/g00641/laws.FnExactOrOf", spec := "fnExactOrOf", apart := false }
def FnExactOrOfSaid : Prop := fnExactOrOfRow.holds Try.pinned (OpenSpec.ofChange fnExactOrOfSpec)

/-- ITS FALSE NEIGHBOUR: 'it returns false'. Refute it at one input. -/
def fnExactOrOfWrong : ChangeSpec := { name := "fnExactOrOf", fn := fun _ => fun
  | [d1, d2] => { results := [.lit (.bool false)], args := [d1, d2] }
  | _ => none }
def FnExactOrOfWrongFalsely : Prop := fnExactOrOfRow.holds Try.pinned (OpenSpec.ofChange fnExactOrOfWrong)

/-- 'laws.FnExactSameValue': WHATEVER THE INPUT: true; the input reads as it did. -/
def fnExactSameValueSpec : ChangeSpec := { name := "fnExactSameValue", fn := fun _ => fun
  | [d1, d2] => { results := [.lit (.bool true)], args := [d1, d2] }
  | _ => none }
def fnExactSameValueRow : OpenClaim := { program := "ytmjcaajlklidmaa", sum := "0f84df35cd038464f9a87868f2b253b2de677f8ec5f36d12685a0a63958d7cf7", func := "loop.example/g00641/laws.FnExactSameValue", spec := "fnExactSameValue", apart := false }
def FnExactSameValueSaid : Prop := fnExactSameValueRow.holds Try.pinned (OpenSpec.ofChange fnExactSameValueSpec)

/-- ITS FALSE NEIGHBOUR: 'it returns false'. Refute it at one input. -/
def fnExactSameValueWrong : ChangeSpec := { name := "fnExactSameValue", fn := fun _ => fun
  | [d1, d2] => { results := [.lit (.bool false)], args := [d1, d2] }
  | _ => none }
def FnExactSameValueWrongFalsely : Prop := fnExactSameValueRow.holds Try.pinned (OpenSpec.ofChange fnExactSameValueWrong)

/-- 'laws.FnExactGoodSum': WHATEVER THE INPUT: true; the input reads as it did. -/
def fnExactGoodSumSpec : ChangeSpec := { name := "fnExactGoodSum", fn := fun _ => fun
  | [d] => { results := [.lit (.bool true)], args := [d] }
  | _ => none }
def fnExactGoodSumRow : OpenClaim := { program := "ytmjcaajlklidmaa", sum := "0f84df35cd038464f9a87868f2b253b2de677f8ec5f36d12685a0a63958d7cf7", func := "loop.example/g00641/laws.FnExactGoodSum", spec := "fnExactGoodSum", apart := false }
def FnExactGoodSumSaid : Prop := fnExactGoodSumRow.holds Try.pinned (OpenSpec.ofChange fnExactGoodSumSpec)

/-- ITS FALSE NEIGHBOUR: 'it returns false'. Refute it at one input. -/
def fnExactGoodSumWrong : ChangeSpec := { name := "fnExactGoodSum", fn := fun _ => fun
  | [d] => { results := [.lit (.bool false)], args := [d] }
  | _ => none }
def FnExactGoodSumWrongFalsely : Prop := fnExactGoodSumRow.holds Try.pinned (OpenSpec.ofChange fnExactGoodSumWrong)

/-- 'laws.FnExactAllOf': WHATEVER THE INPUT: true; the input reads as it did. -/
def fnExactAllOfSpec : ChangeSpec := { name := "fnExactAllOf", fn := fun _ => fun
  | [d] => { results := [.lit (.bool true)], args := [d] }
  | _ => none }
def fnExactAllOfRow : OpenClaim := { program := "ytmjcaajlklidmaa", sum := "0f84df35cd038464f9a87868f2b253b2de677f8ec5f36d12685a0a63958d7cf7", func := "loop.example/g00641/laws.FnExactAllOf", spec := "fnExactAllOf", apart := false }
def FnExactAllOfSaid : Prop := fnExactAllOfRow.holds Try.pinned (OpenSpec.ofChange fnExactAllOfSpec)

/-- ITS FALSE NEIGHBOUR: 'it returns false'. Refute it at one input. -/
def fnExactAllOfWrong : ChangeSpec := { name := "fnExactAllOf", fn := fun _ => fun
  | [d] => { results := [.lit (.bool false)], args := [d] }
  | _ => none }
def FnExactAllOfWrongFalsely : Prop := fnExactAllOfRow.holds Try.pinned (OpenSpec.ofChange fnExactAllOfWrong)

/-- 'laws.FnExactCompare': WHATEVER THE INPUT: true; the input reads as it did. -/
def fnExactCompareSpec : ChangeSpec := { name := "fnExactCompare", fn := fun _ => fun
  | [d1, d2, d3] => { results := [.lit (.bool true)], args := [d1, d2, d3] }
  | _ => none }
def fnExactCompareRow : OpenClaim := { program := "ytmjcaajlklidmaa", sum := "0f84df35cd038464f9a87868f2b253b2de677f8ec5f36d12685a0a63958d7cf7", func := "loop.example/g00641/laws.FnExactCompare", spec := "fnExactCompare", apart := false }
def FnExactCompareSaid : Prop := fnExactCompareRow.holds Try.pinned (OpenSpec.ofChange fnExactCompareSpec)

/-- ITS FALSE NEIGHBOUR: 'it returns false'. Refute it at one input. -/
def fnExactCompareWrong : ChangeSpec := { name := "fnExactCompare", fn := fun _ => fun
  | [d1, d2, d3] => { results := [.lit (.bool false)], args := [d1, d2, d3] }
  | _ => none }
def FnExactCompareWrongFalsely : Prop := fnExactCompareRow.holds Try.pinned (OpenSpec.ofChange fnExactCompareWrong)

/-- 'laws.FnExactMeanOf': WHATEVER THE INPUT: true; the input reads as it did. -/
def fnExactMeanOfSpec : ChangeSpec := { name := "fnExactMeanOf", fn := fun _ => fun
  | [d] => { results := [.lit (.bool true)], args := [d] }
  | _ => none }
def fnExactMeanOfRow : OpenClaim := { program := "ytmjcaajlklidmaa", sum := "0f84df35cd038464f9a87868f2b253b2de677f8ec5f36d12685a0a63958d7cf7", func := "loop.example/g00641/laws.FnExactMeanOf", spec := "fnExactMeanOf", apart := false }
def FnExactMeanOfSaid : Prop := fnExactMeanOfRow.holds Try.pinned (OpenSpec.ofChange fnExactMeanOfSpec)

/-- ITS FALSE NEIGHBOUR: 'it returns false'. Refute it at one input. -/
def fnExactMeanOfWrong : ChangeSpec := { name := "fnExactMeanOf", fn := fun _ => fun
  | [d] => { results := [.lit (.bool false)], args := [d] }
  | _ => none }
def FnExactMeanOfWrongFalsely : Prop := fnExactMeanOfRow.holds Try.pinned (OpenSpec.ofChange fnExactMeanOfWrong)

/-- 'laws.FnExactFillsOf': WHATEVER THE INPUT: true; the input reads as it did. -/
def fnExactFillsOfSpec : ChangeSpec := { name := "fnExactFillsOf", fn := fun _ => fun
  | [d1, d2] => { results := [.lit (.bool true)], args := [d1, d2] }
  | _ => none }
def fnExactFillsOfRow : OpenClaim := { program := "ytmjcaajlklidmaa", sum := "0f84df35cd038464f9a87868f2b253b2de677f8ec5f36d12685a0a63958d7cf7", func := "loop.example/g00641/laws.FnExactFillsOf", spec := "fnExactFillsOf", apart := false }
def FnExactFillsOfSaid : Prop := fnExactFillsOfRow.holds Try.pinned (OpenSpec.ofChange fnExactFillsOfSpec)

/-- ITS FALSE NEIGHBOUR: 'it returns false'. Refute it at one input. -/
def fnExactFillsOfWrong : ChangeSpec := { name := "fnExactFillsOf", fn := fun _ => fun
  | [d1, d2] => { results := [.lit (.bool false)], args := [d1, d2] }
  | _ => none }
def FnExactFillsOfWrongFalsely : Prop := fnExactFillsOfRow.holds Try.pinned (OpenSpec.ofChange fnExactFillsOfWrong)

/-- 'laws.FnExactAddSums': WHATEVER THE INPUT: true; the input reads as it did. -/
def fnExactAddSumsSpec : ChangeSpec := { name := "fnExactAddSums", fn := fun _ => fun
  | [d1, d2] => { results := [.lit (.bool true)], args := [d1, d2] }
  | _ => none }
def fnExactAddSumsRow : OpenClaim := { program := "ytmjcaajlklidmaa", sum := "0f84df35cd038464f9a87868f2b253b2de677f8ec5f36d12685a0a63958d7cf7", func := "loop.example/g00641/laws.FnExactAddSums", spec := "fnExactAddSums", apart := false }
def FnExactAddSumsSaid : Prop := fnExactAddSumsRow.holds Try.pinned (OpenSpec.ofChange fnExactAddSumsSpec)

/-- ITS FALSE NEIGHBOUR: 'it returns false'. Refute it at one input. -/
def fnExactAddSumsWrong : ChangeSpec := { name := "fnExactAddSums", fn := fun _ => fun
  | [d1, d2] => { results := [.lit (.bool false)], args := [d1, d2] }
  | _ => none }
def FnExactAddSumsWrongFalsely : Prop := fnExactAddSumsRow.holds Try.pinned (OpenSpec.ofChange fnExactAddSumsWrong)

/- THE SECOND FORM. 'bulk': how many values and letters a reading holds, each counted each time it is reached (what is shared counts as often as it is met; a slice's spare places count too). A statement '..UptoSaid' is the law's where the arguments, and the package variables that the reading takes, are together of bulk at most 1048576: NARROWER than '..Said'. Prove '..Said' where nothing that the law and all that it calls make is longer than what came in: it says more and counts as full. Else prove '..UptoSaid'. A law counts once. -/
mutual
def uptoBulk {H : Type} : DataW H → Nat
  | .lit (.string bytes) => bytes.length + 1
  | .lit _ => 1
  | .nil => 1
  | .ptr d => uptoBulk d + 1
  | .slice elems spare => uptoBulkAll elems + uptoBulkAll spare + 1
  | .agg parts => uptoBulkAll parts + 1
  | .iface _ d => uptoBulk d + 1
  | .map entries => uptoBulkEntries entries + 1
  | .held _ => 1
def uptoBulkAll {H : Type} : List (DataW H) → Nat
  | [] => 0
  | d :: r => uptoBulk d + uptoBulkAll r
def uptoBulkEntries {H : Type} : List (Lit × DataW H) → Nat
  | [] => 0
  | x :: r => uptoBulkEntry x + uptoBulkEntries r
def uptoBulkEntry {H : Type} : Lit × DataW H → Nat
  | (.string bytes, d) => bytes.length + uptoBulk d + 1
  | (_, d) => uptoBulk d + 1
 end
def uptoSmall : (H : Type) → List (DataW H) → Bool := fun _ ds => decide (uptoBulkAll ds ≤ 1048576)
def OpenSpec.upto (s : _root_.Go.ChangeSpec) : _root_.Go.OpenSpec := { _root_.Go.OpenSpec.ofChange s with cond := some uptoSmall }

/-- 'laws.FnExactConstants', WHERE WHAT IT READS IS OF BULK AT MOST 1048576: true; the input reads as it did. -/
def fnExactConstantsUptoRow : OpenClaim := { program := "ytmjcaajlklidmaa", sum := "0f84df35cd038464f9a87868f2b253b2de677f8ec5f36d12685a0a63958d7cf7", func := "loop.example/g00641/laws.FnExactConstants", spec := "fnExactConstants", apart := false, narrowed := true }
def FnExactConstantsUptoSaid : Prop := fnExactConstantsUptoRow.holds Try.pinned (OpenSpec.upto fnExactConstantsSpec)

/-- 'laws.FnExactGoodValue', WHERE WHAT IT READS IS OF BULK AT MOST 1048576: true; the input reads as it did. -/
def fnExactGoodValueUptoRow : OpenClaim := { program := "ytmjcaajlklidmaa", sum := "0f84df35cd038464f9a87868f2b253b2de677f8ec5f36d12685a0a63958d7cf7", func := "loop.example/g00641/laws.FnExactGoodValue", spec := "fnExactGoodValue", apart := false, narrowed := true }
def FnExactGoodValueUptoSaid : Prop := fnExactGoodValueUptoRow.holds Try.pinned (OpenSpec.upto fnExactGoodValueSpec)

/-- 'laws.FnExactNotOf', WHERE WHAT IT READS IS OF BULK AT MOST 1048576: true; the input reads as it did. -/
def fnExactNotOfUptoRow : OpenClaim := { program := "ytmjcaajlklidmaa", sum := "0f84df35cd038464f9a87868f2b253b2de677f8ec5f36d12685a0a63958d7cf7", func := "loop.example/g00641/laws.FnExactNotOf", spec := "fnExactNotOf", apart := false, narrowed := true }
def FnExactNotOfUptoSaid : Prop := fnExactNotOfUptoRow.holds Try.pinned (OpenSpec.upto fnExactNotOfSpec)

/-- 'laws.FnExactAndOf', WHERE WHAT IT READS IS OF BULK AT MOST 1048576: true; the input reads as it did. -/
def fnExactAndOfUptoRow : OpenClaim := { program := "ytmjcaajlklidmaa", sum := "0f84df35cd038464f9a87868f2b253b2de677f8ec5f36d12685a0a63958d7cf7", func := "loop.example/g00641/laws.FnExactAndOf", spec := "fnExactAndOf", apart := false, narrowed := true }
def FnExactAndOfUptoSaid : Prop := fnExactAndOfUptoRow.holds Try.pinned (OpenSpec.upto fnExactAndOfSpec)

/-- 'laws.FnExactOrOf', WHERE WHAT IT READS IS OF BULK AT MOST 1048576: true; the input reads as it did. -/
def fnExactOrOfUptoRow : OpenClaim := { program := "ytmjcaajlklidmaa", sum := "0f84df35cd038464f9a87868f2b253b2de677f8ec5f36d12685a0a63958d7cf7", func := "loop.example/g00641/laws.FnExactOrOf", spec := "fnExactOrOf", apart := false, narrowed := true }
def FnExactOrOfUptoSaid : Prop := fnExactOrOfUptoRow.holds Try.pinned (OpenSpec.upto fnExactOrOfSpec)

/-- 'laws.FnExactSameValue', WHERE WHAT IT READS IS OF BULK AT MOST 1048576: true; the input reads as it did. -/
def fnExactSameValueUptoRow : OpenClaim := { program := "ytmjcaajlklidmaa", sum := "0f84df35cd038464f9a87868f2b253b2de677f8ec5f36d12685a0a63958d7cf7", func := "loop.example/g00641/laws.FnExactSameValue", spec := "fnExactSameValue", apart := false, narrowed := true }
def FnExactSameValueUptoSaid : Prop := fnExactSameValueUptoRow.holds Try.pinned (OpenSpec.upto fnExactSameValueSpec)

/-- 'laws.FnExactGoodSum', WHERE WHAT IT READS IS OF BULK AT MOST 1048576: true; the input reads as it did. -/
def fnExactGoodSumUptoRow : OpenClaim := { program := "ytmjcaajlklidmaa", sum := "0f84df35cd038464f9a87868f2b253b2de677f8ec5f36d12685a0a63958d7cf7", func := "loop.example/g00641/laws.FnExactGoodSum", spec := "fnExactGoodSum", apart := false, narrowed := true }
def FnExactGoodSumUptoSaid : Prop := fnExactGoodSumUptoRow.holds Try.pinned (OpenSpec.upto fnExactGoodSumSpec)

/-- 'laws.FnExactAllOf', WHERE WHAT IT READS IS OF BULK AT MOST 1048576: true; the input reads as it did. -/
def fnExactAllOfUptoRow : OpenClaim := { program := "ytmjcaajlklidmaa", sum := "0f84df35cd038464f9a87868f2b253b2de677f8ec5f36d12685a0a63958d7cf7", func := "loop.example/g00641/laws.FnExactAllOf", spec := "fnExactAllOf", apart := false, narrowed := true }
def FnExactAllOfUptoSaid : Prop := fnExactAllOfUptoRow.holds Try.pinned (OpenSpec.upto fnExactAllOfSpec)

/-- 'laws.FnExactCompare', WHERE WHAT IT READS IS OF BULK AT MOST 1048576: true; the input reads as it did. -/
def fnExactCompareUptoRow : OpenClaim := { program := "ytmjcaajlklidmaa", sum := "0f84df35cd038464f9a87868f2b253b2de677f8ec5f36d12685a0a63958d7cf7", func := "loop.example/g00641/laws.FnExactCompare", spec := "fnExactCompare", apart := false, narrowed := true }
def FnExactCompareUptoSaid : Prop := fnExactCompareUptoRow.holds Try.pinned (OpenSpec.upto fnExactCompareSpec)

/-- 'laws.FnExactMeanOf', WHERE WHAT IT READS IS OF BULK AT MOST 1048576: true; the input reads as it did. -/
def fnExactMeanOfUptoRow : OpenClaim := { program := "ytmjcaajlklidmaa", sum := "0f84df35cd038464f9a87868f2b253b2de677f8ec5f36d12685a0a63958d7cf7", func := "loop.example/g00641/laws.FnExactMeanOf", spec := "fnExactMeanOf", apart := false, narrowed := true }
def FnExactMeanOfUptoSaid : Prop := fnExactMeanOfUptoRow.holds Try.pinned (OpenSpec.upto fnExactMeanOfSpec)

/-- 'laws.FnExactFillsOf', WHERE WHAT IT READS IS OF BULK AT MOST 1048576: true; the input reads as it did. -/
def fnExactFillsOfUptoRow : OpenClaim := { program := "ytmjcaajlklidmaa", sum := "0f84df35cd038464f9a87868f2b253b2de677f8ec5f36d12685a0a63958d7cf7", func := "loop.example/g00641/laws.FnExactFillsOf", spec := "fnExactFillsOf", apart := false, narrowed := true }
def FnExactFillsOfUptoSaid : Prop := fnExactFillsOfUptoRow.holds Try.pinned (OpenSpec.upto fnExactFillsOfSpec)

/-- 'laws.FnExactAddSums', WHERE WHAT IT READS IS OF BULK AT MOST 1048576: true; the input reads as it did. -/
def fnExactAddSumsUptoRow : OpenClaim := { program := "ytmjcaajlklidmaa", sum := "0f84df35cd038464f9a87868f2b253b2de677f8ec5f36d12685a0a63958d7cf7", func := "loop.example/g00641/laws.FnExactAddSums", spec := "fnExactAddSums", apart := false, narrowed := true }
def FnExactAddSumsUptoSaid : Prop := fnExactAddSumsUptoRow.holds Try.pinned (OpenSpec.upto fnExactAddSumsSpec)

end Rows
end Go.Proofs.Ytmjcaajlklidmaa
