/-
  No cell of these rows narrows 'for every input' (looked for: loops, veiled, ifaces, maps, wideKeys, modest, calm, conditions, laid).
  DERIVED. THE GIVEN ROWS OF THIS SEAT. 10 by the template 'for every input the law returns true; each argument reads behind the call as it read before'; 0 by the template 'total and deterministic' (their statements: YtcjnheabkdalbaaTotals.lean).
  GIVEN WITH THE SEED: the statements are not yours to turn. If you find one false, say at which input.
  Laid BY PROGRAM, IN A SANDBOX (cutbox-rows.mjs): the forced cells as the released guide's own fill.sh prints them over the translation cbc33aa092902429… (all of the seat's roots in one cut). By AI agents, Wed Nov 11 2026. No macro, syntax, notation, axiom, sorry.
-/
import Derived.Test.YtcjnheabkdalbaaChecked
import GoSem.Claim
import GoSem.ClaimJoined
import GoSem.ClaimMapViews
import Derived.JoinedTies
import Derived.KernelRfl
namespace Go.Proofs.Ytcjnheabkdalbaa
/- THE CELL 'sum', in the pinned program and in every row, IS THE sha256 OF THE DUMP (.gsa) THAT YtcjnheabkdalbaaProg.lean LOADS. Nothing in Lean hashes anything: it is a label: what it is worth is what the hold of that sum in a sandbox is worth. -/
noncomputable def Try.pinned : Pinned := { name := "ytcjnheabkdalbaa", sum := "cbc33aa0929024295c4e9f880154d6b05e19c97ec211ba01fd0ee8b6af65c698", checked := Try.checked }
namespace Rows
def none {H : Type} : Left H := { results := [], args := [] }

/-- 'coppicelaw03.MacSame': WHATEVER THE INPUT: true; the input reads as it did. -/
def macSameSpec : ChangeSpec := { name := "macSame", fn := fun _ => fun
  | [d1, d2] => { results := [.lit (.bool true)], args := [d1, d2] }
  | _ => none }
def macSameRow : OpenClaim := { program := "ytcjnheabkdalbaa", sum := "cbc33aa0929024295c4e9f880154d6b05e19c97ec211ba01fd0ee8b6af65c698", func := "coppice/coppicelaw03.MacSame", spec := "macSame", apart := false }
def MacSameSaid : Prop := macSameRow.holds Try.pinned (OpenSpec.ofChange macSameSpec)

/-- ITS FALSE NEIGHBOUR: 'it returns false'. Refute it at one input. -/
def macSameWrong : ChangeSpec := { name := "macSame", fn := fun _ => fun
  | [d1, d2] => { results := [.lit (.bool false)], args := [d1, d2] }
  | _ => none }
def MacSameWrongFalsely : Prop := macSameRow.holds Try.pinned (OpenSpec.ofChange macSameWrong)

/-- 'coppicelaw06.NodeUps': WHATEVER THE INPUT: true; the input reads as it did. -/
def nodeUpsSpec : ChangeSpec := { name := "nodeUps", fn := fun _ => fun
  | [d1, d2, d3] => { results := [.lit (.bool true)], args := [d1, d2, d3] }
  | _ => none }
def nodeUpsRow : OpenClaim := { program := "ytcjnheabkdalbaa", sum := "cbc33aa0929024295c4e9f880154d6b05e19c97ec211ba01fd0ee8b6af65c698", func := "coppice/coppicelaw06.NodeUps", spec := "nodeUps", unfollowed := true, recurses := true, apart := false }
def NodeUpsSaid : Prop := nodeUpsRow.holds Try.pinned (OpenSpec.ofChange nodeUpsSpec)

/-- ITS FALSE NEIGHBOUR: 'it returns false'. Refute it at one input. -/
def nodeUpsWrong : ChangeSpec := { name := "nodeUps", fn := fun _ => fun
  | [d1, d2, d3] => { results := [.lit (.bool false)], args := [d1, d2, d3] }
  | _ => none }
def NodeUpsWrongFalsely : Prop := nodeUpsRow.holds Try.pinned (OpenSpec.ofChange nodeUpsWrong)

/-- 'coppicelaw02.HashPads': WHATEVER THE INPUT: true; the input reads as it did. -/
def hashPadsSpec : ChangeSpec := { name := "hashPads", fn := fun _ => fun
  | [d] => { results := [.lit (.bool true)], args := [d] }
  | _ => none }
def hashPadsRow : OpenClaim := { program := "ytcjnheabkdalbaa", sum := "cbc33aa0929024295c4e9f880154d6b05e19c97ec211ba01fd0ee8b6af65c698", func := "coppice/coppicelaw02.HashPads", spec := "hashPads", apart := false }
def HashPadsSaid : Prop := hashPadsRow.holds Try.pinned (OpenSpec.ofChange hashPadsSpec)

/-- ITS FALSE NEIGHBOUR: 'it returns false'. Refute it at one input. -/
def hashPadsWrong : ChangeSpec := { name := "hashPads", fn := fun _ => fun
  | [d] => { results := [.lit (.bool false)], args := [d] }
  | _ => none }
def HashPadsWrongFalsely : Prop := hashPadsRow.holds Try.pinned (OpenSpec.ofChange hashPadsWrong)

/-- 'coppicelaw09.ExtractForms': WHATEVER THE INPUT: true; the input reads as it did. -/
def extractFormsSpec : ChangeSpec := { name := "extractForms", fn := fun _ => fun
  | [d1, d2, d3] => { results := [.lit (.bool true)], args := [d1, d2, d3] }
  | _ => none }
def extractFormsRow : OpenClaim := { program := "ytcjnheabkdalbaa", sum := "cbc33aa0929024295c4e9f880154d6b05e19c97ec211ba01fd0ee8b6af65c698", func := "coppice/coppicelaw09.ExtractForms", spec := "extractForms", apart := false }
def ExtractFormsSaid : Prop := extractFormsRow.holds Try.pinned (OpenSpec.ofChange extractFormsSpec)

/-- ITS FALSE NEIGHBOUR: 'it returns false'. Refute it at one input. -/
def extractFormsWrong : ChangeSpec := { name := "extractForms", fn := fun _ => fun
  | [d1, d2, d3] => { results := [.lit (.bool false)], args := [d1, d2, d3] }
  | _ => none }
def ExtractFormsWrongFalsely : Prop := extractFormsRow.holds Try.pinned (OpenSpec.ofChange extractFormsWrong)

/-- 'coppicelaw06.NodeTells': WHATEVER THE INPUT: true; the input reads as it did. -/
def nodeTellsSpec : ChangeSpec := { name := "nodeTells", fn := fun _ => fun
  | [d1, d2] => { results := [.lit (.bool true)], args := [d1, d2] }
  | _ => none }
def nodeTellsRow : OpenClaim := { program := "ytcjnheabkdalbaa", sum := "cbc33aa0929024295c4e9f880154d6b05e19c97ec211ba01fd0ee8b6af65c698", func := "coppice/coppicelaw06.NodeTells", spec := "nodeTells", apart := false }
def NodeTellsSaid : Prop := nodeTellsRow.holds Try.pinned (OpenSpec.ofChange nodeTellsSpec)

/-- ITS FALSE NEIGHBOUR: 'it returns false'. Refute it at one input. -/
def nodeTellsWrong : ChangeSpec := { name := "nodeTells", fn := fun _ => fun
  | [d1, d2] => { results := [.lit (.bool false)], args := [d1, d2] }
  | _ => none }
def NodeTellsWrongFalsely : Prop := nodeTellsRow.holds Try.pinned (OpenSpec.ofChange nodeTellsWrong)

/-- 'coppicelaw04.TreeSplits': WHATEVER THE INPUT: true; the input reads as it did. -/
def treeSplitsSpec : ChangeSpec := { name := "treeSplits", fn := fun _ => fun
  | [d] => { results := [.lit (.bool true)], args := [d] }
  | _ => none }
def treeSplitsRow : OpenClaim := { program := "ytcjnheabkdalbaa", sum := "cbc33aa0929024295c4e9f880154d6b05e19c97ec211ba01fd0ee8b6af65c698", func := "coppice/coppicelaw04.TreeSplits", spec := "treeSplits", apart := false }
def TreeSplitsSaid : Prop := treeSplitsRow.holds Try.pinned (OpenSpec.ofChange treeSplitsSpec)

/-- ITS FALSE NEIGHBOUR: 'it returns false'. Refute it at one input. -/
def treeSplitsWrong : ChangeSpec := { name := "treeSplits", fn := fun _ => fun
  | [d] => { results := [.lit (.bool false)], args := [d] }
  | _ => none }
def TreeSplitsWrongFalsely : Prop := treeSplitsRow.holds Try.pinned (OpenSpec.ofChange treeSplitsWrong)

/-- 'coppicelaw06.NodeJoins': WHATEVER THE INPUT: true; the input reads as it did. -/
def nodeJoinsSpec : ChangeSpec := { name := "nodeJoins", fn := fun _ => fun
  | [d1, d2] => { results := [.lit (.bool true)], args := [d1, d2] }
  | _ => none }
def nodeJoinsRow : OpenClaim := { program := "ytcjnheabkdalbaa", sum := "cbc33aa0929024295c4e9f880154d6b05e19c97ec211ba01fd0ee8b6af65c698", func := "coppice/coppicelaw06.NodeJoins", spec := "nodeJoins", apart := false }
def NodeJoinsSaid : Prop := nodeJoinsRow.holds Try.pinned (OpenSpec.ofChange nodeJoinsSpec)

/-- ITS FALSE NEIGHBOUR: 'it returns false'. Refute it at one input. -/
def nodeJoinsWrong : ChangeSpec := { name := "nodeJoins", fn := fun _ => fun
  | [d1, d2] => { results := [.lit (.bool false)], args := [d1, d2] }
  | _ => none }
def NodeJoinsWrongFalsely : Prop := nodeJoinsRow.holds Try.pinned (OpenSpec.ofChange nodeJoinsWrong)

/-- 'coppicelaw06.NodeCovers': WHATEVER THE INPUT: true; the input reads as it did. -/
def nodeCoversSpec : ChangeSpec := { name := "nodeCovers", fn := fun _ => fun
  | [d1, d2] => { results := [.lit (.bool true)], args := [d1, d2] }
  | _ => none }
def nodeCoversRow : OpenClaim := { program := "ytcjnheabkdalbaa", sum := "cbc33aa0929024295c4e9f880154d6b05e19c97ec211ba01fd0ee8b6af65c698", func := "coppice/coppicelaw06.NodeCovers", spec := "nodeCovers", apart := false }
def NodeCoversSaid : Prop := nodeCoversRow.holds Try.pinned (OpenSpec.ofChange nodeCoversSpec)

/-- ITS FALSE NEIGHBOUR: 'it returns false'. Refute it at one input. -/
def nodeCoversWrong : ChangeSpec := { name := "nodeCovers", fn := fun _ => fun
  | [d1, d2] => { results := [.lit (.bool false)], args := [d1, d2] }
  | _ => none }
def NodeCoversWrongFalsely : Prop := nodeCoversRow.holds Try.pinned (OpenSpec.ofChange nodeCoversWrong)

/-- 'coppicelaw06.NodeSpans': WHATEVER THE INPUT: true; the input reads as it did. -/
def nodeSpansSpec : ChangeSpec := { name := "nodeSpans", fn := fun _ => fun
  | [d1, d2] => { results := [.lit (.bool true)], args := [d1, d2] }
  | _ => none }
def nodeSpansRow : OpenClaim := { program := "ytcjnheabkdalbaa", sum := "cbc33aa0929024295c4e9f880154d6b05e19c97ec211ba01fd0ee8b6af65c698", func := "coppice/coppicelaw06.NodeSpans", spec := "nodeSpans", recurses := true, apart := false }
def NodeSpansSaid : Prop := nodeSpansRow.holds Try.pinned (OpenSpec.ofChange nodeSpansSpec)

/-- ITS FALSE NEIGHBOUR: 'it returns false'. Refute it at one input. -/
def nodeSpansWrong : ChangeSpec := { name := "nodeSpans", fn := fun _ => fun
  | [d1, d2] => { results := [.lit (.bool false)], args := [d1, d2] }
  | _ => none }
def NodeSpansWrongFalsely : Prop := nodeSpansRow.holds Try.pinned (OpenSpec.ofChange nodeSpansWrong)

/-- 'coppicelaw07.VerifyLengths': WHATEVER THE INPUT: true; the input reads as it did. -/
def verifyLengthsSpec : ChangeSpec := { name := "verifyLengths", fn := fun _ => fun
  | [d1, d2] => { results := [.lit (.bool true)], args := [d1, d2] }
  | _ => none }
def verifyLengthsRow : OpenClaim := { program := "ytcjnheabkdalbaa", sum := "cbc33aa0929024295c4e9f880154d6b05e19c97ec211ba01fd0ee8b6af65c698", func := "coppice/coppicelaw07.VerifyLengths", spec := "verifyLengths", recurses := true, apart := false }
def VerifyLengthsSaid : Prop := verifyLengthsRow.holds Try.pinned (OpenSpec.ofChange verifyLengthsSpec)

/-- ITS FALSE NEIGHBOUR: 'it returns false'. Refute it at one input. -/
def verifyLengthsWrong : ChangeSpec := { name := "verifyLengths", fn := fun _ => fun
  | [d1, d2] => { results := [.lit (.bool false)], args := [d1, d2] }
  | _ => none }
def VerifyLengthsWrongFalsely : Prop := verifyLengthsRow.holds Try.pinned (OpenSpec.ofChange verifyLengthsWrong)

/- THE SECOND FORM. 'bulk': how many values and letters a reading holds, each counted each time it is reached (what is shared counts as often as it is met; a slice's spare places count too). A statement '..UptoSaid' is the law's where the arguments, and the package variables that the reading takes, are together of bulk at most 1048576: NARROWER than '..Said'. Prove '..Said' where nothing that the law and all that it calls make is longer than what came in: it says more and counts as full. Else prove '..UptoSaid'. A law counts once. -/
mutual
def uptoBulk {H : Type} : DataW H → Nat
  | .lit (.string bytes) => bytes.length + 1
  | .lit _ => 1
  | .nil => 1
  | .ptr d => uptoBulk d + 1
  | .slice elems spare => uptoBulkAll elems + uptoBulkAll spare + 1
  | .agg parts => uptoBulkAll parts + 1
  | .iface _ d => uptoBulk d + 1
  | .map entries => uptoBulkEntries entries + 1
  | .held _ => 1
def uptoBulkAll {H : Type} : List (DataW H) → Nat
  | [] => 0
  | d :: r => uptoBulk d + uptoBulkAll r
def uptoBulkEntries {H : Type} : List (Lit × DataW H) → Nat
  | [] => 0
  | x :: r => uptoBulkEntry x + uptoBulkEntries r
def uptoBulkEntry {H : Type} : Lit × DataW H → Nat
  | (.string bytes, d) => bytes.length + uptoBulk d + 1
  | (_, d) => uptoBulk d + 1
 end
def uptoSmall : (H : Type) → List (DataW H) → Bool := fun _ ds => decide (uptoBulkAll ds ≤ 1048576)
def OpenSpec.upto (s : _root_.Go.ChangeSpec) : _root_.Go.OpenSpec := { _root_.Go.OpenSpec.ofChange s with cond := some uptoSmall }

/-- 'coppicelaw03.MacSame', WHERE WHAT IT READS IS OF BULK AT MOST 1048576: true; the input reads as it did. -/
def macSameUptoRow : OpenClaim := { program := "ytcjnheabkdalbaa", sum := "cbc33aa0929024295c4e9f880154d6b05e19c97ec211ba01fd0ee8b6af65c698", func := "coppice/coppicelaw03.MacSame", spec := "macSame", apart := false, narrowed := true }
def MacSameUptoSaid : Prop := macSameUptoRow.holds Try.pinned (OpenSpec.upto macSameSpec)

/-- 'coppicelaw06.NodeUps', WHERE WHAT IT READS IS OF BULK AT MOST 1048576: true; the input reads as it did. -/
def nodeUpsUptoRow : OpenClaim := { program := "ytcjnheabkdalbaa", sum := "cbc33aa0929024295c4e9f880154d6b05e19c97ec211ba01fd0ee8b6af65c698", func := "coppice/coppicelaw06.NodeUps", spec := "nodeUps", unfollowed := true, recurses := true, apart := false, narrowed := true }
def NodeUpsUptoSaid : Prop := nodeUpsUptoRow.holds Try.pinned (OpenSpec.upto nodeUpsSpec)

/-- 'coppicelaw02.HashPads', WHERE WHAT IT READS IS OF BULK AT MOST 1048576: true; the input reads as it did. -/
def hashPadsUptoRow : OpenClaim := { program := "ytcjnheabkdalbaa", sum := "cbc33aa0929024295c4e9f880154d6b05e19c97ec211ba01fd0ee8b6af65c698", func := "coppice/coppicelaw02.HashPads", spec := "hashPads", apart := false, narrowed := true }
def HashPadsUptoSaid : Prop := hashPadsUptoRow.holds Try.pinned (OpenSpec.upto hashPadsSpec)

/-- 'coppicelaw09.ExtractForms', WHERE WHAT IT READS IS OF BULK AT MOST 1048576: true; the input reads as it did. -/
def extractFormsUptoRow : OpenClaim := { program := "ytcjnheabkdalbaa", sum := "cbc33aa0929024295c4e9f880154d6b05e19c97ec211ba01fd0ee8b6af65c698", func := "coppice/coppicelaw09.ExtractForms", spec := "extractForms", apart := false, narrowed := true }
def ExtractFormsUptoSaid : Prop := extractFormsUptoRow.holds Try.pinned (OpenSpec.upto extractFormsSpec)

/-- 'coppicelaw06.NodeTells', WHERE WHAT IT READS IS OF BULK AT MOST 1048576: true; the input reads as it did. -/
def nodeTellsUptoRow : OpenClaim := { program := "ytcjnheabkdalbaa", sum := "cbc33aa0929024295c4e9f880154d6b05e19c97ec211ba01fd0ee8b6af65c698", func := "coppice/coppicelaw06.NodeTells", spec := "nodeTells", apart := false, narrowed := true }
def NodeTellsUptoSaid : Prop := nodeTellsUptoRow.holds Try.pinned (OpenSpec.upto nodeTellsSpec)

/-- 'coppicelaw04.TreeSplits', WHERE WHAT IT READS IS OF BULK AT MOST 1048576: true; the input reads as it did. -/
def treeSplitsUptoRow : OpenClaim := { program := "ytcjnheabkdalbaa", sum := "cbc33aa0929024295c4e9f880154d6b05e19c97ec211ba01fd0ee8b6af65c698", func := "coppice/coppicelaw04.TreeSplits", spec := "treeSplits", apart := false, narrowed := true }
def TreeSplitsUptoSaid : Prop := treeSplitsUptoRow.holds Try.pinned (OpenSpec.upto treeSplitsSpec)

/-- 'coppicelaw06.NodeJoins', WHERE WHAT IT READS IS OF BULK AT MOST 1048576: true; the input reads as it did. -/
def nodeJoinsUptoRow : OpenClaim := { program := "ytcjnheabkdalbaa", sum := "cbc33aa0929024295c4e9f880154d6b05e19c97ec211ba01fd0ee8b6af65c698", func := "coppice/coppicelaw06.NodeJoins", spec := "nodeJoins", apart := false, narrowed := true }
def NodeJoinsUptoSaid : Prop := nodeJoinsUptoRow.holds Try.pinned (OpenSpec.upto nodeJoinsSpec)

/-- 'coppicelaw06.NodeCovers', WHERE WHAT IT READS IS OF BULK AT MOST 1048576: true; the input reads as it did. -/
def nodeCoversUptoRow : OpenClaim := { program := "ytcjnheabkdalbaa", sum := "cbc33aa0929024295c4e9f880154d6b05e19c97ec211ba01fd0ee8b6af65c698", func := "coppice/coppicelaw06.NodeCovers", spec := "nodeCovers", apart := false, narrowed := true }
def NodeCoversUptoSaid : Prop := nodeCoversUptoRow.holds Try.pinned (OpenSpec.upto nodeCoversSpec)

/-- 'coppicelaw06.NodeSpans', WHERE WHAT IT READS IS OF BULK AT MOST 1048576: true; the input reads as it did. -/
def nodeSpansUptoRow : OpenClaim := { program := "ytcjnheabkdalbaa", sum := "cbc33aa0929024295c4e9f880154d6b05e19c97ec211ba01fd0ee8b6af65c698", func := "coppice/coppicelaw06.NodeSpans", spec := "nodeSpans", recurses := true, apart := false, narrowed := true }
def NodeSpansUptoSaid : Prop := nodeSpansUptoRow.holds Try.pinned (OpenSpec.upto nodeSpansSpec)

/-- 'coppicelaw07.VerifyLengths', WHERE WHAT IT READS IS OF BULK AT MOST 1048576: true; the input reads as it did. -/
def verifyLengthsUptoRow : OpenClaim := { program := "ytcjnheabkdalbaa", sum := "cbc33aa0929024295c4e9f880154d6b05e19c97ec211ba01fd0ee8b6af65c698", func := "coppice/coppicelaw07.VerifyLengths", spec := "verifyLengths", recurses := true, apart := false, narrowed := true }
def VerifyLengthsUptoSaid : Prop := verifyLengthsUptoRow.holds Try.pinned (OpenSpec.upto verifyLengthsSpec)

end Rows
end Go.Proofs.Ytcjnheabkdalbaa
