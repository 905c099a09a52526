/-
  NARROWER THAN 'FOR EVERY INPUT', by the rows' own cells (each row's printed sentence says how): TreeRoots: laid · TreeDigests: laid · TreeHalves: laid · VerifyPaths: laid · TreePaths: laid · TreeSteps: laid · VerifySteps: laid · TreeFolds: laid · VerifyTurned: laid · VerifyBack: laid.
  DERIVED. THE GIVEN ROWS OF THIS SEAT. 10 by the template 'for every input the law returns true; each argument reads behind the call as it read before'; 0 by the template 'total and deterministic' (their statements: YtbdmehgbdnninaaDoorTotals.lean).
  GIVEN WITH THE SEED: the statements are not yours to turn. If you find one false, say at which input.
  Laid BY PROGRAM, IN A SANDBOX (cutbox-rows.mjs): the forced cells as the released guide's own fill.sh prints them over the translation d2a0f3f7ed5af929… (all of the seat's roots in one cut). By AI agents, Wed Nov 11 2026. No macro, syntax, notation, axiom, sorry.
-/
import Derived.Test.YtbdmehgbdnninaaDoorChecked
import GoSem.Claim
import GoSem.ClaimJoined
import GoSem.ClaimMapViews
import Derived.JoinedTies
import Derived.KernelRfl
namespace Go.Proofs.YtbdmehgbdnninaaDoor
/- THE CELL 'sum', in the pinned program and in every row, IS THE sha256 OF THE DUMP (.gsa) THAT YtbdmehgbdnninaaDoorProg.lean LOADS. Nothing in Lean hashes anything: it is a label: what it is worth is what the hold of that sum in a sandbox is worth. -/
noncomputable def Tryd.pinned : Pinned := { name := "ytbdmehgbdnninaadoor", sum := "d2a0f3f7ed5af929443e4ee989c489ab0e4527d6bb09c2d120f20b06c28cb298", checked := Tryd.checked }
namespace Rows
def none {H : Type} : Left H := { results := [], args := [] }

/- WHAT THE LISTED PACKAGE-LEVEL VARIABLES READ AS WHEN THE CALL BEGINS. Each datum BY PROGRAM (the guide's laid-datum.mjs) off the statement by which the dump's own 'gosem.cut.vars' lays the variable. In a bare row this is a premise. The card (YtbdmehgbdnninaaDoorCards.lean) ties it to the program's text. -/
def laid_coppice_hash_constants {H : Type} : DataW H := .agg [.lit (.int .u32 1116352408), .lit (.int .u32 1899447441), .lit (.int .u32 3049323471), .lit (.int .u32 3921009573), .lit (.int .u32 961987163), .lit (.int .u32 1508970993), .lit (.int .u32 2453635748), .lit (.int .u32 2870763221), .lit (.int .u32 3624381080), .lit (.int .u32 310598401), .lit (.int .u32 607225278), .lit (.int .u32 1426881987), .lit (.int .u32 1925078388), .lit (.int .u32 2162078206), .lit (.int .u32 2614888103), .lit (.int .u32 3248222580), .lit (.int .u32 3835390401), .lit (.int .u32 4022224774), .lit (.int .u32 264347078), .lit (.int .u32 604807628), .lit (.int .u32 770255983), .lit (.int .u32 1249150122), .lit (.int .u32 1555081692), .lit (.int .u32 1996064986), .lit (.int .u32 2554220882), .lit (.int .u32 2821834349), .lit (.int .u32 2952996808), .lit (.int .u32 3210313671), .lit (.int .u32 3336571891), .lit (.int .u32 3584528711), .lit (.int .u32 113926993), .lit (.int .u32 338241895), .lit (.int .u32 666307205), .lit (.int .u32 773529912), .lit (.int .u32 1294757372), .lit (.int .u32 1396182291), .lit (.int .u32 1695183700), .lit (.int .u32 1986661051), .lit (.int .u32 2177026350), .lit (.int .u32 2456956037), .lit (.int .u32 2730485921), .lit (.int .u32 2820302411), .lit (.int .u32 3259730800), .lit (.int .u32 3345764771), .lit (.int .u32 3516065817), .lit (.int .u32 3600352804), .lit (.int .u32 4094571909), .lit (.int .u32 275423344), .lit (.int .u32 430227734), .lit (.int .u32 506948616), .lit (.int .u32 659060556), .lit (.int .u32 883997877), .lit (.int .u32 958139571), .lit (.int .u32 1322822218), .lit (.int .u32 1537002063), .lit (.int .u32 1747873779), .lit (.int .u32 1955562222), .lit (.int .u32 2024104815), .lit (.int .u32 2227730452), .lit (.int .u32 2361852424), .lit (.int .u32 2428436474), .lit (.int .u32 2756734187), .lit (.int .u32 3204031479), .lit (.int .u32 3329325298)]

/-- 'coppicelaw04.TreeRoots': WHATEVER THE INPUT: true; the input reads as it did. -/
def treeRootsSpec : ChangeSpec := { name := "treeRoots", fn := fun _ => fun
  | [d1, d2] => { results := [.lit (.bool true)], args := [d1, d2] }
  | _ => none }
def treeRootsRow : OpenClaim := { program := "ytbdmehgbdnninaadoor", sum := "d2a0f3f7ed5af929443e4ee989c489ab0e4527d6bb09c2d120f20b06c28cb298", func := "coppice/coppicelaw04.TreeRoots", spec := "treeRoots", unfollowed := true, recurses := true, named := ["coppice/hash.constants"], apart := false, laid := [("coppice/hash.constants", laid_coppice_hash_constants)] }
def TreeRootsSaid : Prop := treeRootsRow.holds Tryd.pinned (OpenSpec.ofChange treeRootsSpec)

/-- ITS FALSE NEIGHBOUR: 'it returns false'. Refute it at one input. -/
def treeRootsWrong : ChangeSpec := { name := "treeRoots", fn := fun _ => fun
  | [d1, d2] => { results := [.lit (.bool false)], args := [d1, d2] }
  | _ => none }
def TreeRootsWrongFalsely : Prop := treeRootsRow.holds Tryd.pinned (OpenSpec.ofChange treeRootsWrong)

/-- 'coppicelaw04.TreeDigests': WHATEVER THE INPUT: true; the input reads as it did. -/
def treeDigestsSpec : ChangeSpec := { name := "treeDigests", fn := fun _ => fun
  | [d1, d2, d3] => { results := [.lit (.bool true)], args := [d1, d2, d3] }
  | _ => none }
def treeDigestsRow : OpenClaim := { program := "ytbdmehgbdnninaadoor", sum := "d2a0f3f7ed5af929443e4ee989c489ab0e4527d6bb09c2d120f20b06c28cb298", func := "coppice/coppicelaw04.TreeDigests", spec := "treeDigests", named := ["coppice/hash.constants"], apart := false, laid := [("coppice/hash.constants", laid_coppice_hash_constants)] }
def TreeDigestsSaid : Prop := treeDigestsRow.holds Tryd.pinned (OpenSpec.ofChange treeDigestsSpec)

/-- ITS FALSE NEIGHBOUR: 'it returns false'. Refute it at one input. -/
def treeDigestsWrong : ChangeSpec := { name := "treeDigests", fn := fun _ => fun
  | [d1, d2, d3] => { results := [.lit (.bool false)], args := [d1, d2, d3] }
  | _ => none }
def TreeDigestsWrongFalsely : Prop := treeDigestsRow.holds Tryd.pinned (OpenSpec.ofChange treeDigestsWrong)

/-- 'coppicelaw04.TreeHalves': WHATEVER THE INPUT: true; the input reads as it did. -/
def treeHalvesSpec : ChangeSpec := { name := "treeHalves", fn := fun _ => fun
  | [d] => { results := [.lit (.bool true)], args := [d] }
  | _ => none }
def treeHalvesRow : OpenClaim := { program := "ytbdmehgbdnninaadoor", sum := "d2a0f3f7ed5af929443e4ee989c489ab0e4527d6bb09c2d120f20b06c28cb298", func := "coppice/coppicelaw04.TreeHalves", spec := "treeHalves", unfollowed := true, recurses := true, named := ["coppice/hash.constants"], apart := false, laid := [("coppice/hash.constants", laid_coppice_hash_constants)] }
def TreeHalvesSaid : Prop := treeHalvesRow.holds Tryd.pinned (OpenSpec.ofChange treeHalvesSpec)

/-- ITS FALSE NEIGHBOUR: 'it returns false'. Refute it at one input. -/
def treeHalvesWrong : ChangeSpec := { name := "treeHalves", fn := fun _ => fun
  | [d] => { results := [.lit (.bool false)], args := [d] }
  | _ => none }
def TreeHalvesWrongFalsely : Prop := treeHalvesRow.holds Tryd.pinned (OpenSpec.ofChange treeHalvesWrong)

/-- 'coppicelaw07.VerifyPaths': WHATEVER THE INPUT: true; the input reads as it did. -/
def verifyPathsSpec : ChangeSpec := { name := "verifyPaths", fn := fun _ => fun
  | [d1, d2, d3] => { results := [.lit (.bool true)], args := [d1, d2, d3] }
  | _ => none }
def verifyPathsRow : OpenClaim := { program := "ytbdmehgbdnninaadoor", sum := "d2a0f3f7ed5af929443e4ee989c489ab0e4527d6bb09c2d120f20b06c28cb298", func := "coppice/coppicelaw07.VerifyPaths", spec := "verifyPaths", recurses := true, named := ["coppice/hash.constants"], apart := false, laid := [("coppice/hash.constants", laid_coppice_hash_constants)] }
def VerifyPathsSaid : Prop := verifyPathsRow.holds Tryd.pinned (OpenSpec.ofChange verifyPathsSpec)

/-- ITS FALSE NEIGHBOUR: 'it returns false'. Refute it at one input. -/
def verifyPathsWrong : ChangeSpec := { name := "verifyPaths", fn := fun _ => fun
  | [d1, d2, d3] => { results := [.lit (.bool false)], args := [d1, d2, d3] }
  | _ => none }
def VerifyPathsWrongFalsely : Prop := verifyPathsRow.holds Tryd.pinned (OpenSpec.ofChange verifyPathsWrong)

/-- 'coppicelaw04.TreePaths': WHATEVER THE INPUT: true; the input reads as it did. -/
def treePathsSpec : ChangeSpec := { name := "treePaths", fn := fun _ => fun
  | [d1, d2, d3] => { results := [.lit (.bool true)], args := [d1, d2, d3] }
  | _ => none }
def treePathsRow : OpenClaim := { program := "ytbdmehgbdnninaadoor", sum := "d2a0f3f7ed5af929443e4ee989c489ab0e4527d6bb09c2d120f20b06c28cb298", func := "coppice/coppicelaw04.TreePaths", spec := "treePaths", unfollowed := true, recurses := true, named := ["coppice/hash.constants"], apart := false, laid := [("coppice/hash.constants", laid_coppice_hash_constants)] }
def TreePathsSaid : Prop := treePathsRow.holds Tryd.pinned (OpenSpec.ofChange treePathsSpec)

/-- ITS FALSE NEIGHBOUR: 'it returns false'. Refute it at one input. -/
def treePathsWrong : ChangeSpec := { name := "treePaths", fn := fun _ => fun
  | [d1, d2, d3] => { results := [.lit (.bool false)], args := [d1, d2, d3] }
  | _ => none }
def TreePathsWrongFalsely : Prop := treePathsRow.holds Tryd.pinned (OpenSpec.ofChange treePathsWrong)

/-- 'coppicelaw04.TreeSteps': WHATEVER THE INPUT: true; the input reads as it did. -/
def treeStepsSpec : ChangeSpec := { name := "treeSteps", fn := fun _ => fun
  | [d1, d2, d3] => { results := [.lit (.bool true)], args := [d1, d2, d3] }
  | _ => none }
def treeStepsRow : OpenClaim := { program := "ytbdmehgbdnninaadoor", sum := "d2a0f3f7ed5af929443e4ee989c489ab0e4527d6bb09c2d120f20b06c28cb298", func := "coppice/coppicelaw04.TreeSteps", spec := "treeSteps", unfollowed := true, recurses := true, named := ["coppice/hash.constants"], apart := false, laid := [("coppice/hash.constants", laid_coppice_hash_constants)] }
def TreeStepsSaid : Prop := treeStepsRow.holds Tryd.pinned (OpenSpec.ofChange treeStepsSpec)

/-- ITS FALSE NEIGHBOUR: 'it returns false'. Refute it at one input. -/
def treeStepsWrong : ChangeSpec := { name := "treeSteps", fn := fun _ => fun
  | [d1, d2, d3] => { results := [.lit (.bool false)], args := [d1, d2, d3] }
  | _ => none }
def TreeStepsWrongFalsely : Prop := treeStepsRow.holds Tryd.pinned (OpenSpec.ofChange treeStepsWrong)

/-- 'coppicelaw07.VerifySteps': WHATEVER THE INPUT: true; the input reads as it did. -/
def verifyStepsSpec : ChangeSpec := { name := "verifySteps", fn := fun _ => fun
  | [d1, d2, d3] => { results := [.lit (.bool true)], args := [d1, d2, d3] }
  | _ => none }
def verifyStepsRow : OpenClaim := { program := "ytbdmehgbdnninaadoor", sum := "d2a0f3f7ed5af929443e4ee989c489ab0e4527d6bb09c2d120f20b06c28cb298", func := "coppice/coppicelaw07.VerifySteps", spec := "verifySteps", recurses := true, named := ["coppice/hash.constants"], apart := false, laid := [("coppice/hash.constants", laid_coppice_hash_constants)] }
def VerifyStepsSaid : Prop := verifyStepsRow.holds Tryd.pinned (OpenSpec.ofChange verifyStepsSpec)

/-- ITS FALSE NEIGHBOUR: 'it returns false'. Refute it at one input. -/
def verifyStepsWrong : ChangeSpec := { name := "verifySteps", fn := fun _ => fun
  | [d1, d2, d3] => { results := [.lit (.bool false)], args := [d1, d2, d3] }
  | _ => none }
def VerifyStepsWrongFalsely : Prop := verifyStepsRow.holds Tryd.pinned (OpenSpec.ofChange verifyStepsWrong)

/-- 'coppicelaw04.TreeFolds': WHATEVER THE INPUT: true; the input reads as it did. -/
def treeFoldsSpec : ChangeSpec := { name := "treeFolds", fn := fun _ => fun
  | [d1, d2] => { results := [.lit (.bool true)], args := [d1, d2] }
  | _ => none }
def treeFoldsRow : OpenClaim := { program := "ytbdmehgbdnninaadoor", sum := "d2a0f3f7ed5af929443e4ee989c489ab0e4527d6bb09c2d120f20b06c28cb298", func := "coppice/coppicelaw04.TreeFolds", spec := "treeFolds", unfollowed := true, recurses := true, named := ["coppice/hash.constants"], apart := false, laid := [("coppice/hash.constants", laid_coppice_hash_constants)] }
def TreeFoldsSaid : Prop := treeFoldsRow.holds Tryd.pinned (OpenSpec.ofChange treeFoldsSpec)

/-- ITS FALSE NEIGHBOUR: 'it returns false'. Refute it at one input. -/
def treeFoldsWrong : ChangeSpec := { name := "treeFolds", fn := fun _ => fun
  | [d1, d2] => { results := [.lit (.bool false)], args := [d1, d2] }
  | _ => none }
def TreeFoldsWrongFalsely : Prop := treeFoldsRow.holds Tryd.pinned (OpenSpec.ofChange treeFoldsWrong)

/-- 'coppicelaw07.VerifyTurned': WHATEVER THE INPUT: true; the input reads as it did. -/
def verifyTurnedSpec : ChangeSpec := { name := "verifyTurned", fn := fun _ => fun
  | [d1, d2, d3] => { results := [.lit (.bool true)], args := [d1, d2, d3] }
  | _ => none }
def verifyTurnedRow : OpenClaim := { program := "ytbdmehgbdnninaadoor", sum := "d2a0f3f7ed5af929443e4ee989c489ab0e4527d6bb09c2d120f20b06c28cb298", func := "coppice/coppicelaw07.VerifyTurned", spec := "verifyTurned", unfollowed := true, recurses := true, named := ["coppice/hash.constants"], apart := false, laid := [("coppice/hash.constants", laid_coppice_hash_constants)] }
def VerifyTurnedSaid : Prop := verifyTurnedRow.holds Tryd.pinned (OpenSpec.ofChange verifyTurnedSpec)

/-- ITS FALSE NEIGHBOUR: 'it returns false'. Refute it at one input. -/
def verifyTurnedWrong : ChangeSpec := { name := "verifyTurned", fn := fun _ => fun
  | [d1, d2, d3] => { results := [.lit (.bool false)], args := [d1, d2, d3] }
  | _ => none }
def VerifyTurnedWrongFalsely : Prop := verifyTurnedRow.holds Tryd.pinned (OpenSpec.ofChange verifyTurnedWrong)

/-- 'coppicelaw07.VerifyBack': WHATEVER THE INPUT: true; the input reads as it did. -/
def verifyBackSpec : ChangeSpec := { name := "verifyBack", fn := fun _ => fun
  | [d1, d2, d3] => { results := [.lit (.bool true)], args := [d1, d2, d3] }
  | _ => none }
def verifyBackRow : OpenClaim := { program := "ytbdmehgbdnninaadoor", sum := "d2a0f3f7ed5af929443e4ee989c489ab0e4527d6bb09c2d120f20b06c28cb298", func := "coppice/coppicelaw07.VerifyBack", spec := "verifyBack", unfollowed := true, recurses := true, named := ["coppice/hash.constants"], apart := false, laid := [("coppice/hash.constants", laid_coppice_hash_constants)] }
def VerifyBackSaid : Prop := verifyBackRow.holds Tryd.pinned (OpenSpec.ofChange verifyBackSpec)

/-- ITS FALSE NEIGHBOUR: 'it returns false'. Refute it at one input. -/
def verifyBackWrong : ChangeSpec := { name := "verifyBack", fn := fun _ => fun
  | [d1, d2, d3] => { results := [.lit (.bool false)], args := [d1, d2, d3] }
  | _ => none }
def VerifyBackWrongFalsely : Prop := verifyBackRow.holds Tryd.pinned (OpenSpec.ofChange verifyBackWrong)

/- THE SECOND FORM. 'bulk': how many values and letters a reading holds, each counted each time it is reached (what is shared counts as often as it is met; a slice's spare places count too). A statement '..UptoSaid' is the law's where the arguments, and the package variables that the reading takes, are together of bulk at most 1048576: NARROWER than '..Said'. Prove '..Said' where nothing that the law and all that it calls make is longer than what came in: it says more and counts as full. Else prove '..UptoSaid'. A law counts once. -/
mutual
def uptoBulk {H : Type} : DataW H → Nat
  | .lit (.string bytes) => bytes.length + 1
  | .lit _ => 1
  | .nil => 1
  | .ptr d => uptoBulk d + 1
  | .slice elems spare => uptoBulkAll elems + uptoBulkAll spare + 1
  | .agg parts => uptoBulkAll parts + 1
  | .iface _ d => uptoBulk d + 1
  | .map entries => uptoBulkEntries entries + 1
  | .held _ => 1
def uptoBulkAll {H : Type} : List (DataW H) → Nat
  | [] => 0
  | d :: r => uptoBulk d + uptoBulkAll r
def uptoBulkEntries {H : Type} : List (Lit × DataW H) → Nat
  | [] => 0
  | x :: r => uptoBulkEntry x + uptoBulkEntries r
def uptoBulkEntry {H : Type} : Lit × DataW H → Nat
  | (.string bytes, d) => bytes.length + uptoBulk d + 1
  | (_, d) => uptoBulk d + 1
 end
def uptoSmall : (H : Type) → List (DataW H) → Bool := fun _ ds => decide (uptoBulkAll ds ≤ 1048576)
def OpenSpec.upto (s : _root_.Go.ChangeSpec) : _root_.Go.OpenSpec := { _root_.Go.OpenSpec.ofChange s with cond := some uptoSmall }

/-- 'coppicelaw04.TreeRoots', WHERE WHAT IT READS IS OF BULK AT MOST 1048576: true; the input reads as it did. -/
def treeRootsUptoRow : OpenClaim := { program := "ytbdmehgbdnninaadoor", sum := "d2a0f3f7ed5af929443e4ee989c489ab0e4527d6bb09c2d120f20b06c28cb298", func := "coppice/coppicelaw04.TreeRoots", spec := "treeRoots", unfollowed := true, recurses := true, named := ["coppice/hash.constants"], apart := false, laid := [("coppice/hash.constants", laid_coppice_hash_constants)], narrowed := true }
def TreeRootsUptoSaid : Prop := treeRootsUptoRow.holds Tryd.pinned (OpenSpec.upto treeRootsSpec)

/-- 'coppicelaw04.TreeDigests', WHERE WHAT IT READS IS OF BULK AT MOST 1048576: true; the input reads as it did. -/
def treeDigestsUptoRow : OpenClaim := { program := "ytbdmehgbdnninaadoor", sum := "d2a0f3f7ed5af929443e4ee989c489ab0e4527d6bb09c2d120f20b06c28cb298", func := "coppice/coppicelaw04.TreeDigests", spec := "treeDigests", named := ["coppice/hash.constants"], apart := false, laid := [("coppice/hash.constants", laid_coppice_hash_constants)], narrowed := true }
def TreeDigestsUptoSaid : Prop := treeDigestsUptoRow.holds Tryd.pinned (OpenSpec.upto treeDigestsSpec)

/-- 'coppicelaw04.TreeHalves', WHERE WHAT IT READS IS OF BULK AT MOST 1048576: true; the input reads as it did. -/
def treeHalvesUptoRow : OpenClaim := { program := "ytbdmehgbdnninaadoor", sum := "d2a0f3f7ed5af929443e4ee989c489ab0e4527d6bb09c2d120f20b06c28cb298", func := "coppice/coppicelaw04.TreeHalves", spec := "treeHalves", unfollowed := true, recurses := true, named := ["coppice/hash.constants"], apart := false, laid := [("coppice/hash.constants", laid_coppice_hash_constants)], narrowed := true }
def TreeHalvesUptoSaid : Prop := treeHalvesUptoRow.holds Tryd.pinned (OpenSpec.upto treeHalvesSpec)

/-- 'coppicelaw07.VerifyPaths', WHERE WHAT IT READS IS OF BULK AT MOST 1048576: true; the input reads as it did. -/
def verifyPathsUptoRow : OpenClaim := { program := "ytbdmehgbdnninaadoor", sum := "d2a0f3f7ed5af929443e4ee989c489ab0e4527d6bb09c2d120f20b06c28cb298", func := "coppice/coppicelaw07.VerifyPaths", spec := "verifyPaths", recurses := true, named := ["coppice/hash.constants"], apart := false, laid := [("coppice/hash.constants", laid_coppice_hash_constants)], narrowed := true }
def VerifyPathsUptoSaid : Prop := verifyPathsUptoRow.holds Tryd.pinned (OpenSpec.upto verifyPathsSpec)

/-- 'coppicelaw04.TreePaths', WHERE WHAT IT READS IS OF BULK AT MOST 1048576: true; the input reads as it did. -/
def treePathsUptoRow : OpenClaim := { program := "ytbdmehgbdnninaadoor", sum := "d2a0f3f7ed5af929443e4ee989c489ab0e4527d6bb09c2d120f20b06c28cb298", func := "coppice/coppicelaw04.TreePaths", spec := "treePaths", unfollowed := true, recurses := true, named := ["coppice/hash.constants"], apart := false, laid := [("coppice/hash.constants", laid_coppice_hash_constants)], narrowed := true }
def TreePathsUptoSaid : Prop := treePathsUptoRow.holds Tryd.pinned (OpenSpec.upto treePathsSpec)

/-- 'coppicelaw04.TreeSteps', WHERE WHAT IT READS IS OF BULK AT MOST 1048576: true; the input reads as it did. -/
def treeStepsUptoRow : OpenClaim := { program := "ytbdmehgbdnninaadoor", sum := "d2a0f3f7ed5af929443e4ee989c489ab0e4527d6bb09c2d120f20b06c28cb298", func := "coppice/coppicelaw04.TreeSteps", spec := "treeSteps", unfollowed := true, recurses := true, named := ["coppice/hash.constants"], apart := false, laid := [("coppice/hash.constants", laid_coppice_hash_constants)], narrowed := true }
def TreeStepsUptoSaid : Prop := treeStepsUptoRow.holds Tryd.pinned (OpenSpec.upto treeStepsSpec)

/-- 'coppicelaw07.VerifySteps', WHERE WHAT IT READS IS OF BULK AT MOST 1048576: true; the input reads as it did. -/
def verifyStepsUptoRow : OpenClaim := { program := "ytbdmehgbdnninaadoor", sum := "d2a0f3f7ed5af929443e4ee989c489ab0e4527d6bb09c2d120f20b06c28cb298", func := "coppice/coppicelaw07.VerifySteps", spec := "verifySteps", recurses := true, named := ["coppice/hash.constants"], apart := false, laid := [("coppice/hash.constants", laid_coppice_hash_constants)], narrowed := true }
def VerifyStepsUptoSaid : Prop := verifyStepsUptoRow.holds Tryd.pinned (OpenSpec.upto verifyStepsSpec)

/-- 'coppicelaw04.TreeFolds', WHERE WHAT IT READS IS OF BULK AT MOST 1048576: true; the input reads as it did. -/
def treeFoldsUptoRow : OpenClaim := { program := "ytbdmehgbdnninaadoor", sum := "d2a0f3f7ed5af929443e4ee989c489ab0e4527d6bb09c2d120f20b06c28cb298", func := "coppice/coppicelaw04.TreeFolds", spec := "treeFolds", unfollowed := true, recurses := true, named := ["coppice/hash.constants"], apart := false, laid := [("coppice/hash.constants", laid_coppice_hash_constants)], narrowed := true }
def TreeFoldsUptoSaid : Prop := treeFoldsUptoRow.holds Tryd.pinned (OpenSpec.upto treeFoldsSpec)

/-- 'coppicelaw07.VerifyTurned', WHERE WHAT IT READS IS OF BULK AT MOST 1048576: true; the input reads as it did. -/
def verifyTurnedUptoRow : OpenClaim := { program := "ytbdmehgbdnninaadoor", sum := "d2a0f3f7ed5af929443e4ee989c489ab0e4527d6bb09c2d120f20b06c28cb298", func := "coppice/coppicelaw07.VerifyTurned", spec := "verifyTurned", unfollowed := true, recurses := true, named := ["coppice/hash.constants"], apart := false, laid := [("coppice/hash.constants", laid_coppice_hash_constants)], narrowed := true }
def VerifyTurnedUptoSaid : Prop := verifyTurnedUptoRow.holds Tryd.pinned (OpenSpec.upto verifyTurnedSpec)

/-- 'coppicelaw07.VerifyBack', WHERE WHAT IT READS IS OF BULK AT MOST 1048576: true; the input reads as it did. -/
def verifyBackUptoRow : OpenClaim := { program := "ytbdmehgbdnninaadoor", sum := "d2a0f3f7ed5af929443e4ee989c489ab0e4527d6bb09c2d120f20b06c28cb298", func := "coppice/coppicelaw07.VerifyBack", spec := "verifyBack", unfollowed := true, recurses := true, named := ["coppice/hash.constants"], apart := false, laid := [("coppice/hash.constants", laid_coppice_hash_constants)], narrowed := true }
def VerifyBackUptoSaid : Prop := verifyBackUptoRow.holds Tryd.pinned (OpenSpec.upto verifyBackSpec)

end Rows
end Go.Proofs.YtbdmehgbdnninaaDoor
