/-
  NARROWER THAN 'FOR EVERY INPUT', by the rows' own cells (each row's printed sentence says how): HashBlocks: laid · HashSums: laid · HashPieces: laid · MacNobody: laid · HashNobody: laid · HashLengthens: laid · HashGrows: laid · HashLoads: laid · MacGrows: laid · MacLong: laid · MacTells: laid.
  DERIVED. THE GIVEN ROWS OF THIS SEAT. 11 by the template 'for every input the law returns true; each argument reads behind the call as it read before'; 0 by the template 'total and deterministic' (their statements: YtepcjdifjjombaaDoorTotals.lean).
  GIVEN WITH THE SEED: the statements are not yours to turn. If you find one false, say at which input.
  Laid BY PROGRAM, IN A SANDBOX (cutbox-rows.mjs): the forced cells as the released guide's own fill.sh prints them over the translation 46e94e4ec5f65b3b… (all of the seat's roots in one cut). By AI agents, Wed Nov 11 2026. No macro, syntax, notation, axiom, sorry.
-/
import Derived.Test.YtepcjdifjjombaaDoorChecked
import GoSem.Claim
import GoSem.ClaimJoined
import GoSem.ClaimMapViews
import Derived.JoinedTies
import Derived.KernelRfl
namespace Go.Proofs.YtepcjdifjjombaaDoor
/- THE CELL 'sum', in the pinned program and in every row, IS THE sha256 OF THE DUMP (.gsa) THAT YtepcjdifjjombaaDoorProg.lean LOADS. Nothing in Lean hashes anything: it is a label: what it is worth is what the hold of that sum in a sandbox is worth. -/
noncomputable def Tryd.pinned : Pinned := { name := "ytepcjdifjjombaadoor", sum := "46e94e4ec5f65b3bcc59c89984ca86bec9fddc4e7586c5e1bcd9caac6a5e6396", checked := Tryd.checked }
namespace Rows
def none {H : Type} : Left H := { results := [], args := [] }

/- WHAT THE LISTED PACKAGE-LEVEL VARIABLES READ AS WHEN THE CALL BEGINS. Each datum BY PROGRAM (the guide's laid-datum.mjs) off the statement by which the dump's own 'gosem.cut.vars' lays the variable. In a bare row this is a premise. The card (YtepcjdifjjombaaDoorCards.lean) ties it to the program's text. -/
def laid_coppice_hash_constants {H : Type} : DataW H := .agg [.lit (.int .u32 1116352408), .lit (.int .u32 1899447441), .lit (.int .u32 3049323471), .lit (.int .u32 3921009573), .lit (.int .u32 961987163), .lit (.int .u32 1508970993), .lit (.int .u32 2453635748), .lit (.int .u32 2870763221), .lit (.int .u32 3624381080), .lit (.int .u32 310598401), .lit (.int .u32 607225278), .lit (.int .u32 1426881987), .lit (.int .u32 1925078388), .lit (.int .u32 2162078206), .lit (.int .u32 2614888103), .lit (.int .u32 3248222580), .lit (.int .u32 3835390401), .lit (.int .u32 4022224774), .lit (.int .u32 264347078), .lit (.int .u32 604807628), .lit (.int .u32 770255983), .lit (.int .u32 1249150122), .lit (.int .u32 1555081692), .lit (.int .u32 1996064986), .lit (.int .u32 2554220882), .lit (.int .u32 2821834349), .lit (.int .u32 2952996808), .lit (.int .u32 3210313671), .lit (.int .u32 3336571891), .lit (.int .u32 3584528711), .lit (.int .u32 113926993), .lit (.int .u32 338241895), .lit (.int .u32 666307205), .lit (.int .u32 773529912), .lit (.int .u32 1294757372), .lit (.int .u32 1396182291), .lit (.int .u32 1695183700), .lit (.int .u32 1986661051), .lit (.int .u32 2177026350), .lit (.int .u32 2456956037), .lit (.int .u32 2730485921), .lit (.int .u32 2820302411), .lit (.int .u32 3259730800), .lit (.int .u32 3345764771), .lit (.int .u32 3516065817), .lit (.int .u32 3600352804), .lit (.int .u32 4094571909), .lit (.int .u32 275423344), .lit (.int .u32 430227734), .lit (.int .u32 506948616), .lit (.int .u32 659060556), .lit (.int .u32 883997877), .lit (.int .u32 958139571), .lit (.int .u32 1322822218), .lit (.int .u32 1537002063), .lit (.int .u32 1747873779), .lit (.int .u32 1955562222), .lit (.int .u32 2024104815), .lit (.int .u32 2227730452), .lit (.int .u32 2361852424), .lit (.int .u32 2428436474), .lit (.int .u32 2756734187), .lit (.int .u32 3204031479), .lit (.int .u32 3329325298)]

/-- 'coppicelaw02.HashBlocks': WHATEVER THE INPUT: true; the input reads as it did. -/
def hashBlocksSpec : ChangeSpec := { name := "hashBlocks", fn := fun _ => fun
  | [d1, d2] => { results := [.lit (.bool true)], args := [d1, d2] }
  | _ => none }
def hashBlocksRow : OpenClaim := { program := "ytepcjdifjjombaadoor", sum := "46e94e4ec5f65b3bcc59c89984ca86bec9fddc4e7586c5e1bcd9caac6a5e6396", func := "coppice/coppicelaw02.HashBlocks", spec := "hashBlocks", named := ["coppice/hash.constants"], apart := false, laid := [("coppice/hash.constants", laid_coppice_hash_constants)] }
def HashBlocksSaid : Prop := hashBlocksRow.holds Tryd.pinned (OpenSpec.ofChange hashBlocksSpec)

/-- ITS FALSE NEIGHBOUR: 'it returns false'. Refute it at one input. -/
def hashBlocksWrong : ChangeSpec := { name := "hashBlocks", fn := fun _ => fun
  | [d1, d2] => { results := [.lit (.bool false)], args := [d1, d2] }
  | _ => none }
def HashBlocksWrongFalsely : Prop := hashBlocksRow.holds Tryd.pinned (OpenSpec.ofChange hashBlocksWrong)

/-- 'coppicelaw02.HashSums': WHATEVER THE INPUT: true; the input reads as it did. -/
def hashSumsSpec : ChangeSpec := { name := "hashSums", fn := fun _ => fun
  | [d] => { results := [.lit (.bool true)], args := [d] }
  | _ => none }
def hashSumsRow : OpenClaim := { program := "ytepcjdifjjombaadoor", sum := "46e94e4ec5f65b3bcc59c89984ca86bec9fddc4e7586c5e1bcd9caac6a5e6396", func := "coppice/coppicelaw02.HashSums", spec := "hashSums", named := ["coppice/hash.constants"], apart := false, laid := [("coppice/hash.constants", laid_coppice_hash_constants)] }
def HashSumsSaid : Prop := hashSumsRow.holds Tryd.pinned (OpenSpec.ofChange hashSumsSpec)

/-- ITS FALSE NEIGHBOUR: 'it returns false'. Refute it at one input. -/
def hashSumsWrong : ChangeSpec := { name := "hashSums", fn := fun _ => fun
  | [d] => { results := [.lit (.bool false)], args := [d] }
  | _ => none }
def HashSumsWrongFalsely : Prop := hashSumsRow.holds Tryd.pinned (OpenSpec.ofChange hashSumsWrong)

/-- 'coppicelaw02.HashPieces': WHATEVER THE INPUT: true; the input reads as it did. -/
def hashPiecesSpec : ChangeSpec := { name := "hashPieces", fn := fun _ => fun
  | [d1, d2] => { results := [.lit (.bool true)], args := [d1, d2] }
  | _ => none }
def hashPiecesRow : OpenClaim := { program := "ytepcjdifjjombaadoor", sum := "46e94e4ec5f65b3bcc59c89984ca86bec9fddc4e7586c5e1bcd9caac6a5e6396", func := "coppice/coppicelaw02.HashPieces", spec := "hashPieces", named := ["coppice/hash.constants"], apart := false, laid := [("coppice/hash.constants", laid_coppice_hash_constants)] }
def HashPiecesSaid : Prop := hashPiecesRow.holds Tryd.pinned (OpenSpec.ofChange hashPiecesSpec)

/-- ITS FALSE NEIGHBOUR: 'it returns false'. Refute it at one input. -/
def hashPiecesWrong : ChangeSpec := { name := "hashPieces", fn := fun _ => fun
  | [d1, d2] => { results := [.lit (.bool false)], args := [d1, d2] }
  | _ => none }
def HashPiecesWrongFalsely : Prop := hashPiecesRow.holds Tryd.pinned (OpenSpec.ofChange hashPiecesWrong)

/-- 'coppicelaw03.MacNobody': WHATEVER THE INPUT: true; the input reads as it did. -/
def macNobodySpec : ChangeSpec := { name := "macNobody", fn := fun _ => fun
  | [d] => { results := [.lit (.bool true)], args := [d] }
  | _ => none }
def macNobodyRow : OpenClaim := { program := "ytepcjdifjjombaadoor", sum := "46e94e4ec5f65b3bcc59c89984ca86bec9fddc4e7586c5e1bcd9caac6a5e6396", func := "coppice/coppicelaw03.MacNobody", spec := "macNobody", named := ["coppice/hash.constants"], apart := false, laid := [("coppice/hash.constants", laid_coppice_hash_constants)] }
def MacNobodySaid : Prop := macNobodyRow.holds Tryd.pinned (OpenSpec.ofChange macNobodySpec)

/-- ITS FALSE NEIGHBOUR: 'it returns false'. Refute it at one input. -/
def macNobodyWrong : ChangeSpec := { name := "macNobody", fn := fun _ => fun
  | [d] => { results := [.lit (.bool false)], args := [d] }
  | _ => none }
def MacNobodyWrongFalsely : Prop := macNobodyRow.holds Tryd.pinned (OpenSpec.ofChange macNobodyWrong)

/-- 'coppicelaw02.HashNobody': WHATEVER THE INPUT: true; the input reads as it did. -/
def hashNobodySpec : ChangeSpec := { name := "hashNobody", fn := fun _ => fun
  | [d] => { results := [.lit (.bool true)], args := [d] }
  | _ => none }
def hashNobodyRow : OpenClaim := { program := "ytepcjdifjjombaadoor", sum := "46e94e4ec5f65b3bcc59c89984ca86bec9fddc4e7586c5e1bcd9caac6a5e6396", func := "coppice/coppicelaw02.HashNobody", spec := "hashNobody", named := ["coppice/hash.constants"], apart := false, laid := [("coppice/hash.constants", laid_coppice_hash_constants)] }
def HashNobodySaid : Prop := hashNobodyRow.holds Tryd.pinned (OpenSpec.ofChange hashNobodySpec)

/-- ITS FALSE NEIGHBOUR: 'it returns false'. Refute it at one input. -/
def hashNobodyWrong : ChangeSpec := { name := "hashNobody", fn := fun _ => fun
  | [d] => { results := [.lit (.bool false)], args := [d] }
  | _ => none }
def HashNobodyWrongFalsely : Prop := hashNobodyRow.holds Tryd.pinned (OpenSpec.ofChange hashNobodyWrong)

/-- 'coppicelaw02.HashLengthens': WHATEVER THE INPUT: true; the input reads as it did. -/
def hashLengthensSpec : ChangeSpec := { name := "hashLengthens", fn := fun _ => fun
  | [d1, d2] => { results := [.lit (.bool true)], args := [d1, d2] }
  | _ => none }
def hashLengthensRow : OpenClaim := { program := "ytepcjdifjjombaadoor", sum := "46e94e4ec5f65b3bcc59c89984ca86bec9fddc4e7586c5e1bcd9caac6a5e6396", func := "coppice/coppicelaw02.HashLengthens", spec := "hashLengthens", named := ["coppice/hash.constants"], apart := false, laid := [("coppice/hash.constants", laid_coppice_hash_constants)] }
def HashLengthensSaid : Prop := hashLengthensRow.holds Tryd.pinned (OpenSpec.ofChange hashLengthensSpec)

/-- ITS FALSE NEIGHBOUR: 'it returns false'. Refute it at one input. -/
def hashLengthensWrong : ChangeSpec := { name := "hashLengthens", fn := fun _ => fun
  | [d1, d2] => { results := [.lit (.bool false)], args := [d1, d2] }
  | _ => none }
def HashLengthensWrongFalsely : Prop := hashLengthensRow.holds Tryd.pinned (OpenSpec.ofChange hashLengthensWrong)

/-- 'coppicelaw02.HashGrows': WHATEVER THE INPUT: true; the input reads as it did. -/
def hashGrowsSpec : ChangeSpec := { name := "hashGrows", fn := fun _ => fun
  | [d] => { results := [.lit (.bool true)], args := [d] }
  | _ => none }
def hashGrowsRow : OpenClaim := { program := "ytepcjdifjjombaadoor", sum := "46e94e4ec5f65b3bcc59c89984ca86bec9fddc4e7586c5e1bcd9caac6a5e6396", func := "coppice/coppicelaw02.HashGrows", spec := "hashGrows", named := ["coppice/hash.constants"], apart := false, laid := [("coppice/hash.constants", laid_coppice_hash_constants)] }
def HashGrowsSaid : Prop := hashGrowsRow.holds Tryd.pinned (OpenSpec.ofChange hashGrowsSpec)

/-- ITS FALSE NEIGHBOUR: 'it returns false'. Refute it at one input. -/
def hashGrowsWrong : ChangeSpec := { name := "hashGrows", fn := fun _ => fun
  | [d] => { results := [.lit (.bool false)], args := [d] }
  | _ => none }
def HashGrowsWrongFalsely : Prop := hashGrowsRow.holds Tryd.pinned (OpenSpec.ofChange hashGrowsWrong)

/-- 'coppicelaw02.HashLoads': WHATEVER THE INPUT: true; the input reads as it did. -/
def hashLoadsSpec : ChangeSpec := { name := "hashLoads", fn := fun _ => fun
  | [d1, d2] => { results := [.lit (.bool true)], args := [d1, d2] }
  | _ => none }
def hashLoadsRow : OpenClaim := { program := "ytepcjdifjjombaadoor", sum := "46e94e4ec5f65b3bcc59c89984ca86bec9fddc4e7586c5e1bcd9caac6a5e6396", func := "coppice/coppicelaw02.HashLoads", spec := "hashLoads", named := ["coppice/hash.constants"], apart := false, laid := [("coppice/hash.constants", laid_coppice_hash_constants)] }
def HashLoadsSaid : Prop := hashLoadsRow.holds Tryd.pinned (OpenSpec.ofChange hashLoadsSpec)

/-- ITS FALSE NEIGHBOUR: 'it returns false'. Refute it at one input. -/
def hashLoadsWrong : ChangeSpec := { name := "hashLoads", fn := fun _ => fun
  | [d1, d2] => { results := [.lit (.bool false)], args := [d1, d2] }
  | _ => none }
def HashLoadsWrongFalsely : Prop := hashLoadsRow.holds Tryd.pinned (OpenSpec.ofChange hashLoadsWrong)

/-- 'coppicelaw03.MacGrows': WHATEVER THE INPUT: true; the input reads as it did. -/
def macGrowsSpec : ChangeSpec := { name := "macGrows", fn := fun _ => fun
  | [d1, d2] => { results := [.lit (.bool true)], args := [d1, d2] }
  | _ => none }
def macGrowsRow : OpenClaim := { program := "ytepcjdifjjombaadoor", sum := "46e94e4ec5f65b3bcc59c89984ca86bec9fddc4e7586c5e1bcd9caac6a5e6396", func := "coppice/coppicelaw03.MacGrows", spec := "macGrows", named := ["coppice/hash.constants"], apart := false, laid := [("coppice/hash.constants", laid_coppice_hash_constants)] }
def MacGrowsSaid : Prop := macGrowsRow.holds Tryd.pinned (OpenSpec.ofChange macGrowsSpec)

/-- ITS FALSE NEIGHBOUR: 'it returns false'. Refute it at one input. -/
def macGrowsWrong : ChangeSpec := { name := "macGrows", fn := fun _ => fun
  | [d1, d2] => { results := [.lit (.bool false)], args := [d1, d2] }
  | _ => none }
def MacGrowsWrongFalsely : Prop := macGrowsRow.holds Tryd.pinned (OpenSpec.ofChange macGrowsWrong)

/-- 'coppicelaw03.MacLong': WHATEVER THE INPUT: true; the input reads as it did. -/
def macLongSpec : ChangeSpec := { name := "macLong", fn := fun _ => fun
  | [d1, d2] => { results := [.lit (.bool true)], args := [d1, d2] }
  | _ => none }
def macLongRow : OpenClaim := { program := "ytepcjdifjjombaadoor", sum := "46e94e4ec5f65b3bcc59c89984ca86bec9fddc4e7586c5e1bcd9caac6a5e6396", func := "coppice/coppicelaw03.MacLong", spec := "macLong", named := ["coppice/hash.constants"], apart := false, laid := [("coppice/hash.constants", laid_coppice_hash_constants)] }
def MacLongSaid : Prop := macLongRow.holds Tryd.pinned (OpenSpec.ofChange macLongSpec)

/-- ITS FALSE NEIGHBOUR: 'it returns false'. Refute it at one input. -/
def macLongWrong : ChangeSpec := { name := "macLong", fn := fun _ => fun
  | [d1, d2] => { results := [.lit (.bool false)], args := [d1, d2] }
  | _ => none }
def MacLongWrongFalsely : Prop := macLongRow.holds Tryd.pinned (OpenSpec.ofChange macLongWrong)

/-- 'coppicelaw03.MacTells': WHATEVER THE INPUT: true; the input reads as it did. -/
def macTellsSpec : ChangeSpec := { name := "macTells", fn := fun _ => fun
  | [d1, d2] => { results := [.lit (.bool true)], args := [d1, d2] }
  | _ => none }
def macTellsRow : OpenClaim := { program := "ytepcjdifjjombaadoor", sum := "46e94e4ec5f65b3bcc59c89984ca86bec9fddc4e7586c5e1bcd9caac6a5e6396", func := "coppice/coppicelaw03.MacTells", spec := "macTells", named := ["coppice/hash.constants"], apart := false, laid := [("coppice/hash.constants", laid_coppice_hash_constants)] }
def MacTellsSaid : Prop := macTellsRow.holds Tryd.pinned (OpenSpec.ofChange macTellsSpec)

/-- ITS FALSE NEIGHBOUR: 'it returns false'. Refute it at one input. -/
def macTellsWrong : ChangeSpec := { name := "macTells", fn := fun _ => fun
  | [d1, d2] => { results := [.lit (.bool false)], args := [d1, d2] }
  | _ => none }
def MacTellsWrongFalsely : Prop := macTellsRow.holds Tryd.pinned (OpenSpec.ofChange macTellsWrong)

/- THE SECOND FORM. 'bulk': how many values and letters a reading holds, each counted each time it is reached (what is shared counts as often as it is met; a slice's spare places count too). A statement '..UptoSaid' is the law's where the arguments, and the package variables that the reading takes, are together of bulk at most 1048576: NARROWER than '..Said'. Prove '..Said' where nothing that the law and all that it calls make is longer than what came in: it says more and counts as full. Else prove '..UptoSaid'. A law counts once. -/
mutual
def uptoBulk {H : Type} : DataW H → Nat
  | .lit (.string bytes) => bytes.length + 1
  | .lit _ => 1
  | .nil => 1
  | .ptr d => uptoBulk d + 1
  | .slice elems spare => uptoBulkAll elems + uptoBulkAll spare + 1
  | .agg parts => uptoBulkAll parts + 1
  | .iface _ d => uptoBulk d + 1
  | .map entries => uptoBulkEntries entries + 1
  | .held _ => 1
def uptoBulkAll {H : Type} : List (DataW H) → Nat
  | [] => 0
  | d :: r => uptoBulk d + uptoBulkAll r
def uptoBulkEntries {H : Type} : List (Lit × DataW H) → Nat
  | [] => 0
  | x :: r => uptoBulkEntry x + uptoBulkEntries r
def uptoBulkEntry {H : Type} : Lit × DataW H → Nat
  | (.string bytes, d) => bytes.length + uptoBulk d + 1
  | (_, d) => uptoBulk d + 1
 end
def uptoSmall : (H : Type) → List (DataW H) → Bool := fun _ ds => decide (uptoBulkAll ds ≤ 1048576)
def OpenSpec.upto (s : _root_.Go.ChangeSpec) : _root_.Go.OpenSpec := { _root_.Go.OpenSpec.ofChange s with cond := some uptoSmall }

/-- 'coppicelaw02.HashBlocks', WHERE WHAT IT READS IS OF BULK AT MOST 1048576: true; the input reads as it did. -/
def hashBlocksUptoRow : OpenClaim := { program := "ytepcjdifjjombaadoor", sum := "46e94e4ec5f65b3bcc59c89984ca86bec9fddc4e7586c5e1bcd9caac6a5e6396", func := "coppice/coppicelaw02.HashBlocks", spec := "hashBlocks", named := ["coppice/hash.constants"], apart := false, laid := [("coppice/hash.constants", laid_coppice_hash_constants)], narrowed := true }
def HashBlocksUptoSaid : Prop := hashBlocksUptoRow.holds Tryd.pinned (OpenSpec.upto hashBlocksSpec)

/-- 'coppicelaw02.HashSums', WHERE WHAT IT READS IS OF BULK AT MOST 1048576: true; the input reads as it did. -/
def hashSumsUptoRow : OpenClaim := { program := "ytepcjdifjjombaadoor", sum := "46e94e4ec5f65b3bcc59c89984ca86bec9fddc4e7586c5e1bcd9caac6a5e6396", func := "coppice/coppicelaw02.HashSums", spec := "hashSums", named := ["coppice/hash.constants"], apart := false, laid := [("coppice/hash.constants", laid_coppice_hash_constants)], narrowed := true }
def HashSumsUptoSaid : Prop := hashSumsUptoRow.holds Tryd.pinned (OpenSpec.upto hashSumsSpec)

/-- 'coppicelaw02.HashPieces', WHERE WHAT IT READS IS OF BULK AT MOST 1048576: true; the input reads as it did. -/
def hashPiecesUptoRow : OpenClaim := { program := "ytepcjdifjjombaadoor", sum := "46e94e4ec5f65b3bcc59c89984ca86bec9fddc4e7586c5e1bcd9caac6a5e6396", func := "coppice/coppicelaw02.HashPieces", spec := "hashPieces", named := ["coppice/hash.constants"], apart := false, laid := [("coppice/hash.constants", laid_coppice_hash_constants)], narrowed := true }
def HashPiecesUptoSaid : Prop := hashPiecesUptoRow.holds Tryd.pinned (OpenSpec.upto hashPiecesSpec)

/-- 'coppicelaw03.MacNobody', WHERE WHAT IT READS IS OF BULK AT MOST 1048576: true; the input reads as it did. -/
def macNobodyUptoRow : OpenClaim := { program := "ytepcjdifjjombaadoor", sum := "46e94e4ec5f65b3bcc59c89984ca86bec9fddc4e7586c5e1bcd9caac6a5e6396", func := "coppice/coppicelaw03.MacNobody", spec := "macNobody", named := ["coppice/hash.constants"], apart := false, laid := [("coppice/hash.constants", laid_coppice_hash_constants)], narrowed := true }
def MacNobodyUptoSaid : Prop := macNobodyUptoRow.holds Tryd.pinned (OpenSpec.upto macNobodySpec)

/-- 'coppicelaw02.HashNobody', WHERE WHAT IT READS IS OF BULK AT MOST 1048576: true; the input reads as it did. -/
def hashNobodyUptoRow : OpenClaim := { program := "ytepcjdifjjombaadoor", sum := "46e94e4ec5f65b3bcc59c89984ca86bec9fddc4e7586c5e1bcd9caac6a5e6396", func := "coppice/coppicelaw02.HashNobody", spec := "hashNobody", named := ["coppice/hash.constants"], apart := false, laid := [("coppice/hash.constants", laid_coppice_hash_constants)], narrowed := true }
def HashNobodyUptoSaid : Prop := hashNobodyUptoRow.holds Tryd.pinned (OpenSpec.upto hashNobodySpec)

/-- 'coppicelaw02.HashLengthens', WHERE WHAT IT READS IS OF BULK AT MOST 1048576: true; the input reads as it did. -/
def hashLengthensUptoRow : OpenClaim := { program := "ytepcjdifjjombaadoor", sum := "46e94e4ec5f65b3bcc59c89984ca86bec9fddc4e7586c5e1bcd9caac6a5e6396", func := "coppice/coppicelaw02.HashLengthens", spec := "hashLengthens", named := ["coppice/hash.constants"], apart := false, laid := [("coppice/hash.constants", laid_coppice_hash_constants)], narrowed := true }
def HashLengthensUptoSaid : Prop := hashLengthensUptoRow.holds Tryd.pinned (OpenSpec.upto hashLengthensSpec)

/-- 'coppicelaw02.HashGrows', WHERE WHAT IT READS IS OF BULK AT MOST 1048576: true; the input reads as it did. -/
def hashGrowsUptoRow : OpenClaim := { program := "ytepcjdifjjombaadoor", sum := "46e94e4ec5f65b3bcc59c89984ca86bec9fddc4e7586c5e1bcd9caac6a5e6396", func := "coppice/coppicelaw02.HashGrows", spec := "hashGrows", named := ["coppice/hash.constants"], apart := false, laid := [("coppice/hash.constants", laid_coppice_hash_constants)], narrowed := true }
def HashGrowsUptoSaid : Prop := hashGrowsUptoRow.holds Tryd.pinned (OpenSpec.upto hashGrowsSpec)

/-- 'coppicelaw02.HashLoads', WHERE WHAT IT READS IS OF BULK AT MOST 1048576: true; the input reads as it did. -/
def hashLoadsUptoRow : OpenClaim := { program := "ytepcjdifjjombaadoor", sum := "46e94e4ec5f65b3bcc59c89984ca86bec9fddc4e7586c5e1bcd9caac6a5e6396", func := "coppice/coppicelaw02.HashLoads", spec := "hashLoads", named := ["coppice/hash.constants"], apart := false, laid := [("coppice/hash.constants", laid_coppice_hash_constants)], narrowed := true }
def HashLoadsUptoSaid : Prop := hashLoadsUptoRow.holds Tryd.pinned (OpenSpec.upto hashLoadsSpec)

/-- 'coppicelaw03.MacGrows', WHERE WHAT IT READS IS OF BULK AT MOST 1048576: true; the input reads as it did. -/
def macGrowsUptoRow : OpenClaim := { program := "ytepcjdifjjombaadoor", sum := "46e94e4ec5f65b3bcc59c89984ca86bec9fddc4e7586c5e1bcd9caac6a5e6396", func := "coppice/coppicelaw03.MacGrows", spec := "macGrows", named := ["coppice/hash.constants"], apart := false, laid := [("coppice/hash.constants", laid_coppice_hash_constants)], narrowed := true }
def MacGrowsUptoSaid : Prop := macGrowsUptoRow.holds Tryd.pinned (OpenSpec.upto macGrowsSpec)

/-- 'coppicelaw03.MacLong', WHERE WHAT IT READS IS OF BULK AT MOST 1048576: true; the input reads as it did. -/
def macLongUptoRow : OpenClaim := { program := "ytepcjdifjjombaadoor", sum := "46e94e4ec5f65b3bcc59c89984ca86bec9fddc4e7586c5e1bcd9caac6a5e6396", func := "coppice/coppicelaw03.MacLong", spec := "macLong", named := ["coppice/hash.constants"], apart := false, laid := [("coppice/hash.constants", laid_coppice_hash_constants)], narrowed := true }
def MacLongUptoSaid : Prop := macLongUptoRow.holds Tryd.pinned (OpenSpec.upto macLongSpec)

/-- 'coppicelaw03.MacTells', WHERE WHAT IT READS IS OF BULK AT MOST 1048576: true; the input reads as it did. -/
def macTellsUptoRow : OpenClaim := { program := "ytepcjdifjjombaadoor", sum := "46e94e4ec5f65b3bcc59c89984ca86bec9fddc4e7586c5e1bcd9caac6a5e6396", func := "coppice/coppicelaw03.MacTells", spec := "macTells", named := ["coppice/hash.constants"], apart := false, laid := [("coppice/hash.constants", laid_coppice_hash_constants)], narrowed := true }
def MacTellsUptoSaid : Prop := macTellsUptoRow.holds Tryd.pinned (OpenSpec.upto macTellsSpec)

end Rows
end Go.Proofs.YtepcjdifjjombaaDoor
