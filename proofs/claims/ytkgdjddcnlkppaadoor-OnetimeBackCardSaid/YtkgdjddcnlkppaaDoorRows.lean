/-
  NARROWER THAN 'FOR EVERY INPUT', by the rows' own cells (each row's printed sentence says how): OnetimeChains: laid · OnetimeSteps: laid · OnetimeRecovers: laid · MacChildren: laid · MacExpands: laid · MacBegins: laid · OnetimeSigns: laid · OnetimeBack: laid.
  DERIVED. THE GIVEN ROWS OF THIS SEAT. 8 by the template 'for every input the law returns true; each argument reads behind the call as it read before'; 0 by the template 'total and deterministic' (their statements: YtkgdjddcnlkppaaDoorTotals.lean).
  GIVEN WITH THE SEED: the statements are not yours to turn. If you find one false, say at which input.
  Laid BY PROGRAM, IN A SANDBOX (cutbox-rows.mjs): the forced cells as the released guide's own fill.sh prints them over the translation f37da632892afe34… (all of the seat's roots in one cut). By AI agents, Wed Nov 11 2026. No macro, syntax, notation, axiom, sorry.
-/
import Derived.Test.YtkgdjddcnlkppaaDoorChecked
import GoSem.Claim
import GoSem.ClaimJoined
import GoSem.ClaimMapViews
import Derived.JoinedTies
import Derived.KernelRfl
namespace Go.Proofs.YtkgdjddcnlkppaaDoor
/- THE CELL 'sum', in the pinned program and in every row, IS THE sha256 OF THE DUMP (.gsa) THAT YtkgdjddcnlkppaaDoorProg.lean LOADS. Nothing in Lean hashes anything: it is a label: what it is worth is what the hold of that sum in a sandbox is worth. -/
noncomputable def Tryd.pinned : Pinned := { name := "ytkgdjddcnlkppaadoor", sum := "f37da632892afe340af0707832e3c7d497076feb72a3520a217ddc3ca44448ca", checked := Tryd.checked }
namespace Rows
def none {H : Type} : Left H := { results := [], args := [] }

/- WHAT THE LISTED PACKAGE-LEVEL VARIABLES READ AS WHEN THE CALL BEGINS. Each datum BY PROGRAM (the guide's laid-datum.mjs) off the statement by which the dump's own 'gosem.cut.vars' lays the variable. In a bare row this is a premise. The card (YtkgdjddcnlkppaaDoorCards.lean) ties it to the program's text. -/
def laid_coppice_hash_constants {H : Type} : DataW H := .agg [.lit (.int .u32 1116352408), .lit (.int .u32 1899447441), .lit (.int .u32 3049323471), .lit (.int .u32 3921009573), .lit (.int .u32 961987163), .lit (.int .u32 1508970993), .lit (.int .u32 2453635748), .lit (.int .u32 2870763221), .lit (.int .u32 3624381080), .lit (.int .u32 310598401), .lit (.int .u32 607225278), .lit (.int .u32 1426881987), .lit (.int .u32 1925078388), .lit (.int .u32 2162078206), .lit (.int .u32 2614888103), .lit (.int .u32 3248222580), .lit (.int .u32 3835390401), .lit (.int .u32 4022224774), .lit (.int .u32 264347078), .lit (.int .u32 604807628), .lit (.int .u32 770255983), .lit (.int .u32 1249150122), .lit (.int .u32 1555081692), .lit (.int .u32 1996064986), .lit (.int .u32 2554220882), .lit (.int .u32 2821834349), .lit (.int .u32 2952996808), .lit (.int .u32 3210313671), .lit (.int .u32 3336571891), .lit (.int .u32 3584528711), .lit (.int .u32 113926993), .lit (.int .u32 338241895), .lit (.int .u32 666307205), .lit (.int .u32 773529912), .lit (.int .u32 1294757372), .lit (.int .u32 1396182291), .lit (.int .u32 1695183700), .lit (.int .u32 1986661051), .lit (.int .u32 2177026350), .lit (.int .u32 2456956037), .lit (.int .u32 2730485921), .lit (.int .u32 2820302411), .lit (.int .u32 3259730800), .lit (.int .u32 3345764771), .lit (.int .u32 3516065817), .lit (.int .u32 3600352804), .lit (.int .u32 4094571909), .lit (.int .u32 275423344), .lit (.int .u32 430227734), .lit (.int .u32 506948616), .lit (.int .u32 659060556), .lit (.int .u32 883997877), .lit (.int .u32 958139571), .lit (.int .u32 1322822218), .lit (.int .u32 1537002063), .lit (.int .u32 1747873779), .lit (.int .u32 1955562222), .lit (.int .u32 2024104815), .lit (.int .u32 2227730452), .lit (.int .u32 2361852424), .lit (.int .u32 2428436474), .lit (.int .u32 2756734187), .lit (.int .u32 3204031479), .lit (.int .u32 3329325298)]

/-- 'coppicelaw19.OnetimeChains': WHATEVER THE INPUT: true; the input reads as it did. -/
def onetimeChainsSpec : ChangeSpec := { name := "onetimeChains", fn := fun _ => fun
  | [d1, d2, d3] => { results := [.lit (.bool true)], args := [d1, d2, d3] }
  | _ => none }
def onetimeChainsRow : OpenClaim := { program := "ytkgdjddcnlkppaadoor", sum := "f37da632892afe340af0707832e3c7d497076feb72a3520a217ddc3ca44448ca", func := "coppice/coppicelaw19.OnetimeChains", spec := "onetimeChains", named := ["coppice/hash.constants"], apart := false, laid := [("coppice/hash.constants", laid_coppice_hash_constants)] }
def OnetimeChainsSaid : Prop := onetimeChainsRow.holds Tryd.pinned (OpenSpec.ofChange onetimeChainsSpec)

/-- ITS FALSE NEIGHBOUR: 'it returns false'. Refute it at one input. -/
def onetimeChainsWrong : ChangeSpec := { name := "onetimeChains", fn := fun _ => fun
  | [d1, d2, d3] => { results := [.lit (.bool false)], args := [d1, d2, d3] }
  | _ => none }
def OnetimeChainsWrongFalsely : Prop := onetimeChainsRow.holds Tryd.pinned (OpenSpec.ofChange onetimeChainsWrong)

/-- 'coppicelaw19.OnetimeSteps': WHATEVER THE INPUT: true; the input reads as it did. -/
def onetimeStepsSpec : ChangeSpec := { name := "onetimeSteps", fn := fun _ => fun
  | [d1, d2, d3] => { results := [.lit (.bool true)], args := [d1, d2, d3] }
  | _ => none }
def onetimeStepsRow : OpenClaim := { program := "ytkgdjddcnlkppaadoor", sum := "f37da632892afe340af0707832e3c7d497076feb72a3520a217ddc3ca44448ca", func := "coppice/coppicelaw19.OnetimeSteps", spec := "onetimeSteps", named := ["coppice/hash.constants"], apart := false, laid := [("coppice/hash.constants", laid_coppice_hash_constants)] }
def OnetimeStepsSaid : Prop := onetimeStepsRow.holds Tryd.pinned (OpenSpec.ofChange onetimeStepsSpec)

/-- ITS FALSE NEIGHBOUR: 'it returns false'. Refute it at one input. -/
def onetimeStepsWrong : ChangeSpec := { name := "onetimeSteps", fn := fun _ => fun
  | [d1, d2, d3] => { results := [.lit (.bool false)], args := [d1, d2, d3] }
  | _ => none }
def OnetimeStepsWrongFalsely : Prop := onetimeStepsRow.holds Tryd.pinned (OpenSpec.ofChange onetimeStepsWrong)

/-- 'coppicelaw19.OnetimeRecovers': WHATEVER THE INPUT: true; the input reads as it did. -/
def onetimeRecoversSpec : ChangeSpec := { name := "onetimeRecovers", fn := fun _ => fun
  | [d1, d2] => { results := [.lit (.bool true)], args := [d1, d2] }
  | _ => none }
def onetimeRecoversRow : OpenClaim := { program := "ytkgdjddcnlkppaadoor", sum := "f37da632892afe340af0707832e3c7d497076feb72a3520a217ddc3ca44448ca", func := "coppice/coppicelaw19.OnetimeRecovers", spec := "onetimeRecovers", named := ["coppice/hash.constants"], apart := false, laid := [("coppice/hash.constants", laid_coppice_hash_constants)] }
def OnetimeRecoversSaid : Prop := onetimeRecoversRow.holds Tryd.pinned (OpenSpec.ofChange onetimeRecoversSpec)

/-- ITS FALSE NEIGHBOUR: 'it returns false'. Refute it at one input. -/
def onetimeRecoversWrong : ChangeSpec := { name := "onetimeRecovers", fn := fun _ => fun
  | [d1, d2] => { results := [.lit (.bool false)], args := [d1, d2] }
  | _ => none }
def OnetimeRecoversWrongFalsely : Prop := onetimeRecoversRow.holds Tryd.pinned (OpenSpec.ofChange onetimeRecoversWrong)

/-- 'coppicelaw03.MacChildren': WHATEVER THE INPUT: true; the input reads as it did. -/
def macChildrenSpec : ChangeSpec := { name := "macChildren", fn := fun _ => fun
  | [d1, d2, d3] => { results := [.lit (.bool true)], args := [d1, d2, d3] }
  | _ => none }
def macChildrenRow : OpenClaim := { program := "ytkgdjddcnlkppaadoor", sum := "f37da632892afe340af0707832e3c7d497076feb72a3520a217ddc3ca44448ca", func := "coppice/coppicelaw03.MacChildren", spec := "macChildren", named := ["coppice/hash.constants"], apart := false, laid := [("coppice/hash.constants", laid_coppice_hash_constants)] }
def MacChildrenSaid : Prop := macChildrenRow.holds Tryd.pinned (OpenSpec.ofChange macChildrenSpec)

/-- ITS FALSE NEIGHBOUR: 'it returns false'. Refute it at one input. -/
def macChildrenWrong : ChangeSpec := { name := "macChildren", fn := fun _ => fun
  | [d1, d2, d3] => { results := [.lit (.bool false)], args := [d1, d2, d3] }
  | _ => none }
def MacChildrenWrongFalsely : Prop := macChildrenRow.holds Tryd.pinned (OpenSpec.ofChange macChildrenWrong)

/-- 'coppicelaw03.MacExpands': WHATEVER THE INPUT: true; the input reads as it did. -/
def macExpandsSpec : ChangeSpec := { name := "macExpands", fn := fun _ => fun
  | [d1, d2, d3] => { results := [.lit (.bool true)], args := [d1, d2, d3] }
  | _ => none }
def macExpandsRow : OpenClaim := { program := "ytkgdjddcnlkppaadoor", sum := "f37da632892afe340af0707832e3c7d497076feb72a3520a217ddc3ca44448ca", func := "coppice/coppicelaw03.MacExpands", spec := "macExpands", named := ["coppice/hash.constants"], apart := false, laid := [("coppice/hash.constants", laid_coppice_hash_constants)] }
def MacExpandsSaid : Prop := macExpandsRow.holds Tryd.pinned (OpenSpec.ofChange macExpandsSpec)

/-- ITS FALSE NEIGHBOUR: 'it returns false'. Refute it at one input. -/
def macExpandsWrong : ChangeSpec := { name := "macExpands", fn := fun _ => fun
  | [d1, d2, d3] => { results := [.lit (.bool false)], args := [d1, d2, d3] }
  | _ => none }
def MacExpandsWrongFalsely : Prop := macExpandsRow.holds Tryd.pinned (OpenSpec.ofChange macExpandsWrong)

/-- 'coppicelaw03.MacBegins': WHATEVER THE INPUT: true; the input reads as it did. -/
def macBeginsSpec : ChangeSpec := { name := "macBegins", fn := fun _ => fun
  | [d1, d2, d3] => { results := [.lit (.bool true)], args := [d1, d2, d3] }
  | _ => none }
def macBeginsRow : OpenClaim := { program := "ytkgdjddcnlkppaadoor", sum := "f37da632892afe340af0707832e3c7d497076feb72a3520a217ddc3ca44448ca", func := "coppice/coppicelaw03.MacBegins", spec := "macBegins", named := ["coppice/hash.constants"], apart := false, laid := [("coppice/hash.constants", laid_coppice_hash_constants)] }
def MacBeginsSaid : Prop := macBeginsRow.holds Tryd.pinned (OpenSpec.ofChange macBeginsSpec)

/-- ITS FALSE NEIGHBOUR: 'it returns false'. Refute it at one input. -/
def macBeginsWrong : ChangeSpec := { name := "macBegins", fn := fun _ => fun
  | [d1, d2, d3] => { results := [.lit (.bool false)], args := [d1, d2, d3] }
  | _ => none }
def MacBeginsWrongFalsely : Prop := macBeginsRow.holds Tryd.pinned (OpenSpec.ofChange macBeginsWrong)

/-- 'coppicelaw19.OnetimeSigns': WHATEVER THE INPUT: true; the input reads as it did. -/
def onetimeSignsSpec : ChangeSpec := { name := "onetimeSigns", fn := fun _ => fun
  | [d1, d2] => { results := [.lit (.bool true)], args := [d1, d2] }
  | _ => none }
def onetimeSignsRow : OpenClaim := { program := "ytkgdjddcnlkppaadoor", sum := "f37da632892afe340af0707832e3c7d497076feb72a3520a217ddc3ca44448ca", func := "coppice/coppicelaw19.OnetimeSigns", spec := "onetimeSigns", named := ["coppice/hash.constants"], apart := false, laid := [("coppice/hash.constants", laid_coppice_hash_constants)] }
def OnetimeSignsSaid : Prop := onetimeSignsRow.holds Tryd.pinned (OpenSpec.ofChange onetimeSignsSpec)

/-- ITS FALSE NEIGHBOUR: 'it returns false'. Refute it at one input. -/
def onetimeSignsWrong : ChangeSpec := { name := "onetimeSigns", fn := fun _ => fun
  | [d1, d2] => { results := [.lit (.bool false)], args := [d1, d2] }
  | _ => none }
def OnetimeSignsWrongFalsely : Prop := onetimeSignsRow.holds Tryd.pinned (OpenSpec.ofChange onetimeSignsWrong)

/-- 'coppicelaw19.OnetimeBack': WHATEVER THE INPUT: true; the input reads as it did. -/
def onetimeBackSpec : ChangeSpec := { name := "onetimeBack", fn := fun _ => fun
  | [d1, d2] => { results := [.lit (.bool true)], args := [d1, d2] }
  | _ => none }
def onetimeBackRow : OpenClaim := { program := "ytkgdjddcnlkppaadoor", sum := "f37da632892afe340af0707832e3c7d497076feb72a3520a217ddc3ca44448ca", func := "coppice/coppicelaw19.OnetimeBack", spec := "onetimeBack", named := ["coppice/hash.constants"], apart := false, laid := [("coppice/hash.constants", laid_coppice_hash_constants)] }
def OnetimeBackSaid : Prop := onetimeBackRow.holds Tryd.pinned (OpenSpec.ofChange onetimeBackSpec)

/-- ITS FALSE NEIGHBOUR: 'it returns false'. Refute it at one input. -/
def onetimeBackWrong : ChangeSpec := { name := "onetimeBack", fn := fun _ => fun
  | [d1, d2] => { results := [.lit (.bool false)], args := [d1, d2] }
  | _ => none }
def OnetimeBackWrongFalsely : Prop := onetimeBackRow.holds Tryd.pinned (OpenSpec.ofChange onetimeBackWrong)

/- THE SECOND FORM. 'bulk': how many values and letters a reading holds, each counted each time it is reached (what is shared counts as often as it is met; a slice's spare places count too). A statement '..UptoSaid' is the law's where the arguments, and the package variables that the reading takes, are together of bulk at most 1048576: NARROWER than '..Said'. Prove '..Said' where nothing that the law and all that it calls make is longer than what came in: it says more and counts as full. Else prove '..UptoSaid'. A law counts once. -/
mutual
def uptoBulk {H : Type} : DataW H → Nat
  | .lit (.string bytes) => bytes.length + 1
  | .lit _ => 1
  | .nil => 1
  | .ptr d => uptoBulk d + 1
  | .slice elems spare => uptoBulkAll elems + uptoBulkAll spare + 1
  | .agg parts => uptoBulkAll parts + 1
  | .iface _ d => uptoBulk d + 1
  | .map entries => uptoBulkEntries entries + 1
  | .held _ => 1
def uptoBulkAll {H : Type} : List (DataW H) → Nat
  | [] => 0
  | d :: r => uptoBulk d + uptoBulkAll r
def uptoBulkEntries {H : Type} : List (Lit × DataW H) → Nat
  | [] => 0
  | x :: r => uptoBulkEntry x + uptoBulkEntries r
def uptoBulkEntry {H : Type} : Lit × DataW H → Nat
  | (.string bytes, d) => bytes.length + uptoBulk d + 1
  | (_, d) => uptoBulk d + 1
 end
def uptoSmall : (H : Type) → List (DataW H) → Bool := fun _ ds => decide (uptoBulkAll ds ≤ 1048576)
def OpenSpec.upto (s : _root_.Go.ChangeSpec) : _root_.Go.OpenSpec := { _root_.Go.OpenSpec.ofChange s with cond := some uptoSmall }

/-- 'coppicelaw19.OnetimeChains', WHERE WHAT IT READS IS OF BULK AT MOST 1048576: true; the input reads as it did. -/
def onetimeChainsUptoRow : OpenClaim := { program := "ytkgdjddcnlkppaadoor", sum := "f37da632892afe340af0707832e3c7d497076feb72a3520a217ddc3ca44448ca", func := "coppice/coppicelaw19.OnetimeChains", spec := "onetimeChains", named := ["coppice/hash.constants"], apart := false, laid := [("coppice/hash.constants", laid_coppice_hash_constants)], narrowed := true }
def OnetimeChainsUptoSaid : Prop := onetimeChainsUptoRow.holds Tryd.pinned (OpenSpec.upto onetimeChainsSpec)

/-- 'coppicelaw19.OnetimeSteps', WHERE WHAT IT READS IS OF BULK AT MOST 1048576: true; the input reads as it did. -/
def onetimeStepsUptoRow : OpenClaim := { program := "ytkgdjddcnlkppaadoor", sum := "f37da632892afe340af0707832e3c7d497076feb72a3520a217ddc3ca44448ca", func := "coppice/coppicelaw19.OnetimeSteps", spec := "onetimeSteps", named := ["coppice/hash.constants"], apart := false, laid := [("coppice/hash.constants", laid_coppice_hash_constants)], narrowed := true }
def OnetimeStepsUptoSaid : Prop := onetimeStepsUptoRow.holds Tryd.pinned (OpenSpec.upto onetimeStepsSpec)

/-- 'coppicelaw19.OnetimeRecovers', WHERE WHAT IT READS IS OF BULK AT MOST 1048576: true; the input reads as it did. -/
def onetimeRecoversUptoRow : OpenClaim := { program := "ytkgdjddcnlkppaadoor", sum := "f37da632892afe340af0707832e3c7d497076feb72a3520a217ddc3ca44448ca", func := "coppice/coppicelaw19.OnetimeRecovers", spec := "onetimeRecovers", named := ["coppice/hash.constants"], apart := false, laid := [("coppice/hash.constants", laid_coppice_hash_constants)], narrowed := true }
def OnetimeRecoversUptoSaid : Prop := onetimeRecoversUptoRow.holds Tryd.pinned (OpenSpec.upto onetimeRecoversSpec)

/-- 'coppicelaw03.MacChildren', WHERE WHAT IT READS IS OF BULK AT MOST 1048576: true; the input reads as it did. -/
def macChildrenUptoRow : OpenClaim := { program := "ytkgdjddcnlkppaadoor", sum := "f37da632892afe340af0707832e3c7d497076feb72a3520a217ddc3ca44448ca", func := "coppice/coppicelaw03.MacChildren", spec := "macChildren", named := ["coppice/hash.constants"], apart := false, laid := [("coppice/hash.constants", laid_coppice_hash_constants)], narrowed := true }
def MacChildrenUptoSaid : Prop := macChildrenUptoRow.holds Tryd.pinned (OpenSpec.upto macChildrenSpec)

/-- 'coppicelaw03.MacExpands', WHERE WHAT IT READS IS OF BULK AT MOST 1048576: true; the input reads as it did. -/
def macExpandsUptoRow : OpenClaim := { program := "ytkgdjddcnlkppaadoor", sum := "f37da632892afe340af0707832e3c7d497076feb72a3520a217ddc3ca44448ca", func := "coppice/coppicelaw03.MacExpands", spec := "macExpands", named := ["coppice/hash.constants"], apart := false, laid := [("coppice/hash.constants", laid_coppice_hash_constants)], narrowed := true }
def MacExpandsUptoSaid : Prop := macExpandsUptoRow.holds Tryd.pinned (OpenSpec.upto macExpandsSpec)

/-- 'coppicelaw03.MacBegins', WHERE WHAT IT READS IS OF BULK AT MOST 1048576: true; the input reads as it did. -/
def macBeginsUptoRow : OpenClaim := { program := "ytkgdjddcnlkppaadoor", sum := "f37da632892afe340af0707832e3c7d497076feb72a3520a217ddc3ca44448ca", func := "coppice/coppicelaw03.MacBegins", spec := "macBegins", named := ["coppice/hash.constants"], apart := false, laid := [("coppice/hash.constants", laid_coppice_hash_constants)], narrowed := true }
def MacBeginsUptoSaid : Prop := macBeginsUptoRow.holds Tryd.pinned (OpenSpec.upto macBeginsSpec)

/-- 'coppicelaw19.OnetimeSigns', WHERE WHAT IT READS IS OF BULK AT MOST 1048576: true; the input reads as it did. -/
def onetimeSignsUptoRow : OpenClaim := { program := "ytkgdjddcnlkppaadoor", sum := "f37da632892afe340af0707832e3c7d497076feb72a3520a217ddc3ca44448ca", func := "coppice/coppicelaw19.OnetimeSigns", spec := "onetimeSigns", named := ["coppice/hash.constants"], apart := false, laid := [("coppice/hash.constants", laid_coppice_hash_constants)], narrowed := true }
def OnetimeSignsUptoSaid : Prop := onetimeSignsUptoRow.holds Tryd.pinned (OpenSpec.upto onetimeSignsSpec)

/-- 'coppicelaw19.OnetimeBack', WHERE WHAT IT READS IS OF BULK AT MOST 1048576: true; the input reads as it did. -/
def onetimeBackUptoRow : OpenClaim := { program := "ytkgdjddcnlkppaadoor", sum := "f37da632892afe340af0707832e3c7d497076feb72a3520a217ddc3ca44448ca", func := "coppice/coppicelaw19.OnetimeBack", spec := "onetimeBack", named := ["coppice/hash.constants"], apart := false, laid := [("coppice/hash.constants", laid_coppice_hash_constants)], narrowed := true }
def OnetimeBackUptoSaid : Prop := onetimeBackUptoRow.holds Tryd.pinned (OpenSpec.upto onetimeBackSpec)

end Rows
end Go.Proofs.YtkgdjddcnlkppaaDoor
