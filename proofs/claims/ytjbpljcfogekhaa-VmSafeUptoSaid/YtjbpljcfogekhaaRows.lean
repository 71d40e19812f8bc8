/-
  No cell of these rows narrows 'for every input' (looked for: loops, veiled, ifaces, maps, wideKeys, modest, calm, conditions, laid).
  DERIVED. THE GIVEN ROWS OF THIS SEAT. 12 by the template 'for every input the law returns true; each argument reads behind the call as it read before'; 0 by the template 'total and deterministic' (their statements: YtjbpljcfogekhaaTotals.lean).
  GIVEN WITH THE SEED: the statements are not yours to turn. If you find one false, say at which input.
  Laid BY PROGRAM, IN A SANDBOX (cutbox-rows.mjs): the forced cells as the released guide's own fill.sh prints them over the translation 20b8aa4689876aec… (all of the seat's roots in one cut). By AI agents, Wed Nov 11 2026. No macro, syntax, notation, axiom, sorry.
-/
import Derived.Test.YtjbpljcfogekhaaChecked
import GoSem.Claim
import GoSem.ClaimJoined
import GoSem.ClaimMapViews
import Derived.JoinedTies
import Derived.KernelRfl
namespace Go.Proofs.Ytjbpljcfogekhaa
/- THE CELL 'sum', in the pinned program and in every row, IS THE sha256 OF THE DUMP (.gsa) THAT YtjbpljcfogekhaaProg.lean LOADS. Nothing in Lean hashes anything: it is a label: what it is worth is what the hold of that sum in a sandbox is worth. -/
noncomputable def Try.pinned : Pinned := { name := "ytjbpljcfogekhaa", sum := "20b8aa4689876aecdbf262cb627b4325be1b9cabccec2be9c889afcded238427", checked := Try.checked }
namespace Rows
def none {H : Type} : Left H := { results := [], args := [] }

/-- 'januslaw05.CodeEncodes': WHATEVER THE INPUT: true; the input reads as it did. -/
def codeEncodesSpec : ChangeSpec := { name := "codeEncodes", fn := fun _ => fun
  | [d] => { results := [.lit (.bool true)], args := [d] }
  | _ => none }
def codeEncodesRow : OpenClaim := { program := "ytjbpljcfogekhaa", sum := "20b8aa4689876aecdbf262cb627b4325be1b9cabccec2be9c889afcded238427", func := "janus/januslaw05.CodeEncodes", spec := "codeEncodes", apart := false }
def CodeEncodesSaid : Prop := codeEncodesRow.holds Try.pinned (OpenSpec.ofChange codeEncodesSpec)

/-- ITS FALSE NEIGHBOUR: 'it returns false'. Refute it at one input. -/
def codeEncodesWrong : ChangeSpec := { name := "codeEncodes", fn := fun _ => fun
  | [d] => { results := [.lit (.bool false)], args := [d] }
  | _ => none }
def CodeEncodesWrongFalsely : Prop := codeEncodesRow.holds Try.pinned (OpenSpec.ofChange codeEncodesWrong)

/-- 'januslaw05.CodeDecodes': WHATEVER THE INPUT: true; the input reads as it did. -/
def codeDecodesSpec : ChangeSpec := { name := "codeDecodes", fn := fun _ => fun
  | [d1, d2] => { results := [.lit (.bool true)], args := [d1, d2] }
  | _ => none }
def codeDecodesRow : OpenClaim := { program := "ytjbpljcfogekhaa", sum := "20b8aa4689876aecdbf262cb627b4325be1b9cabccec2be9c889afcded238427", func := "janus/januslaw05.CodeDecodes", spec := "codeDecodes", apart := false }
def CodeDecodesSaid : Prop := codeDecodesRow.holds Try.pinned (OpenSpec.ofChange codeDecodesSpec)

/-- ITS FALSE NEIGHBOUR: 'it returns false'. Refute it at one input. -/
def codeDecodesWrong : ChangeSpec := { name := "codeDecodes", fn := fun _ => fun
  | [d1, d2] => { results := [.lit (.bool false)], args := [d1, d2] }
  | _ => none }
def CodeDecodesWrongFalsely : Prop := codeDecodesRow.holds Try.pinned (OpenSpec.ofChange codeDecodesWrong)

/-- 'januslaw05.CodeBack': WHATEVER THE INPUT: true; the input reads as it did. -/
def codeBackSpec : ChangeSpec := { name := "codeBack", fn := fun _ => fun
  | [d1, d2] => { results := [.lit (.bool true)], args := [d1, d2] }
  | _ => none }
def codeBackRow : OpenClaim := { program := "ytjbpljcfogekhaa", sum := "20b8aa4689876aecdbf262cb627b4325be1b9cabccec2be9c889afcded238427", func := "janus/januslaw05.CodeBack", spec := "codeBack", apart := false }
def CodeBackSaid : Prop := codeBackRow.holds Try.pinned (OpenSpec.ofChange codeBackSpec)

/-- ITS FALSE NEIGHBOUR: 'it returns false'. Refute it at one input. -/
def codeBackWrong : ChangeSpec := { name := "codeBack", fn := fun _ => fun
  | [d1, d2] => { results := [.lit (.bool false)], args := [d1, d2] }
  | _ => none }
def CodeBackWrongFalsely : Prop := codeBackRow.holds Try.pinned (OpenSpec.ofChange codeBackWrong)

/-- 'januslaw05.CodeMoves': WHATEVER THE INPUT: true; the input reads as it did. -/
def codeMovesSpec : ChangeSpec := { name := "codeMoves", fn := fun _ => fun
  | [d] => { results := [.lit (.bool true)], args := [d] }
  | _ => none }
def codeMovesRow : OpenClaim := { program := "ytjbpljcfogekhaa", sum := "20b8aa4689876aecdbf262cb627b4325be1b9cabccec2be9c889afcded238427", func := "janus/januslaw05.CodeMoves", spec := "codeMoves", apart := false }
def CodeMovesSaid : Prop := codeMovesRow.holds Try.pinned (OpenSpec.ofChange codeMovesSpec)

/-- ITS FALSE NEIGHBOUR: 'it returns false'. Refute it at one input. -/
def codeMovesWrong : ChangeSpec := { name := "codeMoves", fn := fun _ => fun
  | [d] => { results := [.lit (.bool false)], args := [d] }
  | _ => none }
def CodeMovesWrongFalsely : Prop := codeMovesRow.holds Try.pinned (OpenSpec.ofChange codeMovesWrong)

/-- 'januslaw05.CodeOnes': WHATEVER THE INPUT: true; the input reads as it did. -/
def codeOnesSpec : ChangeSpec := { name := "codeOnes", fn := fun _ => fun
  | [d] => { results := [.lit (.bool true)], args := [d] }
  | _ => none }
def codeOnesRow : OpenClaim := { program := "ytjbpljcfogekhaa", sum := "20b8aa4689876aecdbf262cb627b4325be1b9cabccec2be9c889afcded238427", func := "janus/januslaw05.CodeOnes", spec := "codeOnes", apart := false }
def CodeOnesSaid : Prop := codeOnesRow.holds Try.pinned (OpenSpec.ofChange codeOnesSpec)

/-- ITS FALSE NEIGHBOUR: 'it returns false'. Refute it at one input. -/
def codeOnesWrong : ChangeSpec := { name := "codeOnes", fn := fun _ => fun
  | [d] => { results := [.lit (.bool false)], args := [d] }
  | _ => none }
def CodeOnesWrongFalsely : Prop := codeOnesRow.holds Try.pinned (OpenSpec.ofChange codeOnesWrong)

/-- 'januslaw06.ValidChecks': WHATEVER THE INPUT: true; the input reads as it did. -/
def validChecksSpec : ChangeSpec := { name := "validChecks", fn := fun _ => fun
  | [d1, d2] => { results := [.lit (.bool true)], args := [d1, d2] }
  | _ => none }
def validChecksRow : OpenClaim := { program := "ytjbpljcfogekhaa", sum := "20b8aa4689876aecdbf262cb627b4325be1b9cabccec2be9c889afcded238427", func := "janus/januslaw06.ValidChecks", spec := "validChecks", apart := false }
def ValidChecksSaid : Prop := validChecksRow.holds Try.pinned (OpenSpec.ofChange validChecksSpec)

/-- ITS FALSE NEIGHBOUR: 'it returns false'. Refute it at one input. -/
def validChecksWrong : ChangeSpec := { name := "validChecks", fn := fun _ => fun
  | [d1, d2] => { results := [.lit (.bool false)], args := [d1, d2] }
  | _ => none }
def ValidChecksWrongFalsely : Prop := validChecksRow.holds Try.pinned (OpenSpec.ofChange validChecksWrong)

/-- 'januslaw06.ValidStays': WHATEVER THE INPUT: true; the input reads as it did. -/
def validStaysSpec : ChangeSpec := { name := "validStays", fn := fun _ => fun
  | [d] => { results := [.lit (.bool true)], args := [d] }
  | _ => none }
def validStaysRow : OpenClaim := { program := "ytjbpljcfogekhaa", sum := "20b8aa4689876aecdbf262cb627b4325be1b9cabccec2be9c889afcded238427", func := "janus/januslaw06.ValidStays", spec := "validStays", apart := false }
def ValidStaysSaid : Prop := validStaysRow.holds Try.pinned (OpenSpec.ofChange validStaysSpec)

/-- ITS FALSE NEIGHBOUR: 'it returns false'. Refute it at one input. -/
def validStaysWrong : ChangeSpec := { name := "validStays", fn := fun _ => fun
  | [d] => { results := [.lit (.bool false)], args := [d] }
  | _ => none }
def ValidStaysWrongFalsely : Prop := validStaysRow.holds Try.pinned (OpenSpec.ofChange validStaysWrong)

/-- 'januslaw06.ValidDead': WHATEVER THE INPUT: true; the input reads as it did. -/
def validDeadSpec : ChangeSpec := { name := "validDead", fn := fun _ => fun
  | [d1, d2] => { results := [.lit (.bool true)], args := [d1, d2] }
  | _ => none }
def validDeadRow : OpenClaim := { program := "ytjbpljcfogekhaa", sum := "20b8aa4689876aecdbf262cb627b4325be1b9cabccec2be9c889afcded238427", func := "janus/januslaw06.ValidDead", spec := "validDead", apart := false }
def ValidDeadSaid : Prop := validDeadRow.holds Try.pinned (OpenSpec.ofChange validDeadSpec)

/-- ITS FALSE NEIGHBOUR: 'it returns false'. Refute it at one input. -/
def validDeadWrong : ChangeSpec := { name := "validDead", fn := fun _ => fun
  | [d1, d2] => { results := [.lit (.bool false)], args := [d1, d2] }
  | _ => none }
def ValidDeadWrongFalsely : Prop := validDeadRow.holds Try.pinned (OpenSpec.ofChange validDeadWrong)

/-- 'januslaw06.ValidEntries': WHATEVER THE INPUT: true; the input reads as it did. -/
def validEntriesSpec : ChangeSpec := { name := "validEntries", fn := fun _ => fun
  | [d] => { results := [.lit (.bool true)], args := [d] }
  | _ => none }
def validEntriesRow : OpenClaim := { program := "ytjbpljcfogekhaa", sum := "20b8aa4689876aecdbf262cb627b4325be1b9cabccec2be9c889afcded238427", func := "janus/januslaw06.ValidEntries", spec := "validEntries", apart := false }
def ValidEntriesSaid : Prop := validEntriesRow.holds Try.pinned (OpenSpec.ofChange validEntriesSpec)

/-- ITS FALSE NEIGHBOUR: 'it returns false'. Refute it at one input. -/
def validEntriesWrong : ChangeSpec := { name := "validEntries", fn := fun _ => fun
  | [d] => { results := [.lit (.bool false)], args := [d] }
  | _ => none }
def ValidEntriesWrongFalsely : Prop := validEntriesRow.holds Try.pinned (OpenSpec.ofChange validEntriesWrong)

/-- 'januslaw07.VmSafe': WHATEVER THE INPUT: true; the input reads as it did. -/
def vmSafeSpec : ChangeSpec := { name := "vmSafe", fn := fun _ => fun
  | [d1, d2] => { results := [.lit (.bool true)], args := [d1, d2] }
  | _ => none }
def vmSafeRow : OpenClaim := { program := "ytjbpljcfogekhaa", sum := "20b8aa4689876aecdbf262cb627b4325be1b9cabccec2be9c889afcded238427", func := "janus/januslaw07.VmSafe", spec := "vmSafe", unfollowed := true, recurses := true, apart := false }
def VmSafeSaid : Prop := vmSafeRow.holds Try.pinned (OpenSpec.ofChange vmSafeSpec)

/-- ITS FALSE NEIGHBOUR: 'it returns false'. Refute it at one input. -/
def vmSafeWrong : ChangeSpec := { name := "vmSafe", fn := fun _ => fun
  | [d1, d2] => { results := [.lit (.bool false)], args := [d1, d2] }
  | _ => none }
def VmSafeWrongFalsely : Prop := vmSafeRow.holds Try.pinned (OpenSpec.ofChange vmSafeWrong)

/-- 'januslaw07.VmPieces': WHATEVER THE INPUT: true; the input reads as it did. -/
def vmPiecesSpec : ChangeSpec := { name := "vmPieces", fn := fun _ => fun
  | [d1, d2, d3] => { results := [.lit (.bool true)], args := [d1, d2, d3] }
  | _ => none }
def vmPiecesRow : OpenClaim := { program := "ytjbpljcfogekhaa", sum := "20b8aa4689876aecdbf262cb627b4325be1b9cabccec2be9c889afcded238427", func := "janus/januslaw07.VmPieces", spec := "vmPieces", unfollowed := true, recurses := true, apart := false }
def VmPiecesSaid : Prop := vmPiecesRow.holds Try.pinned (OpenSpec.ofChange vmPiecesSpec)

/-- ITS FALSE NEIGHBOUR: 'it returns false'. Refute it at one input. -/
def vmPiecesWrong : ChangeSpec := { name := "vmPieces", fn := fun _ => fun
  | [d1, d2, d3] => { results := [.lit (.bool false)], args := [d1, d2, d3] }
  | _ => none }
def VmPiecesWrongFalsely : Prop := vmPiecesRow.holds Try.pinned (OpenSpec.ofChange vmPiecesWrong)

/-- 'januslaw07.VmRules': WHATEVER THE INPUT: true; the input reads as it did. -/
def vmRulesSpec : ChangeSpec := { name := "vmRules", fn := fun _ => fun
  | [d1, d2] => { results := [.lit (.bool true)], args := [d1, d2] }
  | _ => none }
def vmRulesRow : OpenClaim := { program := "ytjbpljcfogekhaa", sum := "20b8aa4689876aecdbf262cb627b4325be1b9cabccec2be9c889afcded238427", func := "janus/januslaw07.VmRules", spec := "vmRules", unfollowed := true, recurses := true, apart := false }
def VmRulesSaid : Prop := vmRulesRow.holds Try.pinned (OpenSpec.ofChange vmRulesSpec)

/-- ITS FALSE NEIGHBOUR: 'it returns false'. Refute it at one input. -/
def vmRulesWrong : ChangeSpec := { name := "vmRules", fn := fun _ => fun
  | [d1, d2] => { results := [.lit (.bool false)], args := [d1, d2] }
  | _ => none }
def VmRulesWrongFalsely : Prop := vmRulesRow.holds Try.pinned (OpenSpec.ofChange vmRulesWrong)

/- THE SECOND FORM. 'bulk': how many values and letters a reading holds, each counted each time it is reached (what is shared counts as often as it is met; a slice's spare places count too). A statement '..UptoSaid' is the law's where the arguments, and the package variables that the reading takes, are together of bulk at most 1048576: NARROWER than '..Said'. Prove '..Said' where nothing that the law and all that it calls make is longer than what came in: it says more and counts as full. Else prove '..UptoSaid'. A law counts once. -/
mutual
def uptoBulk {H : Type} : DataW H → Nat
  | .lit (.string bytes) => bytes.length + 1
  | .lit _ => 1
  | .nil => 1
  | .ptr d => uptoBulk d + 1
  | .slice elems spare => uptoBulkAll elems + uptoBulkAll spare + 1
  | .agg parts => uptoBulkAll parts + 1
  | .iface _ d => uptoBulk d + 1
  | .map entries => uptoBulkEntries entries + 1
  | .held _ => 1
def uptoBulkAll {H : Type} : List (DataW H) → Nat
  | [] => 0
  | d :: r => uptoBulk d + uptoBulkAll r
def uptoBulkEntries {H : Type} : List (Lit × DataW H) → Nat
  | [] => 0
  | x :: r => uptoBulkEntry x + uptoBulkEntries r
def uptoBulkEntry {H : Type} : Lit × DataW H → Nat
  | (.string bytes, d) => bytes.length + uptoBulk d + 1
  | (_, d) => uptoBulk d + 1
 end
def uptoSmall : (H : Type) → List (DataW H) → Bool := fun _ ds => decide (uptoBulkAll ds ≤ 1048576)
def OpenSpec.upto (s : _root_.Go.ChangeSpec) : _root_.Go.OpenSpec := { _root_.Go.OpenSpec.ofChange s with cond := some uptoSmall }

/-- 'januslaw05.CodeEncodes', WHERE WHAT IT READS IS OF BULK AT MOST 1048576: true; the input reads as it did. -/
def codeEncodesUptoRow : OpenClaim := { program := "ytjbpljcfogekhaa", sum := "20b8aa4689876aecdbf262cb627b4325be1b9cabccec2be9c889afcded238427", func := "janus/januslaw05.CodeEncodes", spec := "codeEncodes", apart := false, narrowed := true }
def CodeEncodesUptoSaid : Prop := codeEncodesUptoRow.holds Try.pinned (OpenSpec.upto codeEncodesSpec)

/-- 'januslaw05.CodeDecodes', WHERE WHAT IT READS IS OF BULK AT MOST 1048576: true; the input reads as it did. -/
def codeDecodesUptoRow : OpenClaim := { program := "ytjbpljcfogekhaa", sum := "20b8aa4689876aecdbf262cb627b4325be1b9cabccec2be9c889afcded238427", func := "janus/januslaw05.CodeDecodes", spec := "codeDecodes", apart := false, narrowed := true }
def CodeDecodesUptoSaid : Prop := codeDecodesUptoRow.holds Try.pinned (OpenSpec.upto codeDecodesSpec)

/-- 'januslaw05.CodeBack', WHERE WHAT IT READS IS OF BULK AT MOST 1048576: true; the input reads as it did. -/
def codeBackUptoRow : OpenClaim := { program := "ytjbpljcfogekhaa", sum := "20b8aa4689876aecdbf262cb627b4325be1b9cabccec2be9c889afcded238427", func := "janus/januslaw05.CodeBack", spec := "codeBack", apart := false, narrowed := true }
def CodeBackUptoSaid : Prop := codeBackUptoRow.holds Try.pinned (OpenSpec.upto codeBackSpec)

/-- 'januslaw05.CodeMoves', WHERE WHAT IT READS IS OF BULK AT MOST 1048576: true; the input reads as it did. -/
def codeMovesUptoRow : OpenClaim := { program := "ytjbpljcfogekhaa", sum := "20b8aa4689876aecdbf262cb627b4325be1b9cabccec2be9c889afcded238427", func := "janus/januslaw05.CodeMoves", spec := "codeMoves", apart := false, narrowed := true }
def CodeMovesUptoSaid : Prop := codeMovesUptoRow.holds Try.pinned (OpenSpec.upto codeMovesSpec)

/-- 'januslaw05.CodeOnes', WHERE WHAT IT READS IS OF BULK AT MOST 1048576: true; the input reads as it did. -/
def codeOnesUptoRow : OpenClaim := { program := "ytjbpljcfogekhaa", sum := "20b8aa4689876aecdbf262cb627b4325be1b9cabccec2be9c889afcded238427", func := "janus/januslaw05.CodeOnes", spec := "codeOnes", apart := false, narrowed := true }
def CodeOnesUptoSaid : Prop := codeOnesUptoRow.holds Try.pinned (OpenSpec.upto codeOnesSpec)

/-- 'januslaw06.ValidChecks', WHERE WHAT IT READS IS OF BULK AT MOST 1048576: true; the input reads as it did. -/
def validChecksUptoRow : OpenClaim := { program := "ytjbpljcfogekhaa", sum := "20b8aa4689876aecdbf262cb627b4325be1b9cabccec2be9c889afcded238427", func := "janus/januslaw06.ValidChecks", spec := "validChecks", apart := false, narrowed := true }
def ValidChecksUptoSaid : Prop := validChecksUptoRow.holds Try.pinned (OpenSpec.upto validChecksSpec)

/-- 'januslaw06.ValidStays', WHERE WHAT IT READS IS OF BULK AT MOST 1048576: true; the input reads as it did. -/
def validStaysUptoRow : OpenClaim := { program := "ytjbpljcfogekhaa", sum := "20b8aa4689876aecdbf262cb627b4325be1b9cabccec2be9c889afcded238427", func := "janus/januslaw06.ValidStays", spec := "validStays", apart := false, narrowed := true }
def ValidStaysUptoSaid : Prop := validStaysUptoRow.holds Try.pinned (OpenSpec.upto validStaysSpec)

/-- 'januslaw06.ValidDead', WHERE WHAT IT READS IS OF BULK AT MOST 1048576: true; the input reads as it did. -/
def validDeadUptoRow : OpenClaim := { program := "ytjbpljcfogekhaa", sum := "20b8aa4689876aecdbf262cb627b4325be1b9cabccec2be9c889afcded238427", func := "janus/januslaw06.ValidDead", spec := "validDead", apart := false, narrowed := true }
def ValidDeadUptoSaid : Prop := validDeadUptoRow.holds Try.pinned (OpenSpec.upto validDeadSpec)

/-- 'januslaw06.ValidEntries', WHERE WHAT IT READS IS OF BULK AT MOST 1048576: true; the input reads as it did. -/
def validEntriesUptoRow : OpenClaim := { program := "ytjbpljcfogekhaa", sum := "20b8aa4689876aecdbf262cb627b4325be1b9cabccec2be9c889afcded238427", func := "janus/januslaw06.ValidEntries", spec := "validEntries", apart := false, narrowed := true }
def ValidEntriesUptoSaid : Prop := validEntriesUptoRow.holds Try.pinned (OpenSpec.upto validEntriesSpec)

/-- 'januslaw07.VmSafe', WHERE WHAT IT READS IS OF BULK AT MOST 1048576: true; the input reads as it did. -/
def vmSafeUptoRow : OpenClaim := { program := "ytjbpljcfogekhaa", sum := "20b8aa4689876aecdbf262cb627b4325be1b9cabccec2be9c889afcded238427", func := "janus/januslaw07.VmSafe", spec := "vmSafe", unfollowed := true, recurses := true, apart := false, narrowed := true }
def VmSafeUptoSaid : Prop := vmSafeUptoRow.holds Try.pinned (OpenSpec.upto vmSafeSpec)

/-- 'januslaw07.VmPieces', WHERE WHAT IT READS IS OF BULK AT MOST 1048576: true; the input reads as it did. -/
def vmPiecesUptoRow : OpenClaim := { program := "ytjbpljcfogekhaa", sum := "20b8aa4689876aecdbf262cb627b4325be1b9cabccec2be9c889afcded238427", func := "janus/januslaw07.VmPieces", spec := "vmPieces", unfollowed := true, recurses := true, apart := false, narrowed := true }
def VmPiecesUptoSaid : Prop := vmPiecesUptoRow.holds Try.pinned (OpenSpec.upto vmPiecesSpec)

/-- 'januslaw07.VmRules', WHERE WHAT IT READS IS OF BULK AT MOST 1048576: true; the input reads as it did. -/
def vmRulesUptoRow : OpenClaim := { program := "ytjbpljcfogekhaa", sum := "20b8aa4689876aecdbf262cb627b4325be1b9cabccec2be9c889afcded238427", func := "janus/januslaw07.VmRules", spec := "vmRules", unfollowed := true, recurses := true, apart := false, narrowed := true }
def VmRulesUptoSaid : Prop := vmRulesUptoRow.holds Try.pinned (OpenSpec.upto vmRulesSpec)

end Rows
end Go.Proofs.Ytjbpljcfogekhaa
