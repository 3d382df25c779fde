/-
  No cell of these rows narrows 'for every input' (looked for: loops, veiled, ifaces, maps, wideKeys, modest, calm, conditions, laid).
  DERIVED. THE GIVEN ROWS OF THIS SEAT. 6 by the template 'for every input the law returns true; each argument reads behind the call as it read before'; 0 by the template 'total and deterministic' (their statements: YtglfoihpgpdooaaTotals.lean).
  GIVEN WITH THE SEED: the statements are not yours to turn. If you find one false, say at which input.
  Laid BY PROGRAM, IN A SANDBOX (cutbox-rows.mjs): the forced cells as the released guide's own fill.sh prints them over the translation 7f5ab936e1578337… (all of the seat's roots in one cut). By AI agents, Wed Nov 11 2026. No macro, syntax, notation, axiom, sorry.
-/
import Derived.Test.YtglfoihpgpdooaaChecked
import GoSem.Claim
import GoSem.ClaimJoined
import GoSem.ClaimMapViews
import Derived.JoinedTies
import Derived.KernelRfl
namespace Go.Proofs.Ytglfoihpgpdooaa
/- THE CELL 'sum', in the pinned program and in every row, IS THE sha256 OF THE DUMP (.gsa) THAT YtglfoihpgpdooaaProg.lean LOADS. Nothing in Lean hashes anything: it is a label: what it is worth is what the hold of that sum in a sandbox is worth. -/
noncomputable def Try.pinned : Pinned := { name := "ytglfoihpgpdooaa", sum := "7f5ab936e1578337e12583912b6b0ed315ea625f358f1b904f6bce4350d2b0a2", checked := Try.checked }
namespace Rows
def none {H : Type} : Left H := { results := [], args := [] }

/-- 'laws.FnExactMergePrint': WHATEVER THE INPUT: true; the input reads as it did. -/
def fnExactMergePrintSpec : ChangeSpec := { name := "fnExactMergePrint", fn := fun _ => fun
  | [d1, d2, d3] => { results := [.lit (.bool true)], args := [d1, d2, d3] }
  | _ => none }
def fnExactMergePrintRow : OpenClaim := { program := "ytglfoihpgpdooaa", sum := "7f5ab936e1578337e12583912b6b0ed315ea625f358f1b904f6bce4350d2b0a2", func := "loop.example/proofarchive/laws.FnExactMergePrint", spec := "fnExactMergePrint", apart := false }
def FnExactMergePrintSaid : Prop := fnExactMergePrintRow.holds Try.pinned (OpenSpec.ofChange fnExactMergePrintSpec)

/-- ITS FALSE NEIGHBOUR: 'it returns false'. Refute it at one input. -/
def fnExactMergePrintWrong : ChangeSpec := { name := "fnExactMergePrint", fn := fun _ => fun
  | [d1, d2, d3] => { results := [.lit (.bool false)], args := [d1, d2, d3] }
  | _ => none }
def FnExactMergePrintWrongFalsely : Prop := fnExactMergePrintRow.holds Try.pinned (OpenSpec.ofChange fnExactMergePrintWrong)

/-- 'laws.FnExactCountKind': WHATEVER THE INPUT: true; the input reads as it did. -/
def fnExactCountKindSpec : ChangeSpec := { name := "fnExactCountKind", fn := fun _ => fun
  | [d1, d2] => { results := [.lit (.bool true)], args := [d1, d2] }
  | _ => none }
def fnExactCountKindRow : OpenClaim := { program := "ytglfoihpgpdooaa", sum := "7f5ab936e1578337e12583912b6b0ed315ea625f358f1b904f6bce4350d2b0a2", func := "loop.example/proofarchive/laws.FnExactCountKind", spec := "fnExactCountKind", apart := false }
def FnExactCountKindSaid : Prop := fnExactCountKindRow.holds Try.pinned (OpenSpec.ofChange fnExactCountKindSpec)

/-- ITS FALSE NEIGHBOUR: 'it returns false'. Refute it at one input. -/
def fnExactCountKindWrong : ChangeSpec := { name := "fnExactCountKind", fn := fun _ => fun
  | [d1, d2] => { results := [.lit (.bool false)], args := [d1, d2] }
  | _ => none }
def FnExactCountKindWrongFalsely : Prop := fnExactCountKindRow.holds Try.pinned (OpenSpec.ofChange fnExactCountKindWrong)

/-- 'laws.FnMergePrint': WHATEVER THE INPUT: true; the input reads as it did. -/
def fnMergePrintSpec : ChangeSpec := { name := "fnMergePrint", fn := fun _ => fun
  | [d] => { results := [.lit (.bool true)], args := [d] }
  | _ => none }
def fnMergePrintRow : OpenClaim := { program := "ytglfoihpgpdooaa", sum := "7f5ab936e1578337e12583912b6b0ed315ea625f358f1b904f6bce4350d2b0a2", func := "loop.example/proofarchive/laws.FnMergePrint", spec := "fnMergePrint", apart := false }
def FnMergePrintSaid : Prop := fnMergePrintRow.holds Try.pinned (OpenSpec.ofChange fnMergePrintSpec)

/-- ITS FALSE NEIGHBOUR: 'it returns false'. Refute it at one input. -/
def fnMergePrintWrong : ChangeSpec := { name := "fnMergePrint", fn := fun _ => fun
  | [d] => { results := [.lit (.bool false)], args := [d] }
  | _ => none }
def FnMergePrintWrongFalsely : Prop := fnMergePrintRow.holds Try.pinned (OpenSpec.ofChange fnMergePrintWrong)

/-- 'laws.FnExactLogValid': WHATEVER THE INPUT: true; the input reads as it did. -/
def fnExactLogValidSpec : ChangeSpec := { name := "fnExactLogValid", fn := fun _ => fun
  | [d] => { results := [.lit (.bool true)], args := [d] }
  | _ => none }
def fnExactLogValidRow : OpenClaim := { program := "ytglfoihpgpdooaa", sum := "7f5ab936e1578337e12583912b6b0ed315ea625f358f1b904f6bce4350d2b0a2", func := "loop.example/proofarchive/laws.FnExactLogValid", spec := "fnExactLogValid", apart := false }
def FnExactLogValidSaid : Prop := fnExactLogValidRow.holds Try.pinned (OpenSpec.ofChange fnExactLogValidSpec)

/-- ITS FALSE NEIGHBOUR: 'it returns false'. Refute it at one input. -/
def fnExactLogValidWrong : ChangeSpec := { name := "fnExactLogValid", fn := fun _ => fun
  | [d] => { results := [.lit (.bool false)], args := [d] }
  | _ => none }
def FnExactLogValidWrongFalsely : Prop := fnExactLogValidRow.holds Try.pinned (OpenSpec.ofChange fnExactLogValidWrong)

/-- 'laws.FnExactBranchesValid': WHATEVER THE INPUT: true; the input reads as it did. -/
def fnExactBranchesValidSpec : ChangeSpec := { name := "fnExactBranchesValid", fn := fun _ => fun
  | [d1, d2] => { results := [.lit (.bool true)], args := [d1, d2] }
  | _ => none }
def fnExactBranchesValidRow : OpenClaim := { program := "ytglfoihpgpdooaa", sum := "7f5ab936e1578337e12583912b6b0ed315ea625f358f1b904f6bce4350d2b0a2", func := "loop.example/proofarchive/laws.FnExactBranchesValid", spec := "fnExactBranchesValid", apart := false }
def FnExactBranchesValidSaid : Prop := fnExactBranchesValidRow.holds Try.pinned (OpenSpec.ofChange fnExactBranchesValidSpec)

/-- ITS FALSE NEIGHBOUR: 'it returns false'. Refute it at one input. -/
def fnExactBranchesValidWrong : ChangeSpec := { name := "fnExactBranchesValid", fn := fun _ => fun
  | [d1, d2] => { results := [.lit (.bool false)], args := [d1, d2] }
  | _ => none }
def FnExactBranchesValidWrongFalsely : Prop := fnExactBranchesValidRow.holds Try.pinned (OpenSpec.ofChange fnExactBranchesValidWrong)

/-- 'laws.FnExactVersionsValid': WHATEVER THE INPUT: true; the input reads as it did. -/
def fnExactVersionsValidSpec : ChangeSpec := { name := "fnExactVersionsValid", fn := fun _ => fun
  | [d] => { results := [.lit (.bool true)], args := [d] }
  | _ => none }
def fnExactVersionsValidRow : OpenClaim := { program := "ytglfoihpgpdooaa", sum := "7f5ab936e1578337e12583912b6b0ed315ea625f358f1b904f6bce4350d2b0a2", func := "loop.example/proofarchive/laws.FnExactVersionsValid", spec := "fnExactVersionsValid", apart := false }
def FnExactVersionsValidSaid : Prop := fnExactVersionsValidRow.holds Try.pinned (OpenSpec.ofChange fnExactVersionsValidSpec)

/-- ITS FALSE NEIGHBOUR: 'it returns false'. Refute it at one input. -/
def fnExactVersionsValidWrong : ChangeSpec := { name := "fnExactVersionsValid", fn := fun _ => fun
  | [d] => { results := [.lit (.bool false)], args := [d] }
  | _ => none }
def FnExactVersionsValidWrongFalsely : Prop := fnExactVersionsValidRow.holds Try.pinned (OpenSpec.ofChange fnExactVersionsValidWrong)

/- THE SECOND FORM. 'bulk': how many values and letters a reading holds, each counted each time it is reached (what is shared counts as often as it is met; a slice's spare places count too). A statement '..UptoSaid' is the law's where the arguments, and the package variables that the reading takes, are together of bulk at most 1048576: NARROWER than '..Said'. Prove '..Said' where nothing that the law and all that it calls make is longer than what came in: it says more and counts as full. Else prove '..UptoSaid'. A law counts once. -/
mutual
def uptoBulk {H : Type} : DataW H → Nat
  | .lit (.string bytes) => bytes.length + 1
  | .lit _ => 1
  | .nil => 1
  | .ptr d => uptoBulk d + 1
  | .slice elems spare => uptoBulkAll elems + uptoBulkAll spare + 1
  | .agg parts => uptoBulkAll parts + 1
  | .iface _ d => uptoBulk d + 1
  | .map entries => uptoBulkEntries entries + 1
  | .held _ => 1
def uptoBulkAll {H : Type} : List (DataW H) → Nat
  | [] => 0
  | d :: r => uptoBulk d + uptoBulkAll r
def uptoBulkEntries {H : Type} : List (Lit × DataW H) → Nat
  | [] => 0
  | x :: r => uptoBulkEntry x + uptoBulkEntries r
def uptoBulkEntry {H : Type} : Lit × DataW H → Nat
  | (.string bytes, d) => bytes.length + uptoBulk d + 1
  | (_, d) => uptoBulk d + 1
 end
def uptoSmall : (H : Type) → List (DataW H) → Bool := fun _ ds => decide (uptoBulkAll ds ≤ 1048576)
def OpenSpec.upto (s : _root_.Go.ChangeSpec) : _root_.Go.OpenSpec := { _root_.Go.OpenSpec.ofChange s with cond := some uptoSmall }

/-- 'laws.FnExactMergePrint', WHERE WHAT IT READS IS OF BULK AT MOST 1048576: true; the input reads as it did. -/
def fnExactMergePrintUptoRow : OpenClaim := { program := "ytglfoihpgpdooaa", sum := "7f5ab936e1578337e12583912b6b0ed315ea625f358f1b904f6bce4350d2b0a2", func := "loop.example/proofarchive/laws.FnExactMergePrint", spec := "fnExactMergePrint", apart := false, narrowed := true }
def FnExactMergePrintUptoSaid : Prop := fnExactMergePrintUptoRow.holds Try.pinned (OpenSpec.upto fnExactMergePrintSpec)

/-- 'laws.FnExactCountKind', WHERE WHAT IT READS IS OF BULK AT MOST 1048576: true; the input reads as it did. -/
def fnExactCountKindUptoRow : OpenClaim := { program := "ytglfoihpgpdooaa", sum := "7f5ab936e1578337e12583912b6b0ed315ea625f358f1b904f6bce4350d2b0a2", func := "loop.example/proofarchive/laws.FnExactCountKind", spec := "fnExactCountKind", apart := false, narrowed := true }
def FnExactCountKindUptoSaid : Prop := fnExactCountKindUptoRow.holds Try.pinned (OpenSpec.upto fnExactCountKindSpec)

/-- 'laws.FnMergePrint', WHERE WHAT IT READS IS OF BULK AT MOST 1048576: true; the input reads as it did. -/
def fnMergePrintUptoRow : OpenClaim := { program := "ytglfoihpgpdooaa", sum := "7f5ab936e1578337e12583912b6b0ed315ea625f358f1b904f6bce4350d2b0a2", func := "loop.example/proofarchive/laws.FnMergePrint", spec := "fnMergePrint", apart := false, narrowed := true }
def FnMergePrintUptoSaid : Prop := fnMergePrintUptoRow.holds Try.pinned (OpenSpec.upto fnMergePrintSpec)

/-- 'laws.FnExactLogValid', WHERE WHAT IT READS IS OF BULK AT MOST 1048576: true; the input reads as it did. -/
def fnExactLogValidUptoRow : OpenClaim := { program := "ytglfoihpgpdooaa", sum := "7f5ab936e1578337e12583912b6b0ed315ea625f358f1b904f6bce4350d2b0a2", func := "loop.example/proofarchive/laws.FnExactLogValid", spec := "fnExactLogValid", apart := false, narrowed := true }
def FnExactLogValidUptoSaid : Prop := fnExactLogValidUptoRow.holds Try.pinned (OpenSpec.upto fnExactLogValidSpec)

/-- 'laws.FnExactBranchesValid', WHERE WHAT IT READS IS OF BULK AT MOST 1048576: true; the input reads as it did. -/
def fnExactBranchesValidUptoRow : OpenClaim := { program := "ytglfoihpgpdooaa", sum := "7f5ab936e1578337e12583912b6b0ed315ea625f358f1b904f6bce4350d2b0a2", func := "loop.example/proofarchive/laws.FnExactBranchesValid", spec := "fnExactBranchesValid", apart := false, narrowed := true }
def FnExactBranchesValidUptoSaid : Prop := fnExactBranchesValidUptoRow.holds Try.pinned (OpenSpec.upto fnExactBranchesValidSpec)

/-- 'laws.FnExactVersionsValid', WHERE WHAT IT READS IS OF BULK AT MOST 1048576: true; the input reads as it did. -/
def fnExactVersionsValidUptoRow : OpenClaim := { program := "ytglfoihpgpdooaa", sum := "7f5ab936e1578337e12583912b6b0ed315ea625f358f1b904f6bce4350d2b0a2", func := "loop.example/proofarchive/laws.FnExactVersionsValid", spec := "fnExactVersionsValid", apart := false, narrowed := true }
def FnExactVersionsValidUptoSaid : Prop := fnExactVersionsValidUptoRow.holds Try.pinned (OpenSpec.upto fnExactVersionsValidSpec)

end Rows
end Go.Proofs.Ytglfoihpgpdooaa
