/-
  No cell of these rows narrows 'for every input' (looked for: loops, veiled, ifaces, maps, wideKeys, modest, calm, conditions, laid).
  DERIVED. THE GIVEN ROWS OF THIS SEAT. 6 by the template 'for every input the law returns true; each argument reads behind the call as it read before'; 0 by the template 'total and deterministic' (their statements: YtglfoihpgpdooabTotals.lean).
  GIVEN WITH THE SEED: the statements are not yours to turn. If you find one false, say at which input.
  Laid BY PROGRAM, IN A SANDBOX (cutbox-rows.mjs): the forced cells as the released guide's own fill.sh prints them over the translation 3b8baf1e2d16f278… (all of the seat's roots in one cut). By AI agents, Wed Nov 11 2026. No macro, syntax, notation, axiom, sorry.
-/
import Derived.Test.YtglfoihpgpdooabChecked
import GoSem.Claim
import GoSem.ClaimJoined
import GoSem.ClaimMapViews
import Derived.JoinedTies
import Derived.KernelRfl
namespace Go.Proofs.Ytglfoihpgpdooab
/- THE CELL 'sum', in the pinned program and in every row, IS THE sha256 OF THE DUMP (.gsa) THAT YtglfoihpgpdooabProg.lean LOADS. Nothing in Lean hashes anything: it is a label: what it is worth is what the hold of that sum in a sandbox is worth. -/
noncomputable def Try.pinned : Pinned := { name := "ytglfoihpgpdooab", sum := "3b8baf1e2d16f278232eb60cacf9bc2531aed250b0d457e40ed4a6548b9b4002", checked := Try.checked }
namespace Rows
def none {H : Type} : Left H := { results := [], args := [] }

/-- 'laws.FnVersionsValid': WHATEVER THE INPUT: true; the input reads as it did. -/
def fnVersionsValidSpec : ChangeSpec := { name := "fnVersionsValid", fn := fun _ => fun
  | [d] => { results := [.lit (.bool true)], args := [d] }
  | _ => none }
def fnVersionsValidRow : OpenClaim := { program := "ytglfoihpgpdooab", sum := "3b8baf1e2d16f278232eb60cacf9bc2531aed250b0d457e40ed4a6548b9b4002", func := "loop.example/proofarchive/laws.FnVersionsValid", spec := "fnVersionsValid", apart := false }
def FnVersionsValidSaid : Prop := fnVersionsValidRow.holds Try.pinned (OpenSpec.ofChange fnVersionsValidSpec)

/-- ITS FALSE NEIGHBOUR: 'it returns false'. Refute it at one input. -/
def fnVersionsValidWrong : ChangeSpec := { name := "fnVersionsValid", fn := fun _ => fun
  | [d] => { results := [.lit (.bool false)], args := [d] }
  | _ => none }
def FnVersionsValidWrongFalsely : Prop := fnVersionsValidRow.holds Try.pinned (OpenSpec.ofChange fnVersionsValidWrong)

/-- 'laws.FnBranchesValid': WHATEVER THE INPUT: true; the input reads as it did. -/
def fnBranchesValidSpec : ChangeSpec := { name := "fnBranchesValid", fn := fun _ => fun
  | [d] => { results := [.lit (.bool true)], args := [d] }
  | _ => none }
def fnBranchesValidRow : OpenClaim := { program := "ytglfoihpgpdooab", sum := "3b8baf1e2d16f278232eb60cacf9bc2531aed250b0d457e40ed4a6548b9b4002", func := "loop.example/proofarchive/laws.FnBranchesValid", spec := "fnBranchesValid", apart := false }
def FnBranchesValidSaid : Prop := fnBranchesValidRow.holds Try.pinned (OpenSpec.ofChange fnBranchesValidSpec)

/-- ITS FALSE NEIGHBOUR: 'it returns false'. Refute it at one input. -/
def fnBranchesValidWrong : ChangeSpec := { name := "fnBranchesValid", fn := fun _ => fun
  | [d] => { results := [.lit (.bool false)], args := [d] }
  | _ => none }
def FnBranchesValidWrongFalsely : Prop := fnBranchesValidRow.holds Try.pinned (OpenSpec.ofChange fnBranchesValidWrong)

/-- 'laws.FnLogValid': WHATEVER THE INPUT: true; the input reads as it did. -/
def fnLogValidSpec : ChangeSpec := { name := "fnLogValid", fn := fun _ => fun
  | [d] => { results := [.lit (.bool true)], args := [d] }
  | _ => none }
def fnLogValidRow : OpenClaim := { program := "ytglfoihpgpdooab", sum := "3b8baf1e2d16f278232eb60cacf9bc2531aed250b0d457e40ed4a6548b9b4002", func := "loop.example/proofarchive/laws.FnLogValid", spec := "fnLogValid", apart := false }
def FnLogValidSaid : Prop := fnLogValidRow.holds Try.pinned (OpenSpec.ofChange fnLogValidSpec)

/-- ITS FALSE NEIGHBOUR: 'it returns false'. Refute it at one input. -/
def fnLogValidWrong : ChangeSpec := { name := "fnLogValid", fn := fun _ => fun
  | [d] => { results := [.lit (.bool false)], args := [d] }
  | _ => none }
def FnLogValidWrongFalsely : Prop := fnLogValidRow.holds Try.pinned (OpenSpec.ofChange fnLogValidWrong)

/-- 'laws.FnLineOf': WHATEVER THE INPUT: true; the input reads as it did. -/
def fnLineOfSpec : ChangeSpec := { name := "fnLineOf", fn := fun _ => fun
  | [d] => { results := [.lit (.bool true)], args := [d] }
  | _ => none }
def fnLineOfRow : OpenClaim := { program := "ytglfoihpgpdooab", sum := "3b8baf1e2d16f278232eb60cacf9bc2531aed250b0d457e40ed4a6548b9b4002", func := "loop.example/proofarchive/laws.FnLineOf", spec := "fnLineOf", apart := false }
def FnLineOfSaid : Prop := fnLineOfRow.holds Try.pinned (OpenSpec.ofChange fnLineOfSpec)

/-- ITS FALSE NEIGHBOUR: 'it returns false'. Refute it at one input. -/
def fnLineOfWrong : ChangeSpec := { name := "fnLineOf", fn := fun _ => fun
  | [d] => { results := [.lit (.bool false)], args := [d] }
  | _ => none }
def FnLineOfWrongFalsely : Prop := fnLineOfRow.holds Try.pinned (OpenSpec.ofChange fnLineOfWrong)

/-- 'laws.FnExactLogCut': WHATEVER THE INPUT: true; the input reads as it did. -/
def fnExactLogCutSpec : ChangeSpec := { name := "fnExactLogCut", fn := fun _ => fun
  | [d1, d2] => { results := [.lit (.bool true)], args := [d1, d2] }
  | _ => none }
def fnExactLogCutRow : OpenClaim := { program := "ytglfoihpgpdooab", sum := "3b8baf1e2d16f278232eb60cacf9bc2531aed250b0d457e40ed4a6548b9b4002", func := "loop.example/proofarchive/laws.FnExactLogCut", spec := "fnExactLogCut", apart := false }
def FnExactLogCutSaid : Prop := fnExactLogCutRow.holds Try.pinned (OpenSpec.ofChange fnExactLogCutSpec)

/-- ITS FALSE NEIGHBOUR: 'it returns false'. Refute it at one input. -/
def fnExactLogCutWrong : ChangeSpec := { name := "fnExactLogCut", fn := fun _ => fun
  | [d1, d2] => { results := [.lit (.bool false)], args := [d1, d2] }
  | _ => none }
def FnExactLogCutWrongFalsely : Prop := fnExactLogCutRow.holds Try.pinned (OpenSpec.ofChange fnExactLogCutWrong)

/-- 'laws.FnExactNearestBoth': WHATEVER THE INPUT: true; the input reads as it did. -/
def fnExactNearestBothSpec : ChangeSpec := { name := "fnExactNearestBoth", fn := fun _ => fun
  | [d1, d2, d3] => { results := [.lit (.bool true)], args := [d1, d2, d3] }
  | _ => none }
def fnExactNearestBothRow : OpenClaim := { program := "ytglfoihpgpdooab", sum := "3b8baf1e2d16f278232eb60cacf9bc2531aed250b0d457e40ed4a6548b9b4002", func := "loop.example/proofarchive/laws.FnExactNearestBoth", spec := "fnExactNearestBoth", apart := false }
def FnExactNearestBothSaid : Prop := fnExactNearestBothRow.holds Try.pinned (OpenSpec.ofChange fnExactNearestBothSpec)

/-- ITS FALSE NEIGHBOUR: 'it returns false'. Refute it at one input. -/
def fnExactNearestBothWrong : ChangeSpec := { name := "fnExactNearestBoth", fn := fun _ => fun
  | [d1, d2, d3] => { results := [.lit (.bool false)], args := [d1, d2, d3] }
  | _ => none }
def FnExactNearestBothWrongFalsely : Prop := fnExactNearestBothRow.holds Try.pinned (OpenSpec.ofChange fnExactNearestBothWrong)

/- THE SECOND FORM. 'bulk': how many values and letters a reading holds, each counted each time it is reached (what is shared counts as often as it is met; a slice's spare places count too). A statement '..UptoSaid' is the law's where the arguments, and the package variables that the reading takes, are together of bulk at most 1048576: NARROWER than '..Said'. Prove '..Said' where nothing that the law and all that it calls make is longer than what came in: it says more and counts as full. Else prove '..UptoSaid'. A law counts once. -/
mutual
def uptoBulk {H : Type} : DataW H → Nat
  | .lit (.string bytes) => bytes.length + 1
  | .lit _ => 1
  | .nil => 1
  | .ptr d => uptoBulk d + 1
  | .slice elems spare => uptoBulkAll elems + uptoBulkAll spare + 1
  | .agg parts => uptoBulkAll parts + 1
  | .iface _ d => uptoBulk d + 1
  | .map entries => uptoBulkEntries entries + 1
  | .held _ => 1
def uptoBulkAll {H : Type} : List (DataW H) → Nat
  | [] => 0
  | d :: r => uptoBulk d + uptoBulkAll r
def uptoBulkEntries {H : Type} : List (Lit × DataW H) → Nat
  | [] => 0
  | x :: r => uptoBulkEntry x + uptoBulkEntries r
def uptoBulkEntry {H : Type} : Lit × DataW H → Nat
  | (.string bytes, d) => bytes.length + uptoBulk d + 1
  | (_, d) => uptoBulk d + 1
 end
def uptoSmall : (H : Type) → List (DataW H) → Bool := fun _ ds => decide (uptoBulkAll ds ≤ 1048576)
def OpenSpec.upto (s : _root_.Go.ChangeSpec) : _root_.Go.OpenSpec := { _root_.Go.OpenSpec.ofChange s with cond := some uptoSmall }

/-- 'laws.FnVersionsValid', WHERE WHAT IT READS IS OF BULK AT MOST 1048576: true; the input reads as it did. -/
def fnVersionsValidUptoRow : OpenClaim := { program := "ytglfoihpgpdooab", sum := "3b8baf1e2d16f278232eb60cacf9bc2531aed250b0d457e40ed4a6548b9b4002", func := "loop.example/proofarchive/laws.FnVersionsValid", spec := "fnVersionsValid", apart := false, narrowed := true }
def FnVersionsValidUptoSaid : Prop := fnVersionsValidUptoRow.holds Try.pinned (OpenSpec.upto fnVersionsValidSpec)

/-- 'laws.FnBranchesValid', WHERE WHAT IT READS IS OF BULK AT MOST 1048576: true; the input reads as it did. -/
def fnBranchesValidUptoRow : OpenClaim := { program := "ytglfoihpgpdooab", sum := "3b8baf1e2d16f278232eb60cacf9bc2531aed250b0d457e40ed4a6548b9b4002", func := "loop.example/proofarchive/laws.FnBranchesValid", spec := "fnBranchesValid", apart := false, narrowed := true }
def FnBranchesValidUptoSaid : Prop := fnBranchesValidUptoRow.holds Try.pinned (OpenSpec.upto fnBranchesValidSpec)

/-- 'laws.FnLogValid', WHERE WHAT IT READS IS OF BULK AT MOST 1048576: true; the input reads as it did. -/
def fnLogValidUptoRow : OpenClaim := { program := "ytglfoihpgpdooab", sum := "3b8baf1e2d16f278232eb60cacf9bc2531aed250b0d457e40ed4a6548b9b4002", func := "loop.example/proofarchive/laws.FnLogValid", spec := "fnLogValid", apart := false, narrowed := true }
def FnLogValidUptoSaid : Prop := fnLogValidUptoRow.holds Try.pinned (OpenSpec.upto fnLogValidSpec)

/-- 'laws.FnLineOf', WHERE WHAT IT READS IS OF BULK AT MOST 1048576: true; the input reads as it did. -/
def fnLineOfUptoRow : OpenClaim := { program := "ytglfoihpgpdooab", sum := "3b8baf1e2d16f278232eb60cacf9bc2531aed250b0d457e40ed4a6548b9b4002", func := "loop.example/proofarchive/laws.FnLineOf", spec := "fnLineOf", apart := false, narrowed := true }
def FnLineOfUptoSaid : Prop := fnLineOfUptoRow.holds Try.pinned (OpenSpec.upto fnLineOfSpec)

/-- 'laws.FnExactLogCut', WHERE WHAT IT READS IS OF BULK AT MOST 1048576: true; the input reads as it did. -/
def fnExactLogCutUptoRow : OpenClaim := { program := "ytglfoihpgpdooab", sum := "3b8baf1e2d16f278232eb60cacf9bc2531aed250b0d457e40ed4a6548b9b4002", func := "loop.example/proofarchive/laws.FnExactLogCut", spec := "fnExactLogCut", apart := false, narrowed := true }
def FnExactLogCutUptoSaid : Prop := fnExactLogCutUptoRow.holds Try.pinned (OpenSpec.upto fnExactLogCutSpec)

/-- 'laws.FnExactNearestBoth', WHERE WHAT IT READS IS OF BULK AT MOST 1048576: true; the input reads as it did. -/
def fnExactNearestBothUptoRow : OpenClaim := { program := "ytglfoihpgpdooab", sum := "3b8baf1e2d16f278232eb60cacf9bc2531aed250b0d457e40ed4a6548b9b4002", func := "loop.example/proofarchive/laws.FnExactNearestBoth", spec := "fnExactNearestBoth", apart := false, narrowed := true }
def FnExactNearestBothUptoSaid : Prop := fnExactNearestBothUptoRow.holds Try.pinned (OpenSpec.upto fnExactNearestBothSpec)

end Rows
end Go.Proofs.Ytglfoihpgpdooab
