/-
  No cell of these rows narrows 'for every input' (looked for: loops, veiled, ifaces, maps, wideKeys, modest, calm, conditions, laid).
  DERIVED. THE GIVEN ROWS OF THIS SEAT. 12 by the template 'for every input the law returns true; each argument reads behind the call as it read before'; 0 by the template 'total and deterministic' (their statements: YtbjfbmoeboagaaaTotals.lean).
  GIVEN WITH THE SEED: the statements are not yours to turn. If you find one false, say at which input.
  Laid BY PROGRAM, IN A SANDBOX (cutbox-rows.mjs): the forced cells as the released guide's own fill.sh prints them over the translation 4c0a234c4926a3a5… (all of the seat's roots in one cut). By AI agents, Wed Nov 11 2026. No macro, syntax, notation, axiom, sorry.
-/
import Derived.Test.YtbjfbmoeboagaaaChecked
import GoSem.Claim
import GoSem.ClaimJoined
import GoSem.ClaimMapViews
import Derived.JoinedTies
import Derived.KernelRfl
namespace Go.Proofs.Ytbjfbmoeboagaaa
/- THE CELL 'sum', in the pinned program and in every row, IS THE sha256 OF THE DUMP (.gsa) THAT YtbjfbmoeboagaaaProg.lean LOADS. Nothing in Lean hashes anything: it is a label: what it is worth is what the hold of that sum in a sandbox is worth. -/
noncomputable def Try.pinned : Pinned := { name := "ytbjfbmoeboagaaa", sum := "4c0a234c4926a3a576b48dd1bf0cdb4c94828e784704417e6cc2c983af1ccb90", checked := Try.checked }
namespace Rows
def none {H : Type} : Left H := { results := [], args := [] }

/-- 'laws.FnAddVersion': WHATEVER THE INPUT: true; the input reads as it did. -/
def fnAddVersionSpec : ChangeSpec := { name := "fnAddVersion", fn := fun _ => fun
  | [d] => { results := [.lit (.bool true)], args := [d] }
  | _ => none }
def fnAddVersionRow : OpenClaim := { program := "ytbjfbmoeboagaaa", sum := "4c0a234c4926a3a576b48dd1bf0cdb4c94828e784704417e6cc2c983af1ccb90", func := "loop.example/proofarchive/laws.FnAddVersion", spec := "fnAddVersion", apart := false }
def FnAddVersionSaid : Prop := fnAddVersionRow.holds Try.pinned (OpenSpec.ofChange fnAddVersionSpec)

/-- ITS FALSE NEIGHBOUR: 'it returns false'. Refute it at one input. -/
def fnAddVersionWrong : ChangeSpec := { name := "fnAddVersion", fn := fun _ => fun
  | [d] => { results := [.lit (.bool false)], args := [d] }
  | _ => none }
def FnAddVersionWrongFalsely : Prop := fnAddVersionRow.holds Try.pinned (OpenSpec.ofChange fnAddVersionWrong)

/-- 'laws.FnExactBranchAt': WHATEVER THE INPUT: true; the input reads as it did. -/
def fnExactBranchAtSpec : ChangeSpec := { name := "fnExactBranchAt", fn := fun _ => fun
  | [d1, d2, d3] => { results := [.lit (.bool true)], args := [d1, d2, d3] }
  | _ => none }
def fnExactBranchAtRow : OpenClaim := { program := "ytbjfbmoeboagaaa", sum := "4c0a234c4926a3a576b48dd1bf0cdb4c94828e784704417e6cc2c983af1ccb90", func := "loop.example/proofarchive/laws.FnExactBranchAt", spec := "fnExactBranchAt", unfollowed := true, recurses := true, apart := false }
def FnExactBranchAtSaid : Prop := fnExactBranchAtRow.holds Try.pinned (OpenSpec.ofChange fnExactBranchAtSpec)

/-- ITS FALSE NEIGHBOUR: 'it returns false'. Refute it at one input. -/
def fnExactBranchAtWrong : ChangeSpec := { name := "fnExactBranchAt", fn := fun _ => fun
  | [d1, d2, d3] => { results := [.lit (.bool false)], args := [d1, d2, d3] }
  | _ => none }
def FnExactBranchAtWrongFalsely : Prop := fnExactBranchAtRow.holds Try.pinned (OpenSpec.ofChange fnExactBranchAtWrong)

/-- 'laws.FnTipsOf': WHATEVER THE INPUT: true; the input reads as it did. -/
def fnTipsOfSpec : ChangeSpec := { name := "fnTipsOf", fn := fun _ => fun
  | [d] => { results := [.lit (.bool true)], args := [d] }
  | _ => none }
def fnTipsOfRow : OpenClaim := { program := "ytbjfbmoeboagaaa", sum := "4c0a234c4926a3a576b48dd1bf0cdb4c94828e784704417e6cc2c983af1ccb90", func := "loop.example/proofarchive/laws.FnTipsOf", spec := "fnTipsOf", apart := false }
def FnTipsOfSaid : Prop := fnTipsOfRow.holds Try.pinned (OpenSpec.ofChange fnTipsOfSpec)

/-- ITS FALSE NEIGHBOUR: 'it returns false'. Refute it at one input. -/
def fnTipsOfWrong : ChangeSpec := { name := "fnTipsOf", fn := fun _ => fun
  | [d] => { results := [.lit (.bool false)], args := [d] }
  | _ => none }
def FnTipsOfWrongFalsely : Prop := fnTipsOfRow.holds Try.pinned (OpenSpec.ofChange fnTipsOfWrong)

/-- 'laws.FnExactAddVersion': WHATEVER THE INPUT: true; the input reads as it did. -/
def fnExactAddVersionSpec : ChangeSpec := { name := "fnExactAddVersion", fn := fun _ => fun
  | [d1, d2] => { results := [.lit (.bool true)], args := [d1, d2] }
  | _ => none }
def fnExactAddVersionRow : OpenClaim := { program := "ytbjfbmoeboagaaa", sum := "4c0a234c4926a3a576b48dd1bf0cdb4c94828e784704417e6cc2c983af1ccb90", func := "loop.example/proofarchive/laws.FnExactAddVersion", spec := "fnExactAddVersion", apart := false }
def FnExactAddVersionSaid : Prop := fnExactAddVersionRow.holds Try.pinned (OpenSpec.ofChange fnExactAddVersionSpec)

/-- ITS FALSE NEIGHBOUR: 'it returns false'. Refute it at one input. -/
def fnExactAddVersionWrong : ChangeSpec := { name := "fnExactAddVersion", fn := fun _ => fun
  | [d1, d2] => { results := [.lit (.bool false)], args := [d1, d2] }
  | _ => none }
def FnExactAddVersionWrongFalsely : Prop := fnExactAddVersionRow.holds Try.pinned (OpenSpec.ofChange fnExactAddVersionWrong)

/-- 'laws.FnNearestBoth': WHATEVER THE INPUT: true; the input reads as it did. -/
def fnNearestBothSpec : ChangeSpec := { name := "fnNearestBoth", fn := fun _ => fun
  | [d] => { results := [.lit (.bool true)], args := [d] }
  | _ => none }
def fnNearestBothRow : OpenClaim := { program := "ytbjfbmoeboagaaa", sum := "4c0a234c4926a3a576b48dd1bf0cdb4c94828e784704417e6cc2c983af1ccb90", func := "loop.example/proofarchive/laws.FnNearestBoth", spec := "fnNearestBoth", apart := false }
def FnNearestBothSaid : Prop := fnNearestBothRow.holds Try.pinned (OpenSpec.ofChange fnNearestBothSpec)

/-- ITS FALSE NEIGHBOUR: 'it returns false'. Refute it at one input. -/
def fnNearestBothWrong : ChangeSpec := { name := "fnNearestBoth", fn := fun _ => fun
  | [d] => { results := [.lit (.bool false)], args := [d] }
  | _ => none }
def FnNearestBothWrongFalsely : Prop := fnNearestBothRow.holds Try.pinned (OpenSpec.ofChange fnNearestBothWrong)

/-- 'laws.FnExactLineOf': WHATEVER THE INPUT: true; the input reads as it did. -/
def fnExactLineOfSpec : ChangeSpec := { name := "fnExactLineOf", fn := fun _ => fun
  | [d1, d2] => { results := [.lit (.bool true)], args := [d1, d2] }
  | _ => none }
def fnExactLineOfRow : OpenClaim := { program := "ytbjfbmoeboagaaa", sum := "4c0a234c4926a3a576b48dd1bf0cdb4c94828e784704417e6cc2c983af1ccb90", func := "loop.example/proofarchive/laws.FnExactLineOf", spec := "fnExactLineOf", apart := false }
def FnExactLineOfSaid : Prop := fnExactLineOfRow.holds Try.pinned (OpenSpec.ofChange fnExactLineOfSpec)

/-- ITS FALSE NEIGHBOUR: 'it returns false'. Refute it at one input. -/
def fnExactLineOfWrong : ChangeSpec := { name := "fnExactLineOf", fn := fun _ => fun
  | [d1, d2] => { results := [.lit (.bool false)], args := [d1, d2] }
  | _ => none }
def FnExactLineOfWrongFalsely : Prop := fnExactLineOfRow.holds Try.pinned (OpenSpec.ofChange fnExactLineOfWrong)

/-- 'laws.FnBranchAt': WHATEVER THE INPUT: true; the input reads as it did. -/
def fnBranchAtSpec : ChangeSpec := { name := "fnBranchAt", fn := fun _ => fun
  | [d] => { results := [.lit (.bool true)], args := [d] }
  | _ => none }
def fnBranchAtRow : OpenClaim := { program := "ytbjfbmoeboagaaa", sum := "4c0a234c4926a3a576b48dd1bf0cdb4c94828e784704417e6cc2c983af1ccb90", func := "loop.example/proofarchive/laws.FnBranchAt", spec := "fnBranchAt", unfollowed := true, recurses := true, apart := false }
def FnBranchAtSaid : Prop := fnBranchAtRow.holds Try.pinned (OpenSpec.ofChange fnBranchAtSpec)

/-- ITS FALSE NEIGHBOUR: 'it returns false'. Refute it at one input. -/
def fnBranchAtWrong : ChangeSpec := { name := "fnBranchAt", fn := fun _ => fun
  | [d] => { results := [.lit (.bool false)], args := [d] }
  | _ => none }
def FnBranchAtWrongFalsely : Prop := fnBranchAtRow.holds Try.pinned (OpenSpec.ofChange fnBranchAtWrong)

/-- 'laws.FnExactTipsOf': WHATEVER THE INPUT: true; the input reads as it did. -/
def fnExactTipsOfSpec : ChangeSpec := { name := "fnExactTipsOf", fn := fun _ => fun
  | [d] => { results := [.lit (.bool true)], args := [d] }
  | _ => none }
def fnExactTipsOfRow : OpenClaim := { program := "ytbjfbmoeboagaaa", sum := "4c0a234c4926a3a576b48dd1bf0cdb4c94828e784704417e6cc2c983af1ccb90", func := "loop.example/proofarchive/laws.FnExactTipsOf", spec := "fnExactTipsOf", apart := false }
def FnExactTipsOfSaid : Prop := fnExactTipsOfRow.holds Try.pinned (OpenSpec.ofChange fnExactTipsOfSpec)

/-- ITS FALSE NEIGHBOUR: 'it returns false'. Refute it at one input. -/
def fnExactTipsOfWrong : ChangeSpec := { name := "fnExactTipsOf", fn := fun _ => fun
  | [d] => { results := [.lit (.bool false)], args := [d] }
  | _ => none }
def FnExactTipsOfWrongFalsely : Prop := fnExactTipsOfRow.holds Try.pinned (OpenSpec.ofChange fnExactTipsOfWrong)

/-- 'laws.FnExactDropBranch': WHATEVER THE INPUT: true; the input reads as it did. -/
def fnExactDropBranchSpec : ChangeSpec := { name := "fnExactDropBranch", fn := fun _ => fun
  | [d1, d2, d3] => { results := [.lit (.bool true)], args := [d1, d2, d3] }
  | _ => none }
def fnExactDropBranchRow : OpenClaim := { program := "ytbjfbmoeboagaaa", sum := "4c0a234c4926a3a576b48dd1bf0cdb4c94828e784704417e6cc2c983af1ccb90", func := "loop.example/proofarchive/laws.FnExactDropBranch", spec := "fnExactDropBranch", unfollowed := true, recurses := true, apart := false }
def FnExactDropBranchSaid : Prop := fnExactDropBranchRow.holds Try.pinned (OpenSpec.ofChange fnExactDropBranchSpec)

/-- ITS FALSE NEIGHBOUR: 'it returns false'. Refute it at one input. -/
def fnExactDropBranchWrong : ChangeSpec := { name := "fnExactDropBranch", fn := fun _ => fun
  | [d1, d2, d3] => { results := [.lit (.bool false)], args := [d1, d2, d3] }
  | _ => none }
def FnExactDropBranchWrongFalsely : Prop := fnExactDropBranchRow.holds Try.pinned (OpenSpec.ofChange fnExactDropBranchWrong)

/-- 'laws.FnDropBranch': WHATEVER THE INPUT: true; the input reads as it did. -/
def fnDropBranchSpec : ChangeSpec := { name := "fnDropBranch", fn := fun _ => fun
  | [d] => { results := [.lit (.bool true)], args := [d] }
  | _ => none }
def fnDropBranchRow : OpenClaim := { program := "ytbjfbmoeboagaaa", sum := "4c0a234c4926a3a576b48dd1bf0cdb4c94828e784704417e6cc2c983af1ccb90", func := "loop.example/proofarchive/laws.FnDropBranch", spec := "fnDropBranch", unfollowed := true, recurses := true, apart := false }
def FnDropBranchSaid : Prop := fnDropBranchRow.holds Try.pinned (OpenSpec.ofChange fnDropBranchSpec)

/-- ITS FALSE NEIGHBOUR: 'it returns false'. Refute it at one input. -/
def fnDropBranchWrong : ChangeSpec := { name := "fnDropBranch", fn := fun _ => fun
  | [d] => { results := [.lit (.bool false)], args := [d] }
  | _ => none }
def FnDropBranchWrongFalsely : Prop := fnDropBranchRow.holds Try.pinned (OpenSpec.ofChange fnDropBranchWrong)

/-- 'laws.FnExactSetBranch': WHATEVER THE INPUT: true; the input reads as it did. -/
def fnExactSetBranchSpec : ChangeSpec := { name := "fnExactSetBranch", fn := fun _ => fun
  | [d1, d2, d3] => { results := [.lit (.bool true)], args := [d1, d2, d3] }
  | _ => none }
def fnExactSetBranchRow : OpenClaim := { program := "ytbjfbmoeboagaaa", sum := "4c0a234c4926a3a576b48dd1bf0cdb4c94828e784704417e6cc2c983af1ccb90", func := "loop.example/proofarchive/laws.FnExactSetBranch", spec := "fnExactSetBranch", inPlace := ["slices.overlaps[loop.example/proofarchive/impl.Branch]"], unfollowed := true, recurses := true, apart := false }
def FnExactSetBranchSaid : Prop := fnExactSetBranchRow.holds Try.pinned (OpenSpec.ofChange fnExactSetBranchSpec)

/-- ITS FALSE NEIGHBOUR: 'it returns false'. Refute it at one input. -/
def fnExactSetBranchWrong : ChangeSpec := { name := "fnExactSetBranch", fn := fun _ => fun
  | [d1, d2, d3] => { results := [.lit (.bool false)], args := [d1, d2, d3] }
  | _ => none }
def FnExactSetBranchWrongFalsely : Prop := fnExactSetBranchRow.holds Try.pinned (OpenSpec.ofChange fnExactSetBranchWrong)

/-- 'laws.FnSetBranch': WHATEVER THE INPUT: true; the input reads as it did. -/
def fnSetBranchSpec : ChangeSpec := { name := "fnSetBranch", fn := fun _ => fun
  | [d] => { results := [.lit (.bool true)], args := [d] }
  | _ => none }
def fnSetBranchRow : OpenClaim := { program := "ytbjfbmoeboagaaa", sum := "4c0a234c4926a3a576b48dd1bf0cdb4c94828e784704417e6cc2c983af1ccb90", func := "loop.example/proofarchive/laws.FnSetBranch", spec := "fnSetBranch", inPlace := ["slices.overlaps[loop.example/proofarchive/impl.Branch]"], unfollowed := true, recurses := true, apart := false }
def FnSetBranchSaid : Prop := fnSetBranchRow.holds Try.pinned (OpenSpec.ofChange fnSetBranchSpec)

/-- ITS FALSE NEIGHBOUR: 'it returns false'. Refute it at one input. -/
def fnSetBranchWrong : ChangeSpec := { name := "fnSetBranch", fn := fun _ => fun
  | [d] => { results := [.lit (.bool false)], args := [d] }
  | _ => none }
def FnSetBranchWrongFalsely : Prop := fnSetBranchRow.holds Try.pinned (OpenSpec.ofChange fnSetBranchWrong)

/- THE SECOND FORM. 'bulk': how many values and letters a reading holds, each counted each time it is reached (what is shared counts as often as it is met; a slice's spare places count too). A statement '..UptoSaid' is the law's where the arguments, and the package variables that the reading takes, are together of bulk at most 1048576: NARROWER than '..Said'. Prove '..Said' where nothing that the law and all that it calls make is longer than what came in: it says more and counts as full. Else prove '..UptoSaid'. A law counts once. -/
mutual
def uptoBulk {H : Type} : DataW H → Nat
  | .lit (.string bytes) => bytes.length + 1
  | .lit _ => 1
  | .nil => 1
  | .ptr d => uptoBulk d + 1
  | .slice elems spare => uptoBulkAll elems + uptoBulkAll spare + 1
  | .agg parts => uptoBulkAll parts + 1
  | .iface _ d => uptoBulk d + 1
  | .map entries => uptoBulkEntries entries + 1
  | .held _ => 1
def uptoBulkAll {H : Type} : List (DataW H) → Nat
  | [] => 0
  | d :: r => uptoBulk d + uptoBulkAll r
def uptoBulkEntries {H : Type} : List (Lit × DataW H) → Nat
  | [] => 0
  | x :: r => uptoBulkEntry x + uptoBulkEntries r
def uptoBulkEntry {H : Type} : Lit × DataW H → Nat
  | (.string bytes, d) => bytes.length + uptoBulk d + 1
  | (_, d) => uptoBulk d + 1
 end
def uptoSmall : (H : Type) → List (DataW H) → Bool := fun _ ds => decide (uptoBulkAll ds ≤ 1048576)
def OpenSpec.upto (s : _root_.Go.ChangeSpec) : _root_.Go.OpenSpec := { _root_.Go.OpenSpec.ofChange s with cond := some uptoSmall }

/-- 'laws.FnAddVersion', WHERE WHAT IT READS IS OF BULK AT MOST 1048576: true; the input reads as it did. -/
def fnAddVersionUptoRow : OpenClaim := { program := "ytbjfbmoeboagaaa", sum := "4c0a234c4926a3a576b48dd1bf0cdb4c94828e784704417e6cc2c983af1ccb90", func := "loop.example/proofarchive/laws.FnAddVersion", spec := "fnAddVersion", apart := false, narrowed := true }
def FnAddVersionUptoSaid : Prop := fnAddVersionUptoRow.holds Try.pinned (OpenSpec.upto fnAddVersionSpec)

/-- 'laws.FnExactBranchAt', WHERE WHAT IT READS IS OF BULK AT MOST 1048576: true; the input reads as it did. -/
def fnExactBranchAtUptoRow : OpenClaim := { program := "ytbjfbmoeboagaaa", sum := "4c0a234c4926a3a576b48dd1bf0cdb4c94828e784704417e6cc2c983af1ccb90", func := "loop.example/proofarchive/laws.FnExactBranchAt", spec := "fnExactBranchAt", unfollowed := true, recurses := true, apart := false, narrowed := true }
def FnExactBranchAtUptoSaid : Prop := fnExactBranchAtUptoRow.holds Try.pinned (OpenSpec.upto fnExactBranchAtSpec)

/-- 'laws.FnTipsOf', WHERE WHAT IT READS IS OF BULK AT MOST 1048576: true; the input reads as it did. -/
def fnTipsOfUptoRow : OpenClaim := { program := "ytbjfbmoeboagaaa", sum := "4c0a234c4926a3a576b48dd1bf0cdb4c94828e784704417e6cc2c983af1ccb90", func := "loop.example/proofarchive/laws.FnTipsOf", spec := "fnTipsOf", apart := false, narrowed := true }
def FnTipsOfUptoSaid : Prop := fnTipsOfUptoRow.holds Try.pinned (OpenSpec.upto fnTipsOfSpec)

/-- 'laws.FnExactAddVersion', WHERE WHAT IT READS IS OF BULK AT MOST 1048576: true; the input reads as it did. -/
def fnExactAddVersionUptoRow : OpenClaim := { program := "ytbjfbmoeboagaaa", sum := "4c0a234c4926a3a576b48dd1bf0cdb4c94828e784704417e6cc2c983af1ccb90", func := "loop.example/proofarchive/laws.FnExactAddVersion", spec := "fnExactAddVersion", apart := false, narrowed := true }
def FnExactAddVersionUptoSaid : Prop := fnExactAddVersionUptoRow.holds Try.pinned (OpenSpec.upto fnExactAddVersionSpec)

/-- 'laws.FnNearestBoth', WHERE WHAT IT READS IS OF BULK AT MOST 1048576: true; the input reads as it did. -/
def fnNearestBothUptoRow : OpenClaim := { program := "ytbjfbmoeboagaaa", sum := "4c0a234c4926a3a576b48dd1bf0cdb4c94828e784704417e6cc2c983af1ccb90", func := "loop.example/proofarchive/laws.FnNearestBoth", spec := "fnNearestBoth", apart := false, narrowed := true }
def FnNearestBothUptoSaid : Prop := fnNearestBothUptoRow.holds Try.pinned (OpenSpec.upto fnNearestBothSpec)

/-- 'laws.FnExactLineOf', WHERE WHAT IT READS IS OF BULK AT MOST 1048576: true; the input reads as it did. -/
def fnExactLineOfUptoRow : OpenClaim := { program := "ytbjfbmoeboagaaa", sum := "4c0a234c4926a3a576b48dd1bf0cdb4c94828e784704417e6cc2c983af1ccb90", func := "loop.example/proofarchive/laws.FnExactLineOf", spec := "fnExactLineOf", apart := false, narrowed := true }
def FnExactLineOfUptoSaid : Prop := fnExactLineOfUptoRow.holds Try.pinned (OpenSpec.upto fnExactLineOfSpec)

/-- 'laws.FnBranchAt', WHERE WHAT IT READS IS OF BULK AT MOST 1048576: true; the input reads as it did. -/
def fnBranchAtUptoRow : OpenClaim := { program := "ytbjfbmoeboagaaa", sum := "4c0a234c4926a3a576b48dd1bf0cdb4c94828e784704417e6cc2c983af1ccb90", func := "loop.example/proofarchive/laws.FnBranchAt", spec := "fnBranchAt", unfollowed := true, recurses := true, apart := false, narrowed := true }
def FnBranchAtUptoSaid : Prop := fnBranchAtUptoRow.holds Try.pinned (OpenSpec.upto fnBranchAtSpec)

/-- 'laws.FnExactTipsOf', WHERE WHAT IT READS IS OF BULK AT MOST 1048576: true; the input reads as it did. -/
def fnExactTipsOfUptoRow : OpenClaim := { program := "ytbjfbmoeboagaaa", sum := "4c0a234c4926a3a576b48dd1bf0cdb4c94828e784704417e6cc2c983af1ccb90", func := "loop.example/proofarchive/laws.FnExactTipsOf", spec := "fnExactTipsOf", apart := false, narrowed := true }
def FnExactTipsOfUptoSaid : Prop := fnExactTipsOfUptoRow.holds Try.pinned (OpenSpec.upto fnExactTipsOfSpec)

/-- 'laws.FnExactDropBranch', WHERE WHAT IT READS IS OF BULK AT MOST 1048576: true; the input reads as it did. -/
def fnExactDropBranchUptoRow : OpenClaim := { program := "ytbjfbmoeboagaaa", sum := "4c0a234c4926a3a576b48dd1bf0cdb4c94828e784704417e6cc2c983af1ccb90", func := "loop.example/proofarchive/laws.FnExactDropBranch", spec := "fnExactDropBranch", unfollowed := true, recurses := true, apart := false, narrowed := true }
def FnExactDropBranchUptoSaid : Prop := fnExactDropBranchUptoRow.holds Try.pinned (OpenSpec.upto fnExactDropBranchSpec)

/-- 'laws.FnDropBranch', WHERE WHAT IT READS IS OF BULK AT MOST 1048576: true; the input reads as it did. -/
def fnDropBranchUptoRow : OpenClaim := { program := "ytbjfbmoeboagaaa", sum := "4c0a234c4926a3a576b48dd1bf0cdb4c94828e784704417e6cc2c983af1ccb90", func := "loop.example/proofarchive/laws.FnDropBranch", spec := "fnDropBranch", unfollowed := true, recurses := true, apart := false, narrowed := true }
def FnDropBranchUptoSaid : Prop := fnDropBranchUptoRow.holds Try.pinned (OpenSpec.upto fnDropBranchSpec)

/-- 'laws.FnExactSetBranch', WHERE WHAT IT READS IS OF BULK AT MOST 1048576: true; the input reads as it did. -/
def fnExactSetBranchUptoRow : OpenClaim := { program := "ytbjfbmoeboagaaa", sum := "4c0a234c4926a3a576b48dd1bf0cdb4c94828e784704417e6cc2c983af1ccb90", func := "loop.example/proofarchive/laws.FnExactSetBranch", spec := "fnExactSetBranch", inPlace := ["slices.overlaps[loop.example/proofarchive/impl.Branch]"], unfollowed := true, recurses := true, apart := false, narrowed := true }
def FnExactSetBranchUptoSaid : Prop := fnExactSetBranchUptoRow.holds Try.pinned (OpenSpec.upto fnExactSetBranchSpec)

/-- 'laws.FnSetBranch', WHERE WHAT IT READS IS OF BULK AT MOST 1048576: true; the input reads as it did. -/
def fnSetBranchUptoRow : OpenClaim := { program := "ytbjfbmoeboagaaa", sum := "4c0a234c4926a3a576b48dd1bf0cdb4c94828e784704417e6cc2c983af1ccb90", func := "loop.example/proofarchive/laws.FnSetBranch", spec := "fnSetBranch", inPlace := ["slices.overlaps[loop.example/proofarchive/impl.Branch]"], unfollowed := true, recurses := true, apart := false, narrowed := true }
def FnSetBranchUptoSaid : Prop := fnSetBranchUptoRow.holds Try.pinned (OpenSpec.upto fnSetBranchSpec)

end Rows
end Go.Proofs.Ytbjfbmoeboagaaa
