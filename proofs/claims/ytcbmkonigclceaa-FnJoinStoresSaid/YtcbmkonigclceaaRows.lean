/-
  No cell of these rows narrows 'for every input' (looked for: loops, veiled, ifaces, maps, wideKeys, modest, calm, conditions, laid).
  DERIVED. THE GIVEN ROWS OF THIS SEAT. 13 by the template 'for every input the law returns true; each argument reads behind the call as it read before'; 0 by the template 'total and deterministic' (their statements: YtcbmkonigclceaaTotals.lean).
  GIVEN WITH THE SEED: the statements are not yours to turn. If you find one false, say at which input.
  Laid BY PROGRAM, IN A SANDBOX (cutbox-rows.mjs): the forced cells as the released guide's own fill.sh prints them over the translation d248666b739096d1… (all of the seat's roots in one cut). By AI agents, Wed Nov 11 2026. No macro, syntax, notation, axiom, sorry.
-/
import Derived.Test.YtcbmkonigclceaaChecked
import GoSem.Claim
import GoSem.ClaimJoined
import GoSem.ClaimMapViews
import Derived.JoinedTies
import Derived.KernelRfl
namespace Go.Proofs.Ytcbmkonigclceaa
/- THE CELL 'sum', in the pinned program and in every row, IS THE sha256 OF THE DUMP (.gsa) THAT YtcbmkonigclceaaProg.lean LOADS. Nothing in Lean hashes anything: it is a label: what it is worth is what the hold of that sum in a sandbox is worth. -/
noncomputable def Try.pinned : Pinned := { name := "ytcbmkonigclceaa", sum := "d248666b739096d186583e61e9871161300b8b7dbc867e51ecea505a2dd0d317", checked := Try.checked }
namespace Rows
def none {H : Type} : Left H := { results := [], args := [] }

/-- 'laws.FnExactLogLost': WHATEVER THE INPUT: true; the input reads as it did. -/
def fnExactLogLostSpec : ChangeSpec := { name := "fnExactLogLost", fn := fun _ => fun
  | [d] => { results := [.lit (.bool true)], args := [d] }
  | _ => none }
def fnExactLogLostRow : OpenClaim := { program := "ytcbmkonigclceaa", sum := "d248666b739096d186583e61e9871161300b8b7dbc867e51ecea505a2dd0d317", func := "loop.example/proofarchive/laws.FnExactLogLost", spec := "fnExactLogLost", apart := false }
def FnExactLogLostSaid : Prop := fnExactLogLostRow.holds Try.pinned (OpenSpec.ofChange fnExactLogLostSpec)

/-- ITS FALSE NEIGHBOUR: 'it returns false'. Refute it at one input. -/
def fnExactLogLostWrong : ChangeSpec := { name := "fnExactLogLost", fn := fun _ => fun
  | [d] => { results := [.lit (.bool false)], args := [d] }
  | _ => none }
def FnExactLogLostWrongFalsely : Prop := fnExactLogLostRow.holds Try.pinned (OpenSpec.ofChange fnExactLogLostWrong)

/-- 'laws.FnExactLogDone': WHATEVER THE INPUT: true; the input reads as it did. -/
def fnExactLogDoneSpec : ChangeSpec := { name := "fnExactLogDone", fn := fun _ => fun
  | [d] => { results := [.lit (.bool true)], args := [d] }
  | _ => none }
def fnExactLogDoneRow : OpenClaim := { program := "ytcbmkonigclceaa", sum := "d248666b739096d186583e61e9871161300b8b7dbc867e51ecea505a2dd0d317", func := "loop.example/proofarchive/laws.FnExactLogDone", spec := "fnExactLogDone", apart := false }
def FnExactLogDoneSaid : Prop := fnExactLogDoneRow.holds Try.pinned (OpenSpec.ofChange fnExactLogDoneSpec)

/-- ITS FALSE NEIGHBOUR: 'it returns false'. Refute it at one input. -/
def fnExactLogDoneWrong : ChangeSpec := { name := "fnExactLogDone", fn := fun _ => fun
  | [d] => { results := [.lit (.bool false)], args := [d] }
  | _ => none }
def FnExactLogDoneWrongFalsely : Prop := fnExactLogDoneRow.holds Try.pinned (OpenSpec.ofChange fnExactLogDoneWrong)

/-- 'laws.FnLogDone': WHATEVER THE INPUT: true; the input reads as it did. -/
def fnLogDoneSpec : ChangeSpec := { name := "fnLogDone", fn := fun _ => fun
  | [d] => { results := [.lit (.bool true)], args := [d] }
  | _ => none }
def fnLogDoneRow : OpenClaim := { program := "ytcbmkonigclceaa", sum := "d248666b739096d186583e61e9871161300b8b7dbc867e51ecea505a2dd0d317", func := "loop.example/proofarchive/laws.FnLogDone", spec := "fnLogDone", apart := false }
def FnLogDoneSaid : Prop := fnLogDoneRow.holds Try.pinned (OpenSpec.ofChange fnLogDoneSpec)

/-- ITS FALSE NEIGHBOUR: 'it returns false'. Refute it at one input. -/
def fnLogDoneWrong : ChangeSpec := { name := "fnLogDone", fn := fun _ => fun
  | [d] => { results := [.lit (.bool false)], args := [d] }
  | _ => none }
def FnLogDoneWrongFalsely : Prop := fnLogDoneRow.holds Try.pinned (OpenSpec.ofChange fnLogDoneWrong)

/-- 'laws.FnLogCut': WHATEVER THE INPUT: true; the input reads as it did. -/
def fnLogCutSpec : ChangeSpec := { name := "fnLogCut", fn := fun _ => fun
  | [d] => { results := [.lit (.bool true)], args := [d] }
  | _ => none }
def fnLogCutRow : OpenClaim := { program := "ytcbmkonigclceaa", sum := "d248666b739096d186583e61e9871161300b8b7dbc867e51ecea505a2dd0d317", func := "loop.example/proofarchive/laws.FnLogCut", spec := "fnLogCut", apart := false }
def FnLogCutSaid : Prop := fnLogCutRow.holds Try.pinned (OpenSpec.ofChange fnLogCutSpec)

/-- ITS FALSE NEIGHBOUR: 'it returns false'. Refute it at one input. -/
def fnLogCutWrong : ChangeSpec := { name := "fnLogCut", fn := fun _ => fun
  | [d] => { results := [.lit (.bool false)], args := [d] }
  | _ => none }
def FnLogCutWrongFalsely : Prop := fnLogCutRow.holds Try.pinned (OpenSpec.ofChange fnLogCutWrong)

/-- 'laws.FnLogLost': WHATEVER THE INPUT: true; the input reads as it did. -/
def fnLogLostSpec : ChangeSpec := { name := "fnLogLost", fn := fun _ => fun
  | [d] => { results := [.lit (.bool true)], args := [d] }
  | _ => none }
def fnLogLostRow : OpenClaim := { program := "ytcbmkonigclceaa", sum := "d248666b739096d186583e61e9871161300b8b7dbc867e51ecea505a2dd0d317", func := "loop.example/proofarchive/laws.FnLogLost", spec := "fnLogLost", apart := false }
def FnLogLostSaid : Prop := fnLogLostRow.holds Try.pinned (OpenSpec.ofChange fnLogLostSpec)

/-- ITS FALSE NEIGHBOUR: 'it returns false'. Refute it at one input. -/
def fnLogLostWrong : ChangeSpec := { name := "fnLogLost", fn := fun _ => fun
  | [d] => { results := [.lit (.bool false)], args := [d] }
  | _ => none }
def FnLogLostWrongFalsely : Prop := fnLogLostRow.holds Try.pinned (OpenSpec.ofChange fnLogLostWrong)

/-- 'laws.FnExactLogAdd': WHATEVER THE INPUT: true; the input reads as it did. -/
def fnExactLogAddSpec : ChangeSpec := { name := "fnExactLogAdd", fn := fun _ => fun
  | [d1, d2] => { results := [.lit (.bool true)], args := [d1, d2] }
  | _ => none }
def fnExactLogAddRow : OpenClaim := { program := "ytcbmkonigclceaa", sum := "d248666b739096d186583e61e9871161300b8b7dbc867e51ecea505a2dd0d317", func := "loop.example/proofarchive/laws.FnExactLogAdd", spec := "fnExactLogAdd", apart := false }
def FnExactLogAddSaid : Prop := fnExactLogAddRow.holds Try.pinned (OpenSpec.ofChange fnExactLogAddSpec)

/-- ITS FALSE NEIGHBOUR: 'it returns false'. Refute it at one input. -/
def fnExactLogAddWrong : ChangeSpec := { name := "fnExactLogAdd", fn := fun _ => fun
  | [d1, d2] => { results := [.lit (.bool false)], args := [d1, d2] }
  | _ => none }
def FnExactLogAddWrongFalsely : Prop := fnExactLogAddRow.holds Try.pinned (OpenSpec.ofChange fnExactLogAddWrong)

/-- 'laws.FnLogAdd': WHATEVER THE INPUT: true; the input reads as it did. -/
def fnLogAddSpec : ChangeSpec := { name := "fnLogAdd", fn := fun _ => fun
  | [d] => { results := [.lit (.bool true)], args := [d] }
  | _ => none }
def fnLogAddRow : OpenClaim := { program := "ytcbmkonigclceaa", sum := "d248666b739096d186583e61e9871161300b8b7dbc867e51ecea505a2dd0d317", func := "loop.example/proofarchive/laws.FnLogAdd", spec := "fnLogAdd", apart := false }
def FnLogAddSaid : Prop := fnLogAddRow.holds Try.pinned (OpenSpec.ofChange fnLogAddSpec)

/-- ITS FALSE NEIGHBOUR: 'it returns false'. Refute it at one input. -/
def fnLogAddWrong : ChangeSpec := { name := "fnLogAdd", fn := fun _ => fun
  | [d] => { results := [.lit (.bool false)], args := [d] }
  | _ => none }
def FnLogAddWrongFalsely : Prop := fnLogAddRow.holds Try.pinned (OpenSpec.ofChange fnLogAddWrong)

/-- 'laws.FnExactPackLog': WHATEVER THE INPUT: true; the input reads as it did. -/
def fnExactPackLogSpec : ChangeSpec := { name := "fnExactPackLog", fn := fun _ => fun
  | [d] => { results := [.lit (.bool true)], args := [d] }
  | _ => none }
def fnExactPackLogRow : OpenClaim := { program := "ytcbmkonigclceaa", sum := "d248666b739096d186583e61e9871161300b8b7dbc867e51ecea505a2dd0d317", func := "loop.example/proofarchive/laws.FnExactPackLog", spec := "fnExactPackLog", apart := false }
def FnExactPackLogSaid : Prop := fnExactPackLogRow.holds Try.pinned (OpenSpec.ofChange fnExactPackLogSpec)

/-- ITS FALSE NEIGHBOUR: 'it returns false'. Refute it at one input. -/
def fnExactPackLogWrong : ChangeSpec := { name := "fnExactPackLog", fn := fun _ => fun
  | [d] => { results := [.lit (.bool false)], args := [d] }
  | _ => none }
def FnExactPackLogWrongFalsely : Prop := fnExactPackLogRow.holds Try.pinned (OpenSpec.ofChange fnExactPackLogWrong)

/-- 'laws.FnExactRecoverStore': WHATEVER THE INPUT: true; the input reads as it did. -/
def fnExactRecoverStoreSpec : ChangeSpec := { name := "fnExactRecoverStore", fn := fun _ => fun
  | [d] => { results := [.lit (.bool true)], args := [d] }
  | _ => none }
def fnExactRecoverStoreRow : OpenClaim := { program := "ytcbmkonigclceaa", sum := "d248666b739096d186583e61e9871161300b8b7dbc867e51ecea505a2dd0d317", func := "loop.example/proofarchive/laws.FnExactRecoverStore", spec := "fnExactRecoverStore", inPlace := ["slices.overlaps[loop.example/proofarchive/impl.Piece]"], unfollowed := true, recurses := true, apart := false }
def FnExactRecoverStoreSaid : Prop := fnExactRecoverStoreRow.holds Try.pinned (OpenSpec.ofChange fnExactRecoverStoreSpec)

/-- ITS FALSE NEIGHBOUR: 'it returns false'. Refute it at one input. -/
def fnExactRecoverStoreWrong : ChangeSpec := { name := "fnExactRecoverStore", fn := fun _ => fun
  | [d] => { results := [.lit (.bool false)], args := [d] }
  | _ => none }
def FnExactRecoverStoreWrongFalsely : Prop := fnExactRecoverStoreRow.holds Try.pinned (OpenSpec.ofChange fnExactRecoverStoreWrong)

/-- 'laws.FnRecoverStore': WHATEVER THE INPUT: true; the input reads as it did. -/
def fnRecoverStoreSpec : ChangeSpec := { name := "fnRecoverStore", fn := fun _ => fun
  | [d] => { results := [.lit (.bool true)], args := [d] }
  | _ => none }
def fnRecoverStoreRow : OpenClaim := { program := "ytcbmkonigclceaa", sum := "d248666b739096d186583e61e9871161300b8b7dbc867e51ecea505a2dd0d317", func := "loop.example/proofarchive/laws.FnRecoverStore", spec := "fnRecoverStore", inPlace := ["slices.overlaps[loop.example/proofarchive/impl.Piece]"], unfollowed := true, recurses := true, apart := false }
def FnRecoverStoreSaid : Prop := fnRecoverStoreRow.holds Try.pinned (OpenSpec.ofChange fnRecoverStoreSpec)

/-- ITS FALSE NEIGHBOUR: 'it returns false'. Refute it at one input. -/
def fnRecoverStoreWrong : ChangeSpec := { name := "fnRecoverStore", fn := fun _ => fun
  | [d] => { results := [.lit (.bool false)], args := [d] }
  | _ => none }
def FnRecoverStoreWrongFalsely : Prop := fnRecoverStoreRow.holds Try.pinned (OpenSpec.ofChange fnRecoverStoreWrong)

/-- 'laws.FnPackLog': WHATEVER THE INPUT: true; the input reads as it did. -/
def fnPackLogSpec : ChangeSpec := { name := "fnPackLog", fn := fun _ => fun
  | [d] => { results := [.lit (.bool true)], args := [d] }
  | _ => none }
def fnPackLogRow : OpenClaim := { program := "ytcbmkonigclceaa", sum := "d248666b739096d186583e61e9871161300b8b7dbc867e51ecea505a2dd0d317", func := "loop.example/proofarchive/laws.FnPackLog", spec := "fnPackLog", inPlace := ["slices.overlaps[loop.example/proofarchive/impl.Piece]"], unfollowed := true, recurses := true, apart := false }
def FnPackLogSaid : Prop := fnPackLogRow.holds Try.pinned (OpenSpec.ofChange fnPackLogSpec)

/-- ITS FALSE NEIGHBOUR: 'it returns false'. Refute it at one input. -/
def fnPackLogWrong : ChangeSpec := { name := "fnPackLog", fn := fun _ => fun
  | [d] => { results := [.lit (.bool false)], args := [d] }
  | _ => none }
def FnPackLogWrongFalsely : Prop := fnPackLogRow.holds Try.pinned (OpenSpec.ofChange fnPackLogWrong)

/-- 'laws.FnPutText': WHATEVER THE INPUT: true; the input reads as it did. -/
def fnPutTextSpec : ChangeSpec := { name := "fnPutText", fn := fun _ => fun
  | [d] => { results := [.lit (.bool true)], args := [d] }
  | _ => none }
def fnPutTextRow : OpenClaim := { program := "ytcbmkonigclceaa", sum := "d248666b739096d186583e61e9871161300b8b7dbc867e51ecea505a2dd0d317", func := "loop.example/proofarchive/laws.FnPutText", spec := "fnPutText", inPlace := ["slices.overlaps[loop.example/proofarchive/impl.Piece]"], unfollowed := true, recurses := true, apart := false }
def FnPutTextSaid : Prop := fnPutTextRow.holds Try.pinned (OpenSpec.ofChange fnPutTextSpec)

/-- ITS FALSE NEIGHBOUR: 'it returns false'. Refute it at one input. -/
def fnPutTextWrong : ChangeSpec := { name := "fnPutText", fn := fun _ => fun
  | [d] => { results := [.lit (.bool false)], args := [d] }
  | _ => none }
def FnPutTextWrongFalsely : Prop := fnPutTextRow.holds Try.pinned (OpenSpec.ofChange fnPutTextWrong)

/-- 'laws.FnJoinStores': WHATEVER THE INPUT: true; the input reads as it did. -/
def fnJoinStoresSpec : ChangeSpec := { name := "fnJoinStores", fn := fun _ => fun
  | [d] => { results := [.lit (.bool true)], args := [d] }
  | _ => none }
def fnJoinStoresRow : OpenClaim := { program := "ytcbmkonigclceaa", sum := "d248666b739096d186583e61e9871161300b8b7dbc867e51ecea505a2dd0d317", func := "loop.example/proofarchive/laws.FnJoinStores", spec := "fnJoinStores", inPlace := ["slices.overlaps[loop.example/proofarchive/impl.Piece]"], unfollowed := true, recurses := true, apart := false }
def FnJoinStoresSaid : Prop := fnJoinStoresRow.holds Try.pinned (OpenSpec.ofChange fnJoinStoresSpec)

/-- ITS FALSE NEIGHBOUR: 'it returns false'. Refute it at one input. -/
def fnJoinStoresWrong : ChangeSpec := { name := "fnJoinStores", fn := fun _ => fun
  | [d] => { results := [.lit (.bool false)], args := [d] }
  | _ => none }
def FnJoinStoresWrongFalsely : Prop := fnJoinStoresRow.holds Try.pinned (OpenSpec.ofChange fnJoinStoresWrong)

/- THE SECOND FORM. 'bulk': how many values and letters a reading holds, each counted each time it is reached (what is shared counts as often as it is met; a slice's spare places count too). A statement '..UptoSaid' is the law's where the arguments, and the package variables that the reading takes, are together of bulk at most 1048576: NARROWER than '..Said'. Prove '..Said' where nothing that the law and all that it calls make is longer than what came in: it says more and counts as full. Else prove '..UptoSaid'. A law counts once. -/
mutual
def uptoBulk {H : Type} : DataW H → Nat
  | .lit (.string bytes) => bytes.length + 1
  | .lit _ => 1
  | .nil => 1
  | .ptr d => uptoBulk d + 1
  | .slice elems spare => uptoBulkAll elems + uptoBulkAll spare + 1
  | .agg parts => uptoBulkAll parts + 1
  | .iface _ d => uptoBulk d + 1
  | .map entries => uptoBulkEntries entries + 1
  | .held _ => 1
def uptoBulkAll {H : Type} : List (DataW H) → Nat
  | [] => 0
  | d :: r => uptoBulk d + uptoBulkAll r
def uptoBulkEntries {H : Type} : List (Lit × DataW H) → Nat
  | [] => 0
  | x :: r => uptoBulkEntry x + uptoBulkEntries r
def uptoBulkEntry {H : Type} : Lit × DataW H → Nat
  | (.string bytes, d) => bytes.length + uptoBulk d + 1
  | (_, d) => uptoBulk d + 1
 end
def uptoSmall : (H : Type) → List (DataW H) → Bool := fun _ ds => decide (uptoBulkAll ds ≤ 1048576)
def OpenSpec.upto (s : _root_.Go.ChangeSpec) : _root_.Go.OpenSpec := { _root_.Go.OpenSpec.ofChange s with cond := some uptoSmall }

/-- 'laws.FnExactLogLost', WHERE WHAT IT READS IS OF BULK AT MOST 1048576: true; the input reads as it did. -/
def fnExactLogLostUptoRow : OpenClaim := { program := "ytcbmkonigclceaa", sum := "d248666b739096d186583e61e9871161300b8b7dbc867e51ecea505a2dd0d317", func := "loop.example/proofarchive/laws.FnExactLogLost", spec := "fnExactLogLost", apart := false, narrowed := true }
def FnExactLogLostUptoSaid : Prop := fnExactLogLostUptoRow.holds Try.pinned (OpenSpec.upto fnExactLogLostSpec)

/-- 'laws.FnExactLogDone', WHERE WHAT IT READS IS OF BULK AT MOST 1048576: true; the input reads as it did. -/
def fnExactLogDoneUptoRow : OpenClaim := { program := "ytcbmkonigclceaa", sum := "d248666b739096d186583e61e9871161300b8b7dbc867e51ecea505a2dd0d317", func := "loop.example/proofarchive/laws.FnExactLogDone", spec := "fnExactLogDone", apart := false, narrowed := true }
def FnExactLogDoneUptoSaid : Prop := fnExactLogDoneUptoRow.holds Try.pinned (OpenSpec.upto fnExactLogDoneSpec)

/-- 'laws.FnLogDone', WHERE WHAT IT READS IS OF BULK AT MOST 1048576: true; the input reads as it did. -/
def fnLogDoneUptoRow : OpenClaim := { program := "ytcbmkonigclceaa", sum := "d248666b739096d186583e61e9871161300b8b7dbc867e51ecea505a2dd0d317", func := "loop.example/proofarchive/laws.FnLogDone", spec := "fnLogDone", apart := false, narrowed := true }
def FnLogDoneUptoSaid : Prop := fnLogDoneUptoRow.holds Try.pinned (OpenSpec.upto fnLogDoneSpec)

/-- 'laws.FnLogCut', WHERE WHAT IT READS IS OF BULK AT MOST 1048576: true; the input reads as it did. -/
def fnLogCutUptoRow : OpenClaim := { program := "ytcbmkonigclceaa", sum := "d248666b739096d186583e61e9871161300b8b7dbc867e51ecea505a2dd0d317", func := "loop.example/proofarchive/laws.FnLogCut", spec := "fnLogCut", apart := false, narrowed := true }
def FnLogCutUptoSaid : Prop := fnLogCutUptoRow.holds Try.pinned (OpenSpec.upto fnLogCutSpec)

/-- 'laws.FnLogLost', WHERE WHAT IT READS IS OF BULK AT MOST 1048576: true; the input reads as it did. -/
def fnLogLostUptoRow : OpenClaim := { program := "ytcbmkonigclceaa", sum := "d248666b739096d186583e61e9871161300b8b7dbc867e51ecea505a2dd0d317", func := "loop.example/proofarchive/laws.FnLogLost", spec := "fnLogLost", apart := false, narrowed := true }
def FnLogLostUptoSaid : Prop := fnLogLostUptoRow.holds Try.pinned (OpenSpec.upto fnLogLostSpec)

/-- 'laws.FnExactLogAdd', WHERE WHAT IT READS IS OF BULK AT MOST 1048576: true; the input reads as it did. -/
def fnExactLogAddUptoRow : OpenClaim := { program := "ytcbmkonigclceaa", sum := "d248666b739096d186583e61e9871161300b8b7dbc867e51ecea505a2dd0d317", func := "loop.example/proofarchive/laws.FnExactLogAdd", spec := "fnExactLogAdd", apart := false, narrowed := true }
def FnExactLogAddUptoSaid : Prop := fnExactLogAddUptoRow.holds Try.pinned (OpenSpec.upto fnExactLogAddSpec)

/-- 'laws.FnLogAdd', WHERE WHAT IT READS IS OF BULK AT MOST 1048576: true; the input reads as it did. -/
def fnLogAddUptoRow : OpenClaim := { program := "ytcbmkonigclceaa", sum := "d248666b739096d186583e61e9871161300b8b7dbc867e51ecea505a2dd0d317", func := "loop.example/proofarchive/laws.FnLogAdd", spec := "fnLogAdd", apart := false, narrowed := true }
def FnLogAddUptoSaid : Prop := fnLogAddUptoRow.holds Try.pinned (OpenSpec.upto fnLogAddSpec)

/-- 'laws.FnExactPackLog', WHERE WHAT IT READS IS OF BULK AT MOST 1048576: true; the input reads as it did. -/
def fnExactPackLogUptoRow : OpenClaim := { program := "ytcbmkonigclceaa", sum := "d248666b739096d186583e61e9871161300b8b7dbc867e51ecea505a2dd0d317", func := "loop.example/proofarchive/laws.FnExactPackLog", spec := "fnExactPackLog", apart := false, narrowed := true }
def FnExactPackLogUptoSaid : Prop := fnExactPackLogUptoRow.holds Try.pinned (OpenSpec.upto fnExactPackLogSpec)

/-- 'laws.FnExactRecoverStore', WHERE WHAT IT READS IS OF BULK AT MOST 1048576: true; the input reads as it did. -/
def fnExactRecoverStoreUptoRow : OpenClaim := { program := "ytcbmkonigclceaa", sum := "d248666b739096d186583e61e9871161300b8b7dbc867e51ecea505a2dd0d317", func := "loop.example/proofarchive/laws.FnExactRecoverStore", spec := "fnExactRecoverStore", inPlace := ["slices.overlaps[loop.example/proofarchive/impl.Piece]"], unfollowed := true, recurses := true, apart := false, narrowed := true }
def FnExactRecoverStoreUptoSaid : Prop := fnExactRecoverStoreUptoRow.holds Try.pinned (OpenSpec.upto fnExactRecoverStoreSpec)

/-- 'laws.FnRecoverStore', WHERE WHAT IT READS IS OF BULK AT MOST 1048576: true; the input reads as it did. -/
def fnRecoverStoreUptoRow : OpenClaim := { program := "ytcbmkonigclceaa", sum := "d248666b739096d186583e61e9871161300b8b7dbc867e51ecea505a2dd0d317", func := "loop.example/proofarchive/laws.FnRecoverStore", spec := "fnRecoverStore", inPlace := ["slices.overlaps[loop.example/proofarchive/impl.Piece]"], unfollowed := true, recurses := true, apart := false, narrowed := true }
def FnRecoverStoreUptoSaid : Prop := fnRecoverStoreUptoRow.holds Try.pinned (OpenSpec.upto fnRecoverStoreSpec)

/-- 'laws.FnPackLog', WHERE WHAT IT READS IS OF BULK AT MOST 1048576: true; the input reads as it did. -/
def fnPackLogUptoRow : OpenClaim := { program := "ytcbmkonigclceaa", sum := "d248666b739096d186583e61e9871161300b8b7dbc867e51ecea505a2dd0d317", func := "loop.example/proofarchive/laws.FnPackLog", spec := "fnPackLog", inPlace := ["slices.overlaps[loop.example/proofarchive/impl.Piece]"], unfollowed := true, recurses := true, apart := false, narrowed := true }
def FnPackLogUptoSaid : Prop := fnPackLogUptoRow.holds Try.pinned (OpenSpec.upto fnPackLogSpec)

/-- 'laws.FnPutText', WHERE WHAT IT READS IS OF BULK AT MOST 1048576: true; the input reads as it did. -/
def fnPutTextUptoRow : OpenClaim := { program := "ytcbmkonigclceaa", sum := "d248666b739096d186583e61e9871161300b8b7dbc867e51ecea505a2dd0d317", func := "loop.example/proofarchive/laws.FnPutText", spec := "fnPutText", inPlace := ["slices.overlaps[loop.example/proofarchive/impl.Piece]"], unfollowed := true, recurses := true, apart := false, narrowed := true }
def FnPutTextUptoSaid : Prop := fnPutTextUptoRow.holds Try.pinned (OpenSpec.upto fnPutTextSpec)

/-- 'laws.FnJoinStores', WHERE WHAT IT READS IS OF BULK AT MOST 1048576: true; the input reads as it did. -/
def fnJoinStoresUptoRow : OpenClaim := { program := "ytcbmkonigclceaa", sum := "d248666b739096d186583e61e9871161300b8b7dbc867e51ecea505a2dd0d317", func := "loop.example/proofarchive/laws.FnJoinStores", spec := "fnJoinStores", inPlace := ["slices.overlaps[loop.example/proofarchive/impl.Piece]"], unfollowed := true, recurses := true, apart := false, narrowed := true }
def FnJoinStoresUptoSaid : Prop := fnJoinStoresUptoRow.holds Try.pinned (OpenSpec.upto fnJoinStoresSpec)

end Rows
end Go.Proofs.Ytcbmkonigclceaa
