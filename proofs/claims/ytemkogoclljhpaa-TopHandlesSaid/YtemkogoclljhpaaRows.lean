/-
  No cell of these rows narrows 'for every input' (looked for: loops, veiled, ifaces, maps, wideKeys, modest, calm, conditions, laid).
  DERIVED. THE GIVEN ROWS OF THIS SEAT. 6 by the template 'for every input the law returns true; each argument reads behind the call as it read before'; 0 by the template 'total and deterministic' (their statements: YtemkogoclljhpaaTotals.lean).
  GIVEN WITH THE SEED: the statements are not yours to turn. If you find one false, say at which input.
  Laid BY PROGRAM, IN A SANDBOX (cutbox-rows.mjs): the forced cells as the released guide's own fill.sh prints them over the translation 651a68def1e145ae… (all of the seat's roots in one cut). By AI agents, Wed Nov 11 2026. No macro, syntax, notation, axiom, sorry.
-/
import Derived.Test.YtemkogoclljhpaaChecked
import GoSem.Claim
import GoSem.ClaimJoined
import GoSem.ClaimMapViews
import Derived.JoinedTies
import Derived.KernelRfl
namespace Go.Proofs.Ytemkogoclljhpaa
/- THE CELL 'sum', in the pinned program and in every row, IS THE sha256 OF THE DUMP (.gsa) THAT YtemkogoclljhpaaProg.lean LOADS. Nothing in Lean hashes anything: it is a label: what it is worth is what the hold of that sum in a sandbox is worth. -/
noncomputable def Try.pinned : Pinned := { name := "ytemkogoclljhpaa", sum := "651a68def1e145ae5192355481548f59e66ffa14881b807bf26626fcd244a0fc", checked := Try.checked }
namespace Rows
def none {H : Type} : Left H := { results := [], args := [] }

/-- 'tidepooltop.TopWindows': WHATEVER THE INPUT: true; the input reads as it did. -/
def topWindowsSpec : ChangeSpec := { name := "topWindows", fn := fun _ => fun
  | [d1, d2, d3, d4, d5, d6, d7, d8] => { results := [.lit (.bool true)], args := [d1, d2, d3, d4, d5, d6, d7, d8] }
  | _ => none }
def topWindowsRow : OpenClaim := { program := "ytemkogoclljhpaa", sum := "651a68def1e145ae5192355481548f59e66ffa14881b807bf26626fcd244a0fc", func := "tidepool/tidepooltop.TopWindows", spec := "topWindows", unfollowed := true, recurses := true, plainKeys := false, apart := false }
def TopWindowsSaid : Prop := topWindowsRow.holds Try.pinned (OpenSpec.ofChange topWindowsSpec)

/-- ITS FALSE NEIGHBOUR: 'it returns false'. Refute it at one input. -/
def topWindowsWrong : ChangeSpec := { name := "topWindows", fn := fun _ => fun
  | [d1, d2, d3, d4, d5, d6, d7, d8] => { results := [.lit (.bool false)], args := [d1, d2, d3, d4, d5, d6, d7, d8] }
  | _ => none }
def TopWindowsWrongFalsely : Prop := topWindowsRow.holds Try.pinned (OpenSpec.ofChange topWindowsWrong)

/-- 'tidepooltop.TopHandles': WHATEVER THE INPUT: true; the input reads as it did. -/
def topHandlesSpec : ChangeSpec := { name := "topHandles", fn := fun _ => fun
  | [d] => { results := [.lit (.bool true)], args := [d] }
  | _ => none }
def topHandlesRow : OpenClaim := { program := "ytemkogoclljhpaa", sum := "651a68def1e145ae5192355481548f59e66ffa14881b807bf26626fcd244a0fc", func := "tidepool/tidepooltop.TopHandles", spec := "topHandles", unfollowed := true, recurses := true, plainKeys := false, apart := false }
def TopHandlesSaid : Prop := topHandlesRow.holds Try.pinned (OpenSpec.ofChange topHandlesSpec)

/-- ITS FALSE NEIGHBOUR: 'it returns false'. Refute it at one input. -/
def topHandlesWrong : ChangeSpec := { name := "topHandles", fn := fun _ => fun
  | [d] => { results := [.lit (.bool false)], args := [d] }
  | _ => none }
def TopHandlesWrongFalsely : Prop := topHandlesRow.holds Try.pinned (OpenSpec.ofChange topHandlesWrong)

/-- 'tidepooltop.TopHolders': WHATEVER THE INPUT: true; the input reads as it did. -/
def topHoldersSpec : ChangeSpec := { name := "topHolders", fn := fun _ => fun
  | [d1, d2] => { results := [.lit (.bool true)], args := [d1, d2] }
  | _ => none }
def topHoldersRow : OpenClaim := { program := "ytemkogoclljhpaa", sum := "651a68def1e145ae5192355481548f59e66ffa14881b807bf26626fcd244a0fc", func := "tidepool/tidepooltop.TopHolders", spec := "topHolders", unfollowed := true, recurses := true, plainKeys := false, apart := false }
def TopHoldersSaid : Prop := topHoldersRow.holds Try.pinned (OpenSpec.ofChange topHoldersSpec)

/-- ITS FALSE NEIGHBOUR: 'it returns false'. Refute it at one input. -/
def topHoldersWrong : ChangeSpec := { name := "topHolders", fn := fun _ => fun
  | [d1, d2] => { results := [.lit (.bool false)], args := [d1, d2] }
  | _ => none }
def TopHoldersWrongFalsely : Prop := topHoldersRow.holds Try.pinned (OpenSpec.ofChange topHoldersWrong)

/-- 'tidepooltop.TopSums': WHATEVER THE INPUT: true; the input reads as it did. -/
def topSumsSpec : ChangeSpec := { name := "topSums", fn := fun _ => fun
  | [d1, d2, d3, d4, d5, d6] => { results := [.lit (.bool true)], args := [d1, d2, d3, d4, d5, d6] }
  | _ => none }
def topSumsRow : OpenClaim := { program := "ytemkogoclljhpaa", sum := "651a68def1e145ae5192355481548f59e66ffa14881b807bf26626fcd244a0fc", func := "tidepool/tidepooltop.TopSums", spec := "topSums", unfollowed := true, recurses := true, plainKeys := false, apart := false }
def TopSumsSaid : Prop := topSumsRow.holds Try.pinned (OpenSpec.ofChange topSumsSpec)

/-- ITS FALSE NEIGHBOUR: 'it returns false'. Refute it at one input. -/
def topSumsWrong : ChangeSpec := { name := "topSums", fn := fun _ => fun
  | [d1, d2, d3, d4, d5, d6] => { results := [.lit (.bool false)], args := [d1, d2, d3, d4, d5, d6] }
  | _ => none }
def TopSumsWrongFalsely : Prop := topSumsRow.holds Try.pinned (OpenSpec.ofChange topSumsWrong)

/-- 'tidepooltop.TopFloors': WHATEVER THE INPUT: true; the input reads as it did. -/
def topFloorsSpec : ChangeSpec := { name := "topFloors", fn := fun _ => fun
  | [d] => { results := [.lit (.bool true)], args := [d] }
  | _ => none }
def topFloorsRow : OpenClaim := { program := "ytemkogoclljhpaa", sum := "651a68def1e145ae5192355481548f59e66ffa14881b807bf26626fcd244a0fc", func := "tidepool/tidepooltop.TopFloors", spec := "topFloors", unfollowed := true, recurses := true, plainKeys := false, apart := false }
def TopFloorsSaid : Prop := topFloorsRow.holds Try.pinned (OpenSpec.ofChange topFloorsSpec)

/-- ITS FALSE NEIGHBOUR: 'it returns false'. Refute it at one input. -/
def topFloorsWrong : ChangeSpec := { name := "topFloors", fn := fun _ => fun
  | [d] => { results := [.lit (.bool false)], args := [d] }
  | _ => none }
def TopFloorsWrongFalsely : Prop := topFloorsRow.holds Try.pinned (OpenSpec.ofChange topFloorsWrong)

/-- 'tidepooltop.TopSessions': WHATEVER THE INPUT: true; the input reads as it did. -/
def topSessionsSpec : ChangeSpec := { name := "topSessions", fn := fun _ => fun
  | [d1, d2, d3] => { results := [.lit (.bool true)], args := [d1, d2, d3] }
  | _ => none }
def topSessionsRow : OpenClaim := { program := "ytemkogoclljhpaa", sum := "651a68def1e145ae5192355481548f59e66ffa14881b807bf26626fcd244a0fc", func := "tidepool/tidepooltop.TopSessions", spec := "topSessions", inPlace := ["slices.overlaps[tidepool/session.Span]"], unfollowed := true, recurses := true, plainKeys := false, apart := false }
def TopSessionsSaid : Prop := topSessionsRow.holds Try.pinned (OpenSpec.ofChange topSessionsSpec)

/-- ITS FALSE NEIGHBOUR: 'it returns false'. Refute it at one input. -/
def topSessionsWrong : ChangeSpec := { name := "topSessions", fn := fun _ => fun
  | [d1, d2, d3] => { results := [.lit (.bool false)], args := [d1, d2, d3] }
  | _ => none }
def TopSessionsWrongFalsely : Prop := topSessionsRow.holds Try.pinned (OpenSpec.ofChange topSessionsWrong)

/- THE SECOND FORM. 'bulk': how many values and letters a reading holds, each counted each time it is reached (what is shared counts as often as it is met; a slice's spare places count too). A statement '..UptoSaid' is the law's where the arguments, and the package variables that the reading takes, are together of bulk at most 1048576: NARROWER than '..Said'. Prove '..Said' where nothing that the law and all that it calls make is longer than what came in: it says more and counts as full. Else prove '..UptoSaid'. A law counts once. -/
mutual
def uptoBulk {H : Type} : DataW H → Nat
  | .lit (.string bytes) => bytes.length + 1
  | .lit _ => 1
  | .nil => 1
  | .ptr d => uptoBulk d + 1
  | .slice elems spare => uptoBulkAll elems + uptoBulkAll spare + 1
  | .agg parts => uptoBulkAll parts + 1
  | .iface _ d => uptoBulk d + 1
  | .map entries => uptoBulkEntries entries + 1
  | .held _ => 1
def uptoBulkAll {H : Type} : List (DataW H) → Nat
  | [] => 0
  | d :: r => uptoBulk d + uptoBulkAll r
def uptoBulkEntries {H : Type} : List (Lit × DataW H) → Nat
  | [] => 0
  | x :: r => uptoBulkEntry x + uptoBulkEntries r
def uptoBulkEntry {H : Type} : Lit × DataW H → Nat
  | (.string bytes, d) => bytes.length + uptoBulk d + 1
  | (_, d) => uptoBulk d + 1
 end
def uptoSmall : (H : Type) → List (DataW H) → Bool := fun _ ds => decide (uptoBulkAll ds ≤ 1048576)
def OpenSpec.upto (s : _root_.Go.ChangeSpec) : _root_.Go.OpenSpec := { _root_.Go.OpenSpec.ofChange s with cond := some uptoSmall }

/-- 'tidepooltop.TopWindows', WHERE WHAT IT READS IS OF BULK AT MOST 1048576: true; the input reads as it did. -/
def topWindowsUptoRow : OpenClaim := { program := "ytemkogoclljhpaa", sum := "651a68def1e145ae5192355481548f59e66ffa14881b807bf26626fcd244a0fc", func := "tidepool/tidepooltop.TopWindows", spec := "topWindows", unfollowed := true, recurses := true, plainKeys := false, apart := false, narrowed := true }
def TopWindowsUptoSaid : Prop := topWindowsUptoRow.holds Try.pinned (OpenSpec.upto topWindowsSpec)

/-- 'tidepooltop.TopHandles', WHERE WHAT IT READS IS OF BULK AT MOST 1048576: true; the input reads as it did. -/
def topHandlesUptoRow : OpenClaim := { program := "ytemkogoclljhpaa", sum := "651a68def1e145ae5192355481548f59e66ffa14881b807bf26626fcd244a0fc", func := "tidepool/tidepooltop.TopHandles", spec := "topHandles", unfollowed := true, recurses := true, plainKeys := false, apart := false, narrowed := true }
def TopHandlesUptoSaid : Prop := topHandlesUptoRow.holds Try.pinned (OpenSpec.upto topHandlesSpec)

/-- 'tidepooltop.TopHolders', WHERE WHAT IT READS IS OF BULK AT MOST 1048576: true; the input reads as it did. -/
def topHoldersUptoRow : OpenClaim := { program := "ytemkogoclljhpaa", sum := "651a68def1e145ae5192355481548f59e66ffa14881b807bf26626fcd244a0fc", func := "tidepool/tidepooltop.TopHolders", spec := "topHolders", unfollowed := true, recurses := true, plainKeys := false, apart := false, narrowed := true }
def TopHoldersUptoSaid : Prop := topHoldersUptoRow.holds Try.pinned (OpenSpec.upto topHoldersSpec)

/-- 'tidepooltop.TopSums', WHERE WHAT IT READS IS OF BULK AT MOST 1048576: true; the input reads as it did. -/
def topSumsUptoRow : OpenClaim := { program := "ytemkogoclljhpaa", sum := "651a68def1e145ae5192355481548f59e66ffa14881b807bf26626fcd244a0fc", func := "tidepool/tidepooltop.TopSums", spec := "topSums", unfollowed := true, recurses := true, plainKeys := false, apart := false, narrowed := true }
def TopSumsUptoSaid : Prop := topSumsUptoRow.holds Try.pinned (OpenSpec.upto topSumsSpec)

/-- 'tidepooltop.TopFloors', WHERE WHAT IT READS IS OF BULK AT MOST 1048576: true; the input reads as it did. -/
def topFloorsUptoRow : OpenClaim := { program := "ytemkogoclljhpaa", sum := "651a68def1e145ae5192355481548f59e66ffa14881b807bf26626fcd244a0fc", func := "tidepool/tidepooltop.TopFloors", spec := "topFloors", unfollowed := true, recurses := true, plainKeys := false, apart := false, narrowed := true }
def TopFloorsUptoSaid : Prop := topFloorsUptoRow.holds Try.pinned (OpenSpec.upto topFloorsSpec)

/-- 'tidepooltop.TopSessions', WHERE WHAT IT READS IS OF BULK AT MOST 1048576: true; the input reads as it did. -/
def topSessionsUptoRow : OpenClaim := { program := "ytemkogoclljhpaa", sum := "651a68def1e145ae5192355481548f59e66ffa14881b807bf26626fcd244a0fc", func := "tidepool/tidepooltop.TopSessions", spec := "topSessions", inPlace := ["slices.overlaps[tidepool/session.Span]"], unfollowed := true, recurses := true, plainKeys := false, apart := false, narrowed := true }
def TopSessionsUptoSaid : Prop := topSessionsUptoRow.holds Try.pinned (OpenSpec.upto topSessionsSpec)

end Rows
end Go.Proofs.Ytemkogoclljhpaa
