/-
  No cell of these rows narrows 'for every input' (looked for: loops, veiled, ifaces, maps, wideKeys, modest, calm, conditions, laid).
  DERIVED. THE GIVEN ROWS OF THIS SEAT. 8 by the template 'for every input the law returns true; each argument reads behind the call as it read before'; 0 by the template 'total and deterministic' (their statements: YtgfadfahbhcllaaTotals.lean).
  GIVEN WITH THE SEED: the statements are not yours to turn. If you find one false, say at which input.
  Laid BY PROGRAM, IN A SANDBOX (cutbox-rows.mjs): the forced cells as the released guide's own fill.sh prints them over the translation 008002ea86e5d131… (all of the seat's roots in one cut). By AI agents, Wed Nov 11 2026. No macro, syntax, notation, axiom, sorry.
-/
import Derived.Test.YtgfadfahbhcllaaChecked
import GoSem.Claim
import GoSem.ClaimJoined
import GoSem.ClaimMapViews
import Derived.JoinedTies
import Derived.KernelRfl
namespace Go.Proofs.Ytgfadfahbhcllaa
/- THE CELL 'sum', in the pinned program and in every row, IS THE sha256 OF THE DUMP (.gsa) THAT YtgfadfahbhcllaaProg.lean LOADS. Nothing in Lean hashes anything: it is a label: what it is worth is what the hold of that sum in a sandbox is worth. -/
noncomputable def Try.pinned : Pinned := { name := "ytgfadfahbhcllaa", sum := "008002ea86e5d131d5de20fa5816478d9874b537683e465f06ac810c20ab74e7", checked := Try.checked }
namespace Rows
def none {H : Type} : Left H := { results := [], args := [] }

/-- 'laws.FnExactEncodeFrame': WHATEVER THE INPUT: true; the input reads as it did. -/
def fnExactEncodeFrameSpec : ChangeSpec := { name := "fnExactEncodeFrame", fn := fun _ => fun
  | [d] => { results := [.lit (.bool true)], args := [d] }
  | _ => none }
def fnExactEncodeFrameRow : OpenClaim := { program := "ytgfadfahbhcllaa", sum := "008002ea86e5d131d5de20fa5816478d9874b537683e465f06ac810c20ab74e7", func := "loop.example/s02127/laws.FnExactEncodeFrame", spec := "fnExactEncodeFrame", apart := false }
def FnExactEncodeFrameSaid : Prop := fnExactEncodeFrameRow.holds Try.pinned (OpenSpec.ofChange fnExactEncodeFrameSpec)

/-- ITS FALSE NEIGHBOUR: 'it returns false'. Refute it at one input. -/
def fnExactEncodeFrameWrong : ChangeSpec := { name := "fnExactEncodeFrame", fn := fun _ => fun
  | [d] => { results := [.lit (.bool false)], args := [d] }
  | _ => none }
def FnExactEncodeFrameWrongFalsely : Prop := fnExactEncodeFrameRow.holds Try.pinned (OpenSpec.ofChange fnExactEncodeFrameWrong)

/-- 'laws.FnExactDecodeFrame': WHATEVER THE INPUT: true; the input reads as it did. -/
def fnExactDecodeFrameSpec : ChangeSpec := { name := "fnExactDecodeFrame", fn := fun _ => fun
  | [d] => { results := [.lit (.bool true)], args := [d] }
  | _ => none }
def fnExactDecodeFrameRow : OpenClaim := { program := "ytgfadfahbhcllaa", sum := "008002ea86e5d131d5de20fa5816478d9874b537683e465f06ac810c20ab74e7", func := "loop.example/s02127/laws.FnExactDecodeFrame", spec := "fnExactDecodeFrame", apart := false }
def FnExactDecodeFrameSaid : Prop := fnExactDecodeFrameRow.holds Try.pinned (OpenSpec.ofChange fnExactDecodeFrameSpec)

/-- ITS FALSE NEIGHBOUR: 'it returns false'. Refute it at one input. -/
def fnExactDecodeFrameWrong : ChangeSpec := { name := "fnExactDecodeFrame", fn := fun _ => fun
  | [d] => { results := [.lit (.bool false)], args := [d] }
  | _ => none }
def FnExactDecodeFrameWrongFalsely : Prop := fnExactDecodeFrameRow.holds Try.pinned (OpenSpec.ofChange fnExactDecodeFrameWrong)

/-- 'laws.FnTear': WHATEVER THE INPUT: true; the input reads as it did. -/
def fnTearSpec : ChangeSpec := { name := "fnTear", fn := fun _ => fun
  | [d1, d2] => { results := [.lit (.bool true)], args := [d1, d2] }
  | _ => none }
def fnTearRow : OpenClaim := { program := "ytgfadfahbhcllaa", sum := "008002ea86e5d131d5de20fa5816478d9874b537683e465f06ac810c20ab74e7", func := "loop.example/s02127/laws.FnTear", spec := "fnTear", apart := false }
def FnTearSaid : Prop := fnTearRow.holds Try.pinned (OpenSpec.ofChange fnTearSpec)

/-- ITS FALSE NEIGHBOUR: 'it returns false'. Refute it at one input. -/
def fnTearWrong : ChangeSpec := { name := "fnTear", fn := fun _ => fun
  | [d1, d2] => { results := [.lit (.bool false)], args := [d1, d2] }
  | _ => none }
def FnTearWrongFalsely : Prop := fnTearRow.holds Try.pinned (OpenSpec.ofChange fnTearWrong)

/-- 'laws.FnFrame': WHATEVER THE INPUT: true; the input reads as it did. -/
def fnFrameSpec : ChangeSpec := { name := "fnFrame", fn := fun _ => fun
  | [d1, d2] => { results := [.lit (.bool true)], args := [d1, d2] }
  | _ => none }
def fnFrameRow : OpenClaim := { program := "ytgfadfahbhcllaa", sum := "008002ea86e5d131d5de20fa5816478d9874b537683e465f06ac810c20ab74e7", func := "loop.example/s02127/laws.FnFrame", spec := "fnFrame", apart := false }
def FnFrameSaid : Prop := fnFrameRow.holds Try.pinned (OpenSpec.ofChange fnFrameSpec)

/-- ITS FALSE NEIGHBOUR: 'it returns false'. Refute it at one input. -/
def fnFrameWrong : ChangeSpec := { name := "fnFrame", fn := fun _ => fun
  | [d1, d2] => { results := [.lit (.bool false)], args := [d1, d2] }
  | _ => none }
def FnFrameWrongFalsely : Prop := fnFrameRow.holds Try.pinned (OpenSpec.ofChange fnFrameWrong)

/-- 'laws.FnExactEncodeSnap': WHATEVER THE INPUT: true; the input reads as it did. -/
def fnExactEncodeSnapSpec : ChangeSpec := { name := "fnExactEncodeSnap", fn := fun _ => fun
  | [d] => { results := [.lit (.bool true)], args := [d] }
  | _ => none }
def fnExactEncodeSnapRow : OpenClaim := { program := "ytgfadfahbhcllaa", sum := "008002ea86e5d131d5de20fa5816478d9874b537683e465f06ac810c20ab74e7", func := "loop.example/s02127/laws.FnExactEncodeSnap", spec := "fnExactEncodeSnap", apart := false }
def FnExactEncodeSnapSaid : Prop := fnExactEncodeSnapRow.holds Try.pinned (OpenSpec.ofChange fnExactEncodeSnapSpec)

/-- ITS FALSE NEIGHBOUR: 'it returns false'. Refute it at one input. -/
def fnExactEncodeSnapWrong : ChangeSpec := { name := "fnExactEncodeSnap", fn := fun _ => fun
  | [d] => { results := [.lit (.bool false)], args := [d] }
  | _ => none }
def FnExactEncodeSnapWrongFalsely : Prop := fnExactEncodeSnapRow.holds Try.pinned (OpenSpec.ofChange fnExactEncodeSnapWrong)

/-- 'laws.FnExactDecodeSnap': WHATEVER THE INPUT: true; the input reads as it did. -/
def fnExactDecodeSnapSpec : ChangeSpec := { name := "fnExactDecodeSnap", fn := fun _ => fun
  | [d] => { results := [.lit (.bool true)], args := [d] }
  | _ => none }
def fnExactDecodeSnapRow : OpenClaim := { program := "ytgfadfahbhcllaa", sum := "008002ea86e5d131d5de20fa5816478d9874b537683e465f06ac810c20ab74e7", func := "loop.example/s02127/laws.FnExactDecodeSnap", spec := "fnExactDecodeSnap", apart := false }
def FnExactDecodeSnapSaid : Prop := fnExactDecodeSnapRow.holds Try.pinned (OpenSpec.ofChange fnExactDecodeSnapSpec)

/-- ITS FALSE NEIGHBOUR: 'it returns false'. Refute it at one input. -/
def fnExactDecodeSnapWrong : ChangeSpec := { name := "fnExactDecodeSnap", fn := fun _ => fun
  | [d] => { results := [.lit (.bool false)], args := [d] }
  | _ => none }
def FnExactDecodeSnapWrongFalsely : Prop := fnExactDecodeSnapRow.holds Try.pinned (OpenSpec.ofChange fnExactDecodeSnapWrong)

/-- 'laws.FnSnap': WHATEVER THE INPUT: true; the input reads as it did. -/
def fnSnapSpec : ChangeSpec := { name := "fnSnap", fn := fun _ => fun
  | [d1, d2] => { results := [.lit (.bool true)], args := [d1, d2] }
  | _ => none }
def fnSnapRow : OpenClaim := { program := "ytgfadfahbhcllaa", sum := "008002ea86e5d131d5de20fa5816478d9874b537683e465f06ac810c20ab74e7", func := "loop.example/s02127/laws.FnSnap", spec := "fnSnap", apart := false }
def FnSnapSaid : Prop := fnSnapRow.holds Try.pinned (OpenSpec.ofChange fnSnapSpec)

/-- ITS FALSE NEIGHBOUR: 'it returns false'. Refute it at one input. -/
def fnSnapWrong : ChangeSpec := { name := "fnSnap", fn := fun _ => fun
  | [d1, d2] => { results := [.lit (.bool false)], args := [d1, d2] }
  | _ => none }
def FnSnapWrongFalsely : Prop := fnSnapRow.holds Try.pinned (OpenSpec.ofChange fnSnapWrong)

/-- 'laws.FnExactApplyFrame': WHATEVER THE INPUT: true; the input reads as it did. -/
def fnExactApplyFrameSpec : ChangeSpec := { name := "fnExactApplyFrame", fn := fun _ => fun
  | [d1, d2] => { results := [.lit (.bool true)], args := [d1, d2] }
  | _ => none }
def fnExactApplyFrameRow : OpenClaim := { program := "ytgfadfahbhcllaa", sum := "008002ea86e5d131d5de20fa5816478d9874b537683e465f06ac810c20ab74e7", func := "loop.example/s02127/laws.FnExactApplyFrame", spec := "fnExactApplyFrame", inPlace := ["slices.overlaps[int64]"], apart := false }
def FnExactApplyFrameSaid : Prop := fnExactApplyFrameRow.holds Try.pinned (OpenSpec.ofChange fnExactApplyFrameSpec)

/-- ITS FALSE NEIGHBOUR: 'it returns false'. Refute it at one input. -/
def fnExactApplyFrameWrong : ChangeSpec := { name := "fnExactApplyFrame", fn := fun _ => fun
  | [d1, d2] => { results := [.lit (.bool false)], args := [d1, d2] }
  | _ => none }
def FnExactApplyFrameWrongFalsely : Prop := fnExactApplyFrameRow.holds Try.pinned (OpenSpec.ofChange fnExactApplyFrameWrong)

/- THE SECOND FORM. 'bulk': how many values and letters a reading holds, each counted each time it is reached (what is shared counts as often as it is met; a slice's spare places count too). A statement '..UptoSaid' is the law's where the arguments, and the package variables that the reading takes, are together of bulk at most 1048576: NARROWER than '..Said'. Prove '..Said' where nothing that the law and all that it calls make is longer than what came in: it says more and counts as full. Else prove '..UptoSaid'. A law counts once. -/
mutual
def uptoBulk {H : Type} : DataW H → Nat
  | .lit (.string bytes) => bytes.length + 1
  | .lit _ => 1
  | .nil => 1
  | .ptr d => uptoBulk d + 1
  | .slice elems spare => uptoBulkAll elems + uptoBulkAll spare + 1
  | .agg parts => uptoBulkAll parts + 1
  | .iface _ d => uptoBulk d + 1
  | .map entries => uptoBulkEntries entries + 1
  | .held _ => 1
def uptoBulkAll {H : Type} : List (DataW H) → Nat
  | [] => 0
  | d :: r => uptoBulk d + uptoBulkAll r
def uptoBulkEntries {H : Type} : List (Lit × DataW H) → Nat
  | [] => 0
  | x :: r => uptoBulkEntry x + uptoBulkEntries r
def uptoBulkEntry {H : Type} : Lit × DataW H → Nat
  | (.string bytes, d) => bytes.length + uptoBulk d + 1
  | (_, d) => uptoBulk d + 1
 end
def uptoSmall : (H : Type) → List (DataW H) → Bool := fun _ ds => decide (uptoBulkAll ds ≤ 1048576)
def OpenSpec.upto (s : _root_.Go.ChangeSpec) : _root_.Go.OpenSpec := { _root_.Go.OpenSpec.ofChange s with cond := some uptoSmall }

/-- 'laws.FnExactEncodeFrame', WHERE WHAT IT READS IS OF BULK AT MOST 1048576: true; the input reads as it did. -/
def fnExactEncodeFrameUptoRow : OpenClaim := { program := "ytgfadfahbhcllaa", sum := "008002ea86e5d131d5de20fa5816478d9874b537683e465f06ac810c20ab74e7", func := "loop.example/s02127/laws.FnExactEncodeFrame", spec := "fnExactEncodeFrame", apart := false, narrowed := true }
def FnExactEncodeFrameUptoSaid : Prop := fnExactEncodeFrameUptoRow.holds Try.pinned (OpenSpec.upto fnExactEncodeFrameSpec)

/-- 'laws.FnExactDecodeFrame', WHERE WHAT IT READS IS OF BULK AT MOST 1048576: true; the input reads as it did. -/
def fnExactDecodeFrameUptoRow : OpenClaim := { program := "ytgfadfahbhcllaa", sum := "008002ea86e5d131d5de20fa5816478d9874b537683e465f06ac810c20ab74e7", func := "loop.example/s02127/laws.FnExactDecodeFrame", spec := "fnExactDecodeFrame", apart := false, narrowed := true }
def FnExactDecodeFrameUptoSaid : Prop := fnExactDecodeFrameUptoRow.holds Try.pinned (OpenSpec.upto fnExactDecodeFrameSpec)

/-- 'laws.FnTear', WHERE WHAT IT READS IS OF BULK AT MOST 1048576: true; the input reads as it did. -/
def fnTearUptoRow : OpenClaim := { program := "ytgfadfahbhcllaa", sum := "008002ea86e5d131d5de20fa5816478d9874b537683e465f06ac810c20ab74e7", func := "loop.example/s02127/laws.FnTear", spec := "fnTear", apart := false, narrowed := true }
def FnTearUptoSaid : Prop := fnTearUptoRow.holds Try.pinned (OpenSpec.upto fnTearSpec)

/-- 'laws.FnFrame', WHERE WHAT IT READS IS OF BULK AT MOST 1048576: true; the input reads as it did. -/
def fnFrameUptoRow : OpenClaim := { program := "ytgfadfahbhcllaa", sum := "008002ea86e5d131d5de20fa5816478d9874b537683e465f06ac810c20ab74e7", func := "loop.example/s02127/laws.FnFrame", spec := "fnFrame", apart := false, narrowed := true }
def FnFrameUptoSaid : Prop := fnFrameUptoRow.holds Try.pinned (OpenSpec.upto fnFrameSpec)

/-- 'laws.FnExactEncodeSnap', WHERE WHAT IT READS IS OF BULK AT MOST 1048576: true; the input reads as it did. -/
def fnExactEncodeSnapUptoRow : OpenClaim := { program := "ytgfadfahbhcllaa", sum := "008002ea86e5d131d5de20fa5816478d9874b537683e465f06ac810c20ab74e7", func := "loop.example/s02127/laws.FnExactEncodeSnap", spec := "fnExactEncodeSnap", apart := false, narrowed := true }
def FnExactEncodeSnapUptoSaid : Prop := fnExactEncodeSnapUptoRow.holds Try.pinned (OpenSpec.upto fnExactEncodeSnapSpec)

/-- 'laws.FnExactDecodeSnap', WHERE WHAT IT READS IS OF BULK AT MOST 1048576: true; the input reads as it did. -/
def fnExactDecodeSnapUptoRow : OpenClaim := { program := "ytgfadfahbhcllaa", sum := "008002ea86e5d131d5de20fa5816478d9874b537683e465f06ac810c20ab74e7", func := "loop.example/s02127/laws.FnExactDecodeSnap", spec := "fnExactDecodeSnap", apart := false, narrowed := true }
def FnExactDecodeSnapUptoSaid : Prop := fnExactDecodeSnapUptoRow.holds Try.pinned (OpenSpec.upto fnExactDecodeSnapSpec)

/-- 'laws.FnSnap', WHERE WHAT IT READS IS OF BULK AT MOST 1048576: true; the input reads as it did. -/
def fnSnapUptoRow : OpenClaim := { program := "ytgfadfahbhcllaa", sum := "008002ea86e5d131d5de20fa5816478d9874b537683e465f06ac810c20ab74e7", func := "loop.example/s02127/laws.FnSnap", spec := "fnSnap", apart := false, narrowed := true }
def FnSnapUptoSaid : Prop := fnSnapUptoRow.holds Try.pinned (OpenSpec.upto fnSnapSpec)

/-- 'laws.FnExactApplyFrame', WHERE WHAT IT READS IS OF BULK AT MOST 1048576: true; the input reads as it did. -/
def fnExactApplyFrameUptoRow : OpenClaim := { program := "ytgfadfahbhcllaa", sum := "008002ea86e5d131d5de20fa5816478d9874b537683e465f06ac810c20ab74e7", func := "loop.example/s02127/laws.FnExactApplyFrame", spec := "fnExactApplyFrame", inPlace := ["slices.overlaps[int64]"], apart := false, narrowed := true }
def FnExactApplyFrameUptoSaid : Prop := fnExactApplyFrameUptoRow.holds Try.pinned (OpenSpec.upto fnExactApplyFrameSpec)

end Rows
end Go.Proofs.Ytgfadfahbhcllaa
