/-
  No cell of these rows narrows 'for every input' (looked for: loops, veiled, ifaces, maps, wideKeys, modest, calm, conditions, laid).
  DERIVED. THE GIVEN ROWS OF THIS SEAT. 12 by the template 'for every input the law returns true; each argument reads behind the call as it read before'; 0 by the template 'total and deterministic' (their statements: YtbdbeccaopphaaaTotals.lean).
  GIVEN WITH THE SEED: the statements are not yours to turn. If you find one false, say at which input.
  Laid BY PROGRAM, IN A SANDBOX (cutbox-rows.mjs): the forced cells as the released guide's own fill.sh prints them over the translation 912a1f8b12f081bb… (all of the seat's roots in one cut). By AI agents, Wed Nov 11 2026. No macro, syntax, notation, axiom, sorry.
-/
import Derived.Test.YtbdbeccaopphaaaChecked
import GoSem.Claim
import GoSem.ClaimJoined
import GoSem.ClaimMapViews
import Derived.JoinedTies
import Derived.KernelRfl
namespace Go.Proofs.Ytbdbeccaopphaaa
/- THE CELL 'sum', in the pinned program and in every row, IS THE sha256 OF THE DUMP (.gsa) THAT YtbdbeccaopphaaaProg.lean LOADS. Nothing in Lean hashes anything: it is a label: what it is worth is what the hold of that sum in a sandbox is worth. -/
noncomputable def Try.pinned : Pinned := { name := "ytbdbeccaopphaaa", sum := "912a1f8b12f081bb4786eaef36935edfa5206cfd91f289d497e78f29aa386549", checked := Try.checked }
namespace Rows
def none {H : Type} : Left H := { results := [], args := [] }

/-- 'laws.FnExactConstants': WHATEVER THE INPUT: true; the input reads as it did. -/
def fnExactConstantsSpec : ChangeSpec := { name := "fnExactConstants", fn := fun _ => fun
  | [] => { results := [.lit (.bool true)], args := [] }
  | _ => none }
def fnExactConstantsRow : OpenClaim := { program := "ytbdbeccaopphaaa", sum := "912a1f8b12f081bb4786eaef36935edfa5206cfd91f289d497e78f29aa386549", func := "loop.example/s02127/laws.FnExactConstants", spec := "fnExactConstants", apart := false }
def FnExactConstantsSaid : Prop := fnExactConstantsRow.holds Try.pinned (OpenSpec.ofChange fnExactConstantsSpec)

/-- ITS FALSE NEIGHBOUR: 'it returns false'. Refute it at one input. -/
def fnExactConstantsWrong : ChangeSpec := { name := "fnExactConstants", fn := fun _ => fun
  | [] => { results := [.lit (.bool false)], args := [] }
  | _ => none }
def FnExactConstantsWrongFalsely : Prop := fnExactConstantsRow.holds Try.pinned (OpenSpec.ofChange fnExactConstantsWrong)

/-- 'laws.FnExactCrc32': WHATEVER THE INPUT: true; the input reads as it did. -/
def fnExactCrc32Spec : ChangeSpec := { name := "fnExactCrc32", fn := fun _ => fun
  | [d] => { results := [.lit (.bool true)], args := [d] }
  | _ => none }
def fnExactCrc32Row : OpenClaim := { program := "ytbdbeccaopphaaa", sum := "912a1f8b12f081bb4786eaef36935edfa5206cfd91f289d497e78f29aa386549", func := "loop.example/s02127/laws.FnExactCrc32", spec := "fnExactCrc32", apart := false }
def FnExactCrc32Said : Prop := fnExactCrc32Row.holds Try.pinned (OpenSpec.ofChange fnExactCrc32Spec)

/-- ITS FALSE NEIGHBOUR: 'it returns false'. Refute it at one input. -/
def fnExactCrc32Wrong : ChangeSpec := { name := "fnExactCrc32", fn := fun _ => fun
  | [d] => { results := [.lit (.bool false)], args := [d] }
  | _ => none }
def FnExactCrc32WrongFalsely : Prop := fnExactCrc32Row.holds Try.pinned (OpenSpec.ofChange fnExactCrc32Wrong)

/-- 'laws.FnExactParseTicket': WHATEVER THE INPUT: true; the input reads as it did. -/
def fnExactParseTicketSpec : ChangeSpec := { name := "fnExactParseTicket", fn := fun _ => fun
  | [d] => { results := [.lit (.bool true)], args := [d] }
  | _ => none }
def fnExactParseTicketRow : OpenClaim := { program := "ytbdbeccaopphaaa", sum := "912a1f8b12f081bb4786eaef36935edfa5206cfd91f289d497e78f29aa386549", func := "loop.example/s02127/laws.FnExactParseTicket", spec := "fnExactParseTicket", apart := false }
def FnExactParseTicketSaid : Prop := fnExactParseTicketRow.holds Try.pinned (OpenSpec.ofChange fnExactParseTicketSpec)

/-- ITS FALSE NEIGHBOUR: 'it returns false'. Refute it at one input. -/
def fnExactParseTicketWrong : ChangeSpec := { name := "fnExactParseTicket", fn := fun _ => fun
  | [d] => { results := [.lit (.bool false)], args := [d] }
  | _ => none }
def FnExactParseTicketWrongFalsely : Prop := fnExactParseTicketRow.holds Try.pinned (OpenSpec.ofChange fnExactParseTicketWrong)

/-- 'laws.FnExactDevNew': WHATEVER THE INPUT: true; the input reads as it did. -/
def fnExactDevNewSpec : ChangeSpec := { name := "fnExactDevNew", fn := fun _ => fun
  | [d] => { results := [.lit (.bool true)], args := [d] }
  | _ => none }
def fnExactDevNewRow : OpenClaim := { program := "ytbdbeccaopphaaa", sum := "912a1f8b12f081bb4786eaef36935edfa5206cfd91f289d497e78f29aa386549", func := "loop.example/s02127/laws.FnExactDevNew", spec := "fnExactDevNew", apart := false }
def FnExactDevNewSaid : Prop := fnExactDevNewRow.holds Try.pinned (OpenSpec.ofChange fnExactDevNewSpec)

/-- ITS FALSE NEIGHBOUR: 'it returns false'. Refute it at one input. -/
def fnExactDevNewWrong : ChangeSpec := { name := "fnExactDevNew", fn := fun _ => fun
  | [d] => { results := [.lit (.bool false)], args := [d] }
  | _ => none }
def FnExactDevNewWrongFalsely : Prop := fnExactDevNewRow.holds Try.pinned (OpenSpec.ofChange fnExactDevNewWrong)

/-- 'laws.FnExactValidDev': WHATEVER THE INPUT: true; the input reads as it did. -/
def fnExactValidDevSpec : ChangeSpec := { name := "fnExactValidDev", fn := fun _ => fun
  | [d] => { results := [.lit (.bool true)], args := [d] }
  | _ => none }
def fnExactValidDevRow : OpenClaim := { program := "ytbdbeccaopphaaa", sum := "912a1f8b12f081bb4786eaef36935edfa5206cfd91f289d497e78f29aa386549", func := "loop.example/s02127/laws.FnExactValidDev", spec := "fnExactValidDev", apart := false }
def FnExactValidDevSaid : Prop := fnExactValidDevRow.holds Try.pinned (OpenSpec.ofChange fnExactValidDevSpec)

/-- ITS FALSE NEIGHBOUR: 'it returns false'. Refute it at one input. -/
def fnExactValidDevWrong : ChangeSpec := { name := "fnExactValidDev", fn := fun _ => fun
  | [d] => { results := [.lit (.bool false)], args := [d] }
  | _ => none }
def FnExactValidDevWrongFalsely : Prop := fnExactValidDevRow.holds Try.pinned (OpenSpec.ofChange fnExactValidDevWrong)

/-- 'laws.FnExactDevRead': WHATEVER THE INPUT: true; the input reads as it did. -/
def fnExactDevReadSpec : ChangeSpec := { name := "fnExactDevRead", fn := fun _ => fun
  | [d1, d2] => { results := [.lit (.bool true)], args := [d1, d2] }
  | _ => none }
def fnExactDevReadRow : OpenClaim := { program := "ytbdbeccaopphaaa", sum := "912a1f8b12f081bb4786eaef36935edfa5206cfd91f289d497e78f29aa386549", func := "loop.example/s02127/laws.FnExactDevRead", spec := "fnExactDevRead", apart := false }
def FnExactDevReadSaid : Prop := fnExactDevReadRow.holds Try.pinned (OpenSpec.ofChange fnExactDevReadSpec)

/-- ITS FALSE NEIGHBOUR: 'it returns false'. Refute it at one input. -/
def fnExactDevReadWrong : ChangeSpec := { name := "fnExactDevRead", fn := fun _ => fun
  | [d1, d2] => { results := [.lit (.bool false)], args := [d1, d2] }
  | _ => none }
def FnExactDevReadWrongFalsely : Prop := fnExactDevReadRow.holds Try.pinned (OpenSpec.ofChange fnExactDevReadWrong)

/-- 'laws.FnExactDevWrite': WHATEVER THE INPUT: true; the input reads as it did. -/
def fnExactDevWriteSpec : ChangeSpec := { name := "fnExactDevWrite", fn := fun _ => fun
  | [d1, d2, d3] => { results := [.lit (.bool true)], args := [d1, d2, d3] }
  | _ => none }
def fnExactDevWriteRow : OpenClaim := { program := "ytbdbeccaopphaaa", sum := "912a1f8b12f081bb4786eaef36935edfa5206cfd91f289d497e78f29aa386549", func := "loop.example/s02127/laws.FnExactDevWrite", spec := "fnExactDevWrite", apart := false }
def FnExactDevWriteSaid : Prop := fnExactDevWriteRow.holds Try.pinned (OpenSpec.ofChange fnExactDevWriteSpec)

/-- ITS FALSE NEIGHBOUR: 'it returns false'. Refute it at one input. -/
def fnExactDevWriteWrong : ChangeSpec := { name := "fnExactDevWrite", fn := fun _ => fun
  | [d1, d2, d3] => { results := [.lit (.bool false)], args := [d1, d2, d3] }
  | _ => none }
def FnExactDevWriteWrongFalsely : Prop := fnExactDevWriteRow.holds Try.pinned (OpenSpec.ofChange fnExactDevWriteWrong)

/-- 'laws.FnExactDevSync': WHATEVER THE INPUT: true; the input reads as it did. -/
def fnExactDevSyncSpec : ChangeSpec := { name := "fnExactDevSync", fn := fun _ => fun
  | [d] => { results := [.lit (.bool true)], args := [d] }
  | _ => none }
def fnExactDevSyncRow : OpenClaim := { program := "ytbdbeccaopphaaa", sum := "912a1f8b12f081bb4786eaef36935edfa5206cfd91f289d497e78f29aa386549", func := "loop.example/s02127/laws.FnExactDevSync", spec := "fnExactDevSync", apart := false }
def FnExactDevSyncSaid : Prop := fnExactDevSyncRow.holds Try.pinned (OpenSpec.ofChange fnExactDevSyncSpec)

/-- ITS FALSE NEIGHBOUR: 'it returns false'. Refute it at one input. -/
def fnExactDevSyncWrong : ChangeSpec := { name := "fnExactDevSync", fn := fun _ => fun
  | [d] => { results := [.lit (.bool false)], args := [d] }
  | _ => none }
def FnExactDevSyncWrongFalsely : Prop := fnExactDevSyncRow.holds Try.pinned (OpenSpec.ofChange fnExactDevSyncWrong)

/-- 'laws.FnExactDevCrash': WHATEVER THE INPUT: true; the input reads as it did. -/
def fnExactDevCrashSpec : ChangeSpec := { name := "fnExactDevCrash", fn := fun _ => fun
  | [d1, d2] => { results := [.lit (.bool true)], args := [d1, d2] }
  | _ => none }
def fnExactDevCrashRow : OpenClaim := { program := "ytbdbeccaopphaaa", sum := "912a1f8b12f081bb4786eaef36935edfa5206cfd91f289d497e78f29aa386549", func := "loop.example/s02127/laws.FnExactDevCrash", spec := "fnExactDevCrash", apart := false }
def FnExactDevCrashSaid : Prop := fnExactDevCrashRow.holds Try.pinned (OpenSpec.ofChange fnExactDevCrashSpec)

/-- ITS FALSE NEIGHBOUR: 'it returns false'. Refute it at one input. -/
def fnExactDevCrashWrong : ChangeSpec := { name := "fnExactDevCrash", fn := fun _ => fun
  | [d1, d2] => { results := [.lit (.bool false)], args := [d1, d2] }
  | _ => none }
def FnExactDevCrashWrongFalsely : Prop := fnExactDevCrashRow.holds Try.pinned (OpenSpec.ofChange fnExactDevCrashWrong)

/-- 'laws.FnCrash': WHATEVER THE INPUT: true; the input reads as it did. -/
def fnCrashSpec : ChangeSpec := { name := "fnCrash", fn := fun _ => fun
  | [d] => { results := [.lit (.bool true)], args := [d] }
  | _ => none }
def fnCrashRow : OpenClaim := { program := "ytbdbeccaopphaaa", sum := "912a1f8b12f081bb4786eaef36935edfa5206cfd91f289d497e78f29aa386549", func := "loop.example/s02127/laws.FnCrash", spec := "fnCrash", apart := false }
def FnCrashSaid : Prop := fnCrashRow.holds Try.pinned (OpenSpec.ofChange fnCrashSpec)

/-- ITS FALSE NEIGHBOUR: 'it returns false'. Refute it at one input. -/
def fnCrashWrong : ChangeSpec := { name := "fnCrash", fn := fun _ => fun
  | [d] => { results := [.lit (.bool false)], args := [d] }
  | _ => none }
def FnCrashWrongFalsely : Prop := fnCrashRow.holds Try.pinned (OpenSpec.ofChange fnCrashWrong)

/-- 'laws.FnExactCutPoint': WHATEVER THE INPUT: true; the input reads as it did. -/
def fnExactCutPointSpec : ChangeSpec := { name := "fnExactCutPoint", fn := fun _ => fun
  | [d] => { results := [.lit (.bool true)], args := [d] }
  | _ => none }
def fnExactCutPointRow : OpenClaim := { program := "ytbdbeccaopphaaa", sum := "912a1f8b12f081bb4786eaef36935edfa5206cfd91f289d497e78f29aa386549", func := "loop.example/s02127/laws.FnExactCutPoint", spec := "fnExactCutPoint", apart := false }
def FnExactCutPointSaid : Prop := fnExactCutPointRow.holds Try.pinned (OpenSpec.ofChange fnExactCutPointSpec)

/-- ITS FALSE NEIGHBOUR: 'it returns false'. Refute it at one input. -/
def fnExactCutPointWrong : ChangeSpec := { name := "fnExactCutPoint", fn := fun _ => fun
  | [d] => { results := [.lit (.bool false)], args := [d] }
  | _ => none }
def FnExactCutPointWrongFalsely : Prop := fnExactCutPointRow.holds Try.pinned (OpenSpec.ofChange fnExactCutPointWrong)

/-- 'laws.FnExactValidState': WHATEVER THE INPUT: true; the input reads as it did. -/
def fnExactValidStateSpec : ChangeSpec := { name := "fnExactValidState", fn := fun _ => fun
  | [d] => { results := [.lit (.bool true)], args := [d] }
  | _ => none }
def fnExactValidStateRow : OpenClaim := { program := "ytbdbeccaopphaaa", sum := "912a1f8b12f081bb4786eaef36935edfa5206cfd91f289d497e78f29aa386549", func := "loop.example/s02127/laws.FnExactValidState", spec := "fnExactValidState", apart := false }
def FnExactValidStateSaid : Prop := fnExactValidStateRow.holds Try.pinned (OpenSpec.ofChange fnExactValidStateSpec)

/-- ITS FALSE NEIGHBOUR: 'it returns false'. Refute it at one input. -/
def fnExactValidStateWrong : ChangeSpec := { name := "fnExactValidState", fn := fun _ => fun
  | [d] => { results := [.lit (.bool false)], args := [d] }
  | _ => none }
def FnExactValidStateWrongFalsely : Prop := fnExactValidStateRow.holds Try.pinned (OpenSpec.ofChange fnExactValidStateWrong)

/- THE SECOND FORM. 'bulk': how many values and letters a reading holds, each counted each time it is reached (what is shared counts as often as it is met; a slice's spare places count too). A statement '..UptoSaid' is the law's where the arguments, and the package variables that the reading takes, are together of bulk at most 1048576: NARROWER than '..Said'. Prove '..Said' where nothing that the law and all that it calls make is longer than what came in: it says more and counts as full. Else prove '..UptoSaid'. A law counts once. -/
mutual
def uptoBulk {H : Type} : DataW H → Nat
  | .lit (.string bytes) => bytes.length + 1
  | .lit _ => 1
  | .nil => 1
  | .ptr d => uptoBulk d + 1
  | .slice elems spare => uptoBulkAll elems + uptoBulkAll spare + 1
  | .agg parts => uptoBulkAll parts + 1
  | .iface _ d => uptoBulk d + 1
  | .map entries => uptoBulkEntries entries + 1
  | .held _ => 1
def uptoBulkAll {H : Type} : List (DataW H) → Nat
  | [] => 0
  | d :: r => uptoBulk d + uptoBulkAll r
def uptoBulkEntries {H : Type} : List (Lit × DataW H) → Nat
  | [] => 0
  | x :: r => uptoBulkEntry x + uptoBulkEntries r
def uptoBulkEntry {H : Type} : Lit × DataW H → Nat
  | (.string bytes, d) => bytes.length + uptoBulk d + 1
  | (_, d) => uptoBulk d + 1
 end
def uptoSmall : (H : Type) → List (DataW H) → Bool := fun _ ds => decide (uptoBulkAll ds ≤ 1048576)
def OpenSpec.upto (s : _root_.Go.ChangeSpec) : _root_.Go.OpenSpec := { _root_.Go.OpenSpec.ofChange s with cond := some uptoSmall }

/-- 'laws.FnExactConstants', WHERE WHAT IT READS IS OF BULK AT MOST 1048576: true; the input reads as it did. -/
def fnExactConstantsUptoRow : OpenClaim := { program := "ytbdbeccaopphaaa", sum := "912a1f8b12f081bb4786eaef36935edfa5206cfd91f289d497e78f29aa386549", func := "loop.example/s02127/laws.FnExactConstants", spec := "fnExactConstants", apart := false, narrowed := true }
def FnExactConstantsUptoSaid : Prop := fnExactConstantsUptoRow.holds Try.pinned (OpenSpec.upto fnExactConstantsSpec)

/-- 'laws.FnExactCrc32', WHERE WHAT IT READS IS OF BULK AT MOST 1048576: true; the input reads as it did. -/
def fnExactCrc32UptoRow : OpenClaim := { program := "ytbdbeccaopphaaa", sum := "912a1f8b12f081bb4786eaef36935edfa5206cfd91f289d497e78f29aa386549", func := "loop.example/s02127/laws.FnExactCrc32", spec := "fnExactCrc32", apart := false, narrowed := true }
def FnExactCrc32UptoSaid : Prop := fnExactCrc32UptoRow.holds Try.pinned (OpenSpec.upto fnExactCrc32Spec)

/-- 'laws.FnExactParseTicket', WHERE WHAT IT READS IS OF BULK AT MOST 1048576: true; the input reads as it did. -/
def fnExactParseTicketUptoRow : OpenClaim := { program := "ytbdbeccaopphaaa", sum := "912a1f8b12f081bb4786eaef36935edfa5206cfd91f289d497e78f29aa386549", func := "loop.example/s02127/laws.FnExactParseTicket", spec := "fnExactParseTicket", apart := false, narrowed := true }
def FnExactParseTicketUptoSaid : Prop := fnExactParseTicketUptoRow.holds Try.pinned (OpenSpec.upto fnExactParseTicketSpec)

/-- 'laws.FnExactDevNew', WHERE WHAT IT READS IS OF BULK AT MOST 1048576: true; the input reads as it did. -/
def fnExactDevNewUptoRow : OpenClaim := { program := "ytbdbeccaopphaaa", sum := "912a1f8b12f081bb4786eaef36935edfa5206cfd91f289d497e78f29aa386549", func := "loop.example/s02127/laws.FnExactDevNew", spec := "fnExactDevNew", apart := false, narrowed := true }
def FnExactDevNewUptoSaid : Prop := fnExactDevNewUptoRow.holds Try.pinned (OpenSpec.upto fnExactDevNewSpec)

/-- 'laws.FnExactValidDev', WHERE WHAT IT READS IS OF BULK AT MOST 1048576: true; the input reads as it did. -/
def fnExactValidDevUptoRow : OpenClaim := { program := "ytbdbeccaopphaaa", sum := "912a1f8b12f081bb4786eaef36935edfa5206cfd91f289d497e78f29aa386549", func := "loop.example/s02127/laws.FnExactValidDev", spec := "fnExactValidDev", apart := false, narrowed := true }
def FnExactValidDevUptoSaid : Prop := fnExactValidDevUptoRow.holds Try.pinned (OpenSpec.upto fnExactValidDevSpec)

/-- 'laws.FnExactDevRead', WHERE WHAT IT READS IS OF BULK AT MOST 1048576: true; the input reads as it did. -/
def fnExactDevReadUptoRow : OpenClaim := { program := "ytbdbeccaopphaaa", sum := "912a1f8b12f081bb4786eaef36935edfa5206cfd91f289d497e78f29aa386549", func := "loop.example/s02127/laws.FnExactDevRead", spec := "fnExactDevRead", apart := false, narrowed := true }
def FnExactDevReadUptoSaid : Prop := fnExactDevReadUptoRow.holds Try.pinned (OpenSpec.upto fnExactDevReadSpec)

/-- 'laws.FnExactDevWrite', WHERE WHAT IT READS IS OF BULK AT MOST 1048576: true; the input reads as it did. -/
def fnExactDevWriteUptoRow : OpenClaim := { program := "ytbdbeccaopphaaa", sum := "912a1f8b12f081bb4786eaef36935edfa5206cfd91f289d497e78f29aa386549", func := "loop.example/s02127/laws.FnExactDevWrite", spec := "fnExactDevWrite", apart := false, narrowed := true }
def FnExactDevWriteUptoSaid : Prop := fnExactDevWriteUptoRow.holds Try.pinned (OpenSpec.upto fnExactDevWriteSpec)

/-- 'laws.FnExactDevSync', WHERE WHAT IT READS IS OF BULK AT MOST 1048576: true; the input reads as it did. -/
def fnExactDevSyncUptoRow : OpenClaim := { program := "ytbdbeccaopphaaa", sum := "912a1f8b12f081bb4786eaef36935edfa5206cfd91f289d497e78f29aa386549", func := "loop.example/s02127/laws.FnExactDevSync", spec := "fnExactDevSync", apart := false, narrowed := true }
def FnExactDevSyncUptoSaid : Prop := fnExactDevSyncUptoRow.holds Try.pinned (OpenSpec.upto fnExactDevSyncSpec)

/-- 'laws.FnExactDevCrash', WHERE WHAT IT READS IS OF BULK AT MOST 1048576: true; the input reads as it did. -/
def fnExactDevCrashUptoRow : OpenClaim := { program := "ytbdbeccaopphaaa", sum := "912a1f8b12f081bb4786eaef36935edfa5206cfd91f289d497e78f29aa386549", func := "loop.example/s02127/laws.FnExactDevCrash", spec := "fnExactDevCrash", apart := false, narrowed := true }
def FnExactDevCrashUptoSaid : Prop := fnExactDevCrashUptoRow.holds Try.pinned (OpenSpec.upto fnExactDevCrashSpec)

/-- 'laws.FnCrash', WHERE WHAT IT READS IS OF BULK AT MOST 1048576: true; the input reads as it did. -/
def fnCrashUptoRow : OpenClaim := { program := "ytbdbeccaopphaaa", sum := "912a1f8b12f081bb4786eaef36935edfa5206cfd91f289d497e78f29aa386549", func := "loop.example/s02127/laws.FnCrash", spec := "fnCrash", apart := false, narrowed := true }
def FnCrashUptoSaid : Prop := fnCrashUptoRow.holds Try.pinned (OpenSpec.upto fnCrashSpec)

/-- 'laws.FnExactCutPoint', WHERE WHAT IT READS IS OF BULK AT MOST 1048576: true; the input reads as it did. -/
def fnExactCutPointUptoRow : OpenClaim := { program := "ytbdbeccaopphaaa", sum := "912a1f8b12f081bb4786eaef36935edfa5206cfd91f289d497e78f29aa386549", func := "loop.example/s02127/laws.FnExactCutPoint", spec := "fnExactCutPoint", apart := false, narrowed := true }
def FnExactCutPointUptoSaid : Prop := fnExactCutPointUptoRow.holds Try.pinned (OpenSpec.upto fnExactCutPointSpec)

/-- 'laws.FnExactValidState', WHERE WHAT IT READS IS OF BULK AT MOST 1048576: true; the input reads as it did. -/
def fnExactValidStateUptoRow : OpenClaim := { program := "ytbdbeccaopphaaa", sum := "912a1f8b12f081bb4786eaef36935edfa5206cfd91f289d497e78f29aa386549", func := "loop.example/s02127/laws.FnExactValidState", spec := "fnExactValidState", apart := false, narrowed := true }
def FnExactValidStateUptoSaid : Prop := fnExactValidStateUptoRow.holds Try.pinned (OpenSpec.upto fnExactValidStateSpec)

end Rows
end Go.Proofs.Ytbdbeccaopphaaa
