/-
  No cell of these rows narrows 'for every input' (looked for: loops, veiled, ifaces, maps, wideKeys, modest, calm, conditions, laid).
  DERIVED. THE GIVEN ROWS OF THIS SEAT. 17 by the template 'for every input the law returns true; each argument reads behind the call as it read before'; 0 by the template 'total and deterministic' (their statements: YtbalnjejamigaaaTotals.lean).
  GIVEN WITH THE SEED: the statements are not yours to turn. If you find one false, say at which input.
  Laid BY PROGRAM, IN A SANDBOX (cutbox-rows.mjs): the forced cells as the released guide's own fill.sh prints them over the translation 18b420d0fbbb8da2… (all of the seat's roots in one cut). By AI agents, Wed Nov 11 2026. No macro, syntax, notation, axiom, sorry.
-/
import Derived.Test.YtbalnjejamigaaaChecked
import GoSem.Claim
import GoSem.ClaimJoined
import GoSem.ClaimMapViews
import Derived.JoinedTies
import Derived.KernelRfl
namespace Go.Proofs.Ytbalnjejamigaaa
/- THE CELL 'sum', in the pinned program and in every row, IS THE sha256 OF THE DUMP (.gsa) THAT YtbalnjejamigaaaProg.lean LOADS. Nothing in Lean hashes anything: it is a label: what it is worth is what the hold of that sum in a sandbox is worth. -/
noncomputable def Try.pinned : Pinned := { name := "ytbalnjejamigaaa", sum := "18b420d0fbbb8da27b8d99e579a6a64d76c92ad1f84151f88e3b1fb14b040f30", checked := Try.checked }
namespace Rows
def none {H : Type} : Left H := { results := [], args := [] }

/-- 'palfreylaw02.BlakeSums': WHATEVER THE INPUT: true; the input reads as it did. -/
def blakeSumsSpec : ChangeSpec := { name := "blakeSums", fn := fun _ => fun
  | [d1, d2] => { results := [.lit (.bool true)], args := [d1, d2] }
  | _ => none }
def blakeSumsRow : OpenClaim := { program := "ytbalnjejamigaaa", sum := "18b420d0fbbb8da27b8d99e579a6a64d76c92ad1f84151f88e3b1fb14b040f30", func := "palfrey/palfreylaw02.BlakeSums", spec := "blakeSums", apart := false }
def BlakeSumsSaid : Prop := blakeSumsRow.holds Try.pinned (OpenSpec.ofChange blakeSumsSpec)

/-- ITS FALSE NEIGHBOUR: 'it returns false'. Refute it at one input. -/
def blakeSumsWrong : ChangeSpec := { name := "blakeSums", fn := fun _ => fun
  | [d1, d2] => { results := [.lit (.bool false)], args := [d1, d2] }
  | _ => none }
def BlakeSumsWrongFalsely : Prop := blakeSumsRow.holds Try.pinned (OpenSpec.ofChange blakeSumsWrong)

/-- 'palfreylaw02.BlakeOwn': WHATEVER THE INPUT: true; the input reads as it did. -/
def blakeOwnSpec : ChangeSpec := { name := "blakeOwn", fn := fun _ => fun
  | [d1, d2, d3] => { results := [.lit (.bool true)], args := [d1, d2, d3] }
  | _ => none }
def blakeOwnRow : OpenClaim := { program := "ytbalnjejamigaaa", sum := "18b420d0fbbb8da27b8d99e579a6a64d76c92ad1f84151f88e3b1fb14b040f30", func := "palfrey/palfreylaw02.BlakeOwn", spec := "blakeOwn", apart := false }
def BlakeOwnSaid : Prop := blakeOwnRow.holds Try.pinned (OpenSpec.ofChange blakeOwnSpec)

/-- ITS FALSE NEIGHBOUR: 'it returns false'. Refute it at one input. -/
def blakeOwnWrong : ChangeSpec := { name := "blakeOwn", fn := fun _ => fun
  | [d1, d2, d3] => { results := [.lit (.bool false)], args := [d1, d2, d3] }
  | _ => none }
def BlakeOwnWrongFalsely : Prop := blakeOwnRow.holds Try.pinned (OpenSpec.ofChange blakeOwnWrong)

/-- 'palfreylaw02.BlakeKeys': WHATEVER THE INPUT: true; the input reads as it did. -/
def blakeKeysSpec : ChangeSpec := { name := "blakeKeys", fn := fun _ => fun
  | [d1, d2, d3] => { results := [.lit (.bool true)], args := [d1, d2, d3] }
  | _ => none }
def blakeKeysRow : OpenClaim := { program := "ytbalnjejamigaaa", sum := "18b420d0fbbb8da27b8d99e579a6a64d76c92ad1f84151f88e3b1fb14b040f30", func := "palfrey/palfreylaw02.BlakeKeys", spec := "blakeKeys", apart := false }
def BlakeKeysSaid : Prop := blakeKeysRow.holds Try.pinned (OpenSpec.ofChange blakeKeysSpec)

/-- ITS FALSE NEIGHBOUR: 'it returns false'. Refute it at one input. -/
def blakeKeysWrong : ChangeSpec := { name := "blakeKeys", fn := fun _ => fun
  | [d1, d2, d3] => { results := [.lit (.bool false)], args := [d1, d2, d3] }
  | _ => none }
def BlakeKeysWrongFalsely : Prop := blakeKeysRow.holds Try.pinned (OpenSpec.ofChange blakeKeysWrong)

/-- 'palfreylaw02.BlakeChecks': WHATEVER THE INPUT: true; the input reads as it did. -/
def blakeChecksSpec : ChangeSpec := { name := "blakeChecks", fn := fun _ => fun
  | [d1, d2, d3] => { results := [.lit (.bool true)], args := [d1, d2, d3] }
  | _ => none }
def blakeChecksRow : OpenClaim := { program := "ytbalnjejamigaaa", sum := "18b420d0fbbb8da27b8d99e579a6a64d76c92ad1f84151f88e3b1fb14b040f30", func := "palfrey/palfreylaw02.BlakeChecks", spec := "blakeChecks", apart := false }
def BlakeChecksSaid : Prop := blakeChecksRow.holds Try.pinned (OpenSpec.ofChange blakeChecksSpec)

/-- ITS FALSE NEIGHBOUR: 'it returns false'. Refute it at one input. -/
def blakeChecksWrong : ChangeSpec := { name := "blakeChecks", fn := fun _ => fun
  | [d1, d2, d3] => { results := [.lit (.bool false)], args := [d1, d2, d3] }
  | _ => none }
def BlakeChecksWrongFalsely : Prop := blakeChecksRow.holds Try.pinned (OpenSpec.ofChange blakeChecksWrong)

/-- 'palfreylaw14.CommitMakes': WHATEVER THE INPUT: true; the input reads as it did. -/
def commitMakesSpec : ChangeSpec := { name := "commitMakes", fn := fun _ => fun
  | [d1, d2, d3] => { results := [.lit (.bool true)], args := [d1, d2, d3] }
  | _ => none }
def commitMakesRow : OpenClaim := { program := "ytbalnjejamigaaa", sum := "18b420d0fbbb8da27b8d99e579a6a64d76c92ad1f84151f88e3b1fb14b040f30", func := "palfrey/palfreylaw14.CommitMakes", spec := "commitMakes", apart := false }
def CommitMakesSaid : Prop := commitMakesRow.holds Try.pinned (OpenSpec.ofChange commitMakesSpec)

/-- ITS FALSE NEIGHBOUR: 'it returns false'. Refute it at one input. -/
def commitMakesWrong : ChangeSpec := { name := "commitMakes", fn := fun _ => fun
  | [d1, d2, d3] => { results := [.lit (.bool false)], args := [d1, d2, d3] }
  | _ => none }
def CommitMakesWrongFalsely : Prop := commitMakesRow.holds Try.pinned (OpenSpec.ofChange commitMakesWrong)

/-- 'palfreylaw14.CommitPacks': WHATEVER THE INPUT: true; the input reads as it did. -/
def commitPacksSpec : ChangeSpec := { name := "commitPacks", fn := fun _ => fun
  | [d1, d2, d3] => { results := [.lit (.bool true)], args := [d1, d2, d3] }
  | _ => none }
def commitPacksRow : OpenClaim := { program := "ytbalnjejamigaaa", sum := "18b420d0fbbb8da27b8d99e579a6a64d76c92ad1f84151f88e3b1fb14b040f30", func := "palfrey/palfreylaw14.CommitPacks", spec := "commitPacks", apart := false }
def CommitPacksSaid : Prop := commitPacksRow.holds Try.pinned (OpenSpec.ofChange commitPacksSpec)

/-- ITS FALSE NEIGHBOUR: 'it returns false'. Refute it at one input. -/
def commitPacksWrong : ChangeSpec := { name := "commitPacks", fn := fun _ => fun
  | [d1, d2, d3] => { results := [.lit (.bool false)], args := [d1, d2, d3] }
  | _ => none }
def CommitPacksWrongFalsely : Prop := commitPacksRow.holds Try.pinned (OpenSpec.ofChange commitPacksWrong)

/-- 'palfreylaw14.CommitOne': WHATEVER THE INPUT: true; the input reads as it did. -/
def commitOneSpec : ChangeSpec := { name := "commitOne", fn := fun _ => fun
  | [d1, d2, d3] => { results := [.lit (.bool true)], args := [d1, d2, d3] }
  | _ => none }
def commitOneRow : OpenClaim := { program := "ytbalnjejamigaaa", sum := "18b420d0fbbb8da27b8d99e579a6a64d76c92ad1f84151f88e3b1fb14b040f30", func := "palfrey/palfreylaw14.CommitOne", spec := "commitOne", apart := false }
def CommitOneSaid : Prop := commitOneRow.holds Try.pinned (OpenSpec.ofChange commitOneSpec)

/-- ITS FALSE NEIGHBOUR: 'it returns false'. Refute it at one input. -/
def commitOneWrong : ChangeSpec := { name := "commitOne", fn := fun _ => fun
  | [d1, d2, d3] => { results := [.lit (.bool false)], args := [d1, d2, d3] }
  | _ => none }
def CommitOneWrongFalsely : Prop := commitOneRow.holds Try.pinned (OpenSpec.ofChange commitOneWrong)

/-- 'palfreylaw14.CommitRows': WHATEVER THE INPUT: true; the input reads as it did. -/
def commitRowsSpec : ChangeSpec := { name := "commitRows", fn := fun _ => fun
  | [d1, d2, d3] => { results := [.lit (.bool true)], args := [d1, d2, d3] }
  | _ => none }
def commitRowsRow : OpenClaim := { program := "ytbalnjejamigaaa", sum := "18b420d0fbbb8da27b8d99e579a6a64d76c92ad1f84151f88e3b1fb14b040f30", func := "palfrey/palfreylaw14.CommitRows", spec := "commitRows", apart := false }
def CommitRowsSaid : Prop := commitRowsRow.holds Try.pinned (OpenSpec.ofChange commitRowsSpec)

/-- ITS FALSE NEIGHBOUR: 'it returns false'. Refute it at one input. -/
def commitRowsWrong : ChangeSpec := { name := "commitRows", fn := fun _ => fun
  | [d1, d2, d3] => { results := [.lit (.bool false)], args := [d1, d2, d3] }
  | _ => none }
def CommitRowsWrongFalsely : Prop := commitRowsRow.holds Try.pinned (OpenSpec.ofChange commitRowsWrong)

/-- 'palfreylaw16.StampMakes': WHATEVER THE INPUT: true; the input reads as it did. -/
def stampMakesSpec : ChangeSpec := { name := "stampMakes", fn := fun _ => fun
  | [d1, d2, d3] => { results := [.lit (.bool true)], args := [d1, d2, d3] }
  | _ => none }
def stampMakesRow : OpenClaim := { program := "ytbalnjejamigaaa", sum := "18b420d0fbbb8da27b8d99e579a6a64d76c92ad1f84151f88e3b1fb14b040f30", func := "palfrey/palfreylaw16.StampMakes", spec := "stampMakes", unfollowed := true, recurses := true, apart := false }
def StampMakesSaid : Prop := stampMakesRow.holds Try.pinned (OpenSpec.ofChange stampMakesSpec)

/-- ITS FALSE NEIGHBOUR: 'it returns false'. Refute it at one input. -/
def stampMakesWrong : ChangeSpec := { name := "stampMakes", fn := fun _ => fun
  | [d1, d2, d3] => { results := [.lit (.bool false)], args := [d1, d2, d3] }
  | _ => none }
def StampMakesWrongFalsely : Prop := stampMakesRow.holds Try.pinned (OpenSpec.ofChange stampMakesWrong)

/-- 'palfreylaw16.StampWindow': WHATEVER THE INPUT: true; the input reads as it did. -/
def stampWindowSpec : ChangeSpec := { name := "stampWindow", fn := fun _ => fun
  | [d1, d2, d3] => { results := [.lit (.bool true)], args := [d1, d2, d3] }
  | _ => none }
def stampWindowRow : OpenClaim := { program := "ytbalnjejamigaaa", sum := "18b420d0fbbb8da27b8d99e579a6a64d76c92ad1f84151f88e3b1fb14b040f30", func := "palfrey/palfreylaw16.StampWindow", spec := "stampWindow", unfollowed := true, recurses := true, apart := false }
def StampWindowSaid : Prop := stampWindowRow.holds Try.pinned (OpenSpec.ofChange stampWindowSpec)

/-- ITS FALSE NEIGHBOUR: 'it returns false'. Refute it at one input. -/
def stampWindowWrong : ChangeSpec := { name := "stampWindow", fn := fun _ => fun
  | [d1, d2, d3] => { results := [.lit (.bool false)], args := [d1, d2, d3] }
  | _ => none }
def StampWindowWrongFalsely : Prop := stampWindowRow.holds Try.pinned (OpenSpec.ofChange stampWindowWrong)

/-- 'palfreylaw16.StampChecks': WHATEVER THE INPUT: true; the input reads as it did. -/
def stampChecksSpec : ChangeSpec := { name := "stampChecks", fn := fun _ => fun
  | [d1, d2, d3] => { results := [.lit (.bool true)], args := [d1, d2, d3] }
  | _ => none }
def stampChecksRow : OpenClaim := { program := "ytbalnjejamigaaa", sum := "18b420d0fbbb8da27b8d99e579a6a64d76c92ad1f84151f88e3b1fb14b040f30", func := "palfrey/palfreylaw16.StampChecks", spec := "stampChecks", unfollowed := true, recurses := true, apart := false }
def StampChecksSaid : Prop := stampChecksRow.holds Try.pinned (OpenSpec.ofChange stampChecksSpec)

/-- ITS FALSE NEIGHBOUR: 'it returns false'. Refute it at one input. -/
def stampChecksWrong : ChangeSpec := { name := "stampChecks", fn := fun _ => fun
  | [d1, d2, d3] => { results := [.lit (.bool false)], args := [d1, d2, d3] }
  | _ => none }
def StampChecksWrongFalsely : Prop := stampChecksRow.holds Try.pinned (OpenSpec.ofChange stampChecksWrong)

/-- 'palfreylaw16.StampEpochs': WHATEVER THE INPUT: true; the input reads as it did. -/
def stampEpochsSpec : ChangeSpec := { name := "stampEpochs", fn := fun _ => fun
  | [d1, d2, d3] => { results := [.lit (.bool true)], args := [d1, d2, d3] }
  | _ => none }
def stampEpochsRow : OpenClaim := { program := "ytbalnjejamigaaa", sum := "18b420d0fbbb8da27b8d99e579a6a64d76c92ad1f84151f88e3b1fb14b040f30", func := "palfrey/palfreylaw16.StampEpochs", spec := "stampEpochs", unfollowed := true, recurses := true, apart := false }
def StampEpochsSaid : Prop := stampEpochsRow.holds Try.pinned (OpenSpec.ofChange stampEpochsSpec)

/-- ITS FALSE NEIGHBOUR: 'it returns false'. Refute it at one input. -/
def stampEpochsWrong : ChangeSpec := { name := "stampEpochs", fn := fun _ => fun
  | [d1, d2, d3] => { results := [.lit (.bool false)], args := [d1, d2, d3] }
  | _ => none }
def StampEpochsWrongFalsely : Prop := stampEpochsRow.holds Try.pinned (OpenSpec.ofChange stampEpochsWrong)

/-- 'palfreylaw16.StampReads': WHATEVER THE INPUT: true; the input reads as it did. -/
def stampReadsSpec : ChangeSpec := { name := "stampReads", fn := fun _ => fun
  | [d1, d2] => { results := [.lit (.bool true)], args := [d1, d2] }
  | _ => none }
def stampReadsRow : OpenClaim := { program := "ytbalnjejamigaaa", sum := "18b420d0fbbb8da27b8d99e579a6a64d76c92ad1f84151f88e3b1fb14b040f30", func := "palfrey/palfreylaw16.StampReads", spec := "stampReads", unfollowed := true, recurses := true, apart := false }
def StampReadsSaid : Prop := stampReadsRow.holds Try.pinned (OpenSpec.ofChange stampReadsSpec)

/-- ITS FALSE NEIGHBOUR: 'it returns false'. Refute it at one input. -/
def stampReadsWrong : ChangeSpec := { name := "stampReads", fn := fun _ => fun
  | [d1, d2] => { results := [.lit (.bool false)], args := [d1, d2] }
  | _ => none }
def StampReadsWrongFalsely : Prop := stampReadsRow.holds Try.pinned (OpenSpec.ofChange stampReadsWrong)

/-- 'palfreylaw17.ReportReads': WHATEVER THE INPUT: true; the input reads as it did. -/
def reportReadsSpec : ChangeSpec := { name := "reportReads", fn := fun _ => fun
  | [d1, d2] => { results := [.lit (.bool true)], args := [d1, d2] }
  | _ => none }
def reportReadsRow : OpenClaim := { program := "ytbalnjejamigaaa", sum := "18b420d0fbbb8da27b8d99e579a6a64d76c92ad1f84151f88e3b1fb14b040f30", func := "palfrey/palfreylaw17.ReportReads", spec := "reportReads", unfollowed := true, recurses := true, apart := false }
def ReportReadsSaid : Prop := reportReadsRow.holds Try.pinned (OpenSpec.ofChange reportReadsSpec)

/-- ITS FALSE NEIGHBOUR: 'it returns false'. Refute it at one input. -/
def reportReadsWrong : ChangeSpec := { name := "reportReads", fn := fun _ => fun
  | [d1, d2] => { results := [.lit (.bool false)], args := [d1, d2] }
  | _ => none }
def ReportReadsWrongFalsely : Prop := reportReadsRow.holds Try.pinned (OpenSpec.ofChange reportReadsWrong)

/-- 'palfreylaw17.ReportChecks': WHATEVER THE INPUT: true; the input reads as it did. -/
def reportChecksSpec : ChangeSpec := { name := "reportChecks", fn := fun _ => fun
  | [d1, d2, d3] => { results := [.lit (.bool true)], args := [d1, d2, d3] }
  | _ => none }
def reportChecksRow : OpenClaim := { program := "ytbalnjejamigaaa", sum := "18b420d0fbbb8da27b8d99e579a6a64d76c92ad1f84151f88e3b1fb14b040f30", func := "palfrey/palfreylaw17.ReportChecks", spec := "reportChecks", unfollowed := true, recurses := true, apart := false }
def ReportChecksSaid : Prop := reportChecksRow.holds Try.pinned (OpenSpec.ofChange reportChecksSpec)

/-- ITS FALSE NEIGHBOUR: 'it returns false'. Refute it at one input. -/
def reportChecksWrong : ChangeSpec := { name := "reportChecks", fn := fun _ => fun
  | [d1, d2, d3] => { results := [.lit (.bool false)], args := [d1, d2, d3] }
  | _ => none }
def ReportChecksWrongFalsely : Prop := reportChecksRow.holds Try.pinned (OpenSpec.ofChange reportChecksWrong)

/-- 'palfreylaw17.ReportBack': WHATEVER THE INPUT: true; the input reads as it did. -/
def reportBackSpec : ChangeSpec := { name := "reportBack", fn := fun _ => fun
  | [d1, d2] => { results := [.lit (.bool true)], args := [d1, d2] }
  | _ => none }
def reportBackRow : OpenClaim := { program := "ytbalnjejamigaaa", sum := "18b420d0fbbb8da27b8d99e579a6a64d76c92ad1f84151f88e3b1fb14b040f30", func := "palfrey/palfreylaw17.ReportBack", spec := "reportBack", unfollowed := true, recurses := true, apart := false }
def ReportBackSaid : Prop := reportBackRow.holds Try.pinned (OpenSpec.ofChange reportBackSpec)

/-- ITS FALSE NEIGHBOUR: 'it returns false'. Refute it at one input. -/
def reportBackWrong : ChangeSpec := { name := "reportBack", fn := fun _ => fun
  | [d1, d2] => { results := [.lit (.bool false)], args := [d1, d2] }
  | _ => none }
def ReportBackWrongFalsely : Prop := reportBackRow.holds Try.pinned (OpenSpec.ofChange reportBackWrong)

/-- 'palfreylaw17.ReportTurned': WHATEVER THE INPUT: true; the input reads as it did. -/
def reportTurnedSpec : ChangeSpec := { name := "reportTurned", fn := fun _ => fun
  | [d1, d2, d3] => { results := [.lit (.bool true)], args := [d1, d2, d3] }
  | _ => none }
def reportTurnedRow : OpenClaim := { program := "ytbalnjejamigaaa", sum := "18b420d0fbbb8da27b8d99e579a6a64d76c92ad1f84151f88e3b1fb14b040f30", func := "palfrey/palfreylaw17.ReportTurned", spec := "reportTurned", unfollowed := true, recurses := true, apart := false }
def ReportTurnedSaid : Prop := reportTurnedRow.holds Try.pinned (OpenSpec.ofChange reportTurnedSpec)

/-- ITS FALSE NEIGHBOUR: 'it returns false'. Refute it at one input. -/
def reportTurnedWrong : ChangeSpec := { name := "reportTurned", fn := fun _ => fun
  | [d1, d2, d3] => { results := [.lit (.bool false)], args := [d1, d2, d3] }
  | _ => none }
def ReportTurnedWrongFalsely : Prop := reportTurnedRow.holds Try.pinned (OpenSpec.ofChange reportTurnedWrong)

/- THE SECOND FORM. 'bulk': how many values and letters a reading holds, each counted each time it is reached (what is shared counts as often as it is met; a slice's spare places count too). A statement '..UptoSaid' is the law's where the arguments, and the package variables that the reading takes, are together of bulk at most 1048576: NARROWER than '..Said'. Prove '..Said' where nothing that the law and all that it calls make is longer than what came in: it says more and counts as full. Else prove '..UptoSaid'. A law counts once. -/
mutual
def uptoBulk {H : Type} : DataW H → Nat
  | .lit (.string bytes) => bytes.length + 1
  | .lit _ => 1
  | .nil => 1
  | .ptr d => uptoBulk d + 1
  | .slice elems spare => uptoBulkAll elems + uptoBulkAll spare + 1
  | .agg parts => uptoBulkAll parts + 1
  | .iface _ d => uptoBulk d + 1
  | .map entries => uptoBulkEntries entries + 1
  | .held _ => 1
def uptoBulkAll {H : Type} : List (DataW H) → Nat
  | [] => 0
  | d :: r => uptoBulk d + uptoBulkAll r
def uptoBulkEntries {H : Type} : List (Lit × DataW H) → Nat
  | [] => 0
  | x :: r => uptoBulkEntry x + uptoBulkEntries r
def uptoBulkEntry {H : Type} : Lit × DataW H → Nat
  | (.string bytes, d) => bytes.length + uptoBulk d + 1
  | (_, d) => uptoBulk d + 1
 end
def uptoSmall : (H : Type) → List (DataW H) → Bool := fun _ ds => decide (uptoBulkAll ds ≤ 1048576)
def OpenSpec.upto (s : _root_.Go.ChangeSpec) : _root_.Go.OpenSpec := { _root_.Go.OpenSpec.ofChange s with cond := some uptoSmall }

/-- 'palfreylaw02.BlakeSums', WHERE WHAT IT READS IS OF BULK AT MOST 1048576: true; the input reads as it did. -/
def blakeSumsUptoRow : OpenClaim := { program := "ytbalnjejamigaaa", sum := "18b420d0fbbb8da27b8d99e579a6a64d76c92ad1f84151f88e3b1fb14b040f30", func := "palfrey/palfreylaw02.BlakeSums", spec := "blakeSums", apart := false, narrowed := true }
def BlakeSumsUptoSaid : Prop := blakeSumsUptoRow.holds Try.pinned (OpenSpec.upto blakeSumsSpec)

/-- 'palfreylaw02.BlakeOwn', WHERE WHAT IT READS IS OF BULK AT MOST 1048576: true; the input reads as it did. -/
def blakeOwnUptoRow : OpenClaim := { program := "ytbalnjejamigaaa", sum := "18b420d0fbbb8da27b8d99e579a6a64d76c92ad1f84151f88e3b1fb14b040f30", func := "palfrey/palfreylaw02.BlakeOwn", spec := "blakeOwn", apart := false, narrowed := true }
def BlakeOwnUptoSaid : Prop := blakeOwnUptoRow.holds Try.pinned (OpenSpec.upto blakeOwnSpec)

/-- 'palfreylaw02.BlakeKeys', WHERE WHAT IT READS IS OF BULK AT MOST 1048576: true; the input reads as it did. -/
def blakeKeysUptoRow : OpenClaim := { program := "ytbalnjejamigaaa", sum := "18b420d0fbbb8da27b8d99e579a6a64d76c92ad1f84151f88e3b1fb14b040f30", func := "palfrey/palfreylaw02.BlakeKeys", spec := "blakeKeys", apart := false, narrowed := true }
def BlakeKeysUptoSaid : Prop := blakeKeysUptoRow.holds Try.pinned (OpenSpec.upto blakeKeysSpec)

/-- 'palfreylaw02.BlakeChecks', WHERE WHAT IT READS IS OF BULK AT MOST 1048576: true; the input reads as it did. -/
def blakeChecksUptoRow : OpenClaim := { program := "ytbalnjejamigaaa", sum := "18b420d0fbbb8da27b8d99e579a6a64d76c92ad1f84151f88e3b1fb14b040f30", func := "palfrey/palfreylaw02.BlakeChecks", spec := "blakeChecks", apart := false, narrowed := true }
def BlakeChecksUptoSaid : Prop := blakeChecksUptoRow.holds Try.pinned (OpenSpec.upto blakeChecksSpec)

/-- 'palfreylaw14.CommitMakes', WHERE WHAT IT READS IS OF BULK AT MOST 1048576: true; the input reads as it did. -/
def commitMakesUptoRow : OpenClaim := { program := "ytbalnjejamigaaa", sum := "18b420d0fbbb8da27b8d99e579a6a64d76c92ad1f84151f88e3b1fb14b040f30", func := "palfrey/palfreylaw14.CommitMakes", spec := "commitMakes", apart := false, narrowed := true }
def CommitMakesUptoSaid : Prop := commitMakesUptoRow.holds Try.pinned (OpenSpec.upto commitMakesSpec)

/-- 'palfreylaw14.CommitPacks', WHERE WHAT IT READS IS OF BULK AT MOST 1048576: true; the input reads as it did. -/
def commitPacksUptoRow : OpenClaim := { program := "ytbalnjejamigaaa", sum := "18b420d0fbbb8da27b8d99e579a6a64d76c92ad1f84151f88e3b1fb14b040f30", func := "palfrey/palfreylaw14.CommitPacks", spec := "commitPacks", apart := false, narrowed := true }
def CommitPacksUptoSaid : Prop := commitPacksUptoRow.holds Try.pinned (OpenSpec.upto commitPacksSpec)

/-- 'palfreylaw14.CommitOne', WHERE WHAT IT READS IS OF BULK AT MOST 1048576: true; the input reads as it did. -/
def commitOneUptoRow : OpenClaim := { program := "ytbalnjejamigaaa", sum := "18b420d0fbbb8da27b8d99e579a6a64d76c92ad1f84151f88e3b1fb14b040f30", func := "palfrey/palfreylaw14.CommitOne", spec := "commitOne", apart := false, narrowed := true }
def CommitOneUptoSaid : Prop := commitOneUptoRow.holds Try.pinned (OpenSpec.upto commitOneSpec)

/-- 'palfreylaw14.CommitRows', WHERE WHAT IT READS IS OF BULK AT MOST 1048576: true; the input reads as it did. -/
def commitRowsUptoRow : OpenClaim := { program := "ytbalnjejamigaaa", sum := "18b420d0fbbb8da27b8d99e579a6a64d76c92ad1f84151f88e3b1fb14b040f30", func := "palfrey/palfreylaw14.CommitRows", spec := "commitRows", apart := false, narrowed := true }
def CommitRowsUptoSaid : Prop := commitRowsUptoRow.holds Try.pinned (OpenSpec.upto commitRowsSpec)

/-- 'palfreylaw16.StampMakes', WHERE WHAT IT READS IS OF BULK AT MOST 1048576: true; the input reads as it did. -/
def stampMakesUptoRow : OpenClaim := { program := "ytbalnjejamigaaa", sum := "18b420d0fbbb8da27b8d99e579a6a64d76c92ad1f84151f88e3b1fb14b040f30", func := "palfrey/palfreylaw16.StampMakes", spec := "stampMakes", unfollowed := true, recurses := true, apart := false, narrowed := true }
def StampMakesUptoSaid : Prop := stampMakesUptoRow.holds Try.pinned (OpenSpec.upto stampMakesSpec)

/-- 'palfreylaw16.StampWindow', WHERE WHAT IT READS IS OF BULK AT MOST 1048576: true; the input reads as it did. -/
def stampWindowUptoRow : OpenClaim := { program := "ytbalnjejamigaaa", sum := "18b420d0fbbb8da27b8d99e579a6a64d76c92ad1f84151f88e3b1fb14b040f30", func := "palfrey/palfreylaw16.StampWindow", spec := "stampWindow", unfollowed := true, recurses := true, apart := false, narrowed := true }
def StampWindowUptoSaid : Prop := stampWindowUptoRow.holds Try.pinned (OpenSpec.upto stampWindowSpec)

/-- 'palfreylaw16.StampChecks', WHERE WHAT IT READS IS OF BULK AT MOST 1048576: true; the input reads as it did. -/
def stampChecksUptoRow : OpenClaim := { program := "ytbalnjejamigaaa", sum := "18b420d0fbbb8da27b8d99e579a6a64d76c92ad1f84151f88e3b1fb14b040f30", func := "palfrey/palfreylaw16.StampChecks", spec := "stampChecks", unfollowed := true, recurses := true, apart := false, narrowed := true }
def StampChecksUptoSaid : Prop := stampChecksUptoRow.holds Try.pinned (OpenSpec.upto stampChecksSpec)

/-- 'palfreylaw16.StampEpochs', WHERE WHAT IT READS IS OF BULK AT MOST 1048576: true; the input reads as it did. -/
def stampEpochsUptoRow : OpenClaim := { program := "ytbalnjejamigaaa", sum := "18b420d0fbbb8da27b8d99e579a6a64d76c92ad1f84151f88e3b1fb14b040f30", func := "palfrey/palfreylaw16.StampEpochs", spec := "stampEpochs", unfollowed := true, recurses := true, apart := false, narrowed := true }
def StampEpochsUptoSaid : Prop := stampEpochsUptoRow.holds Try.pinned (OpenSpec.upto stampEpochsSpec)

/-- 'palfreylaw16.StampReads', WHERE WHAT IT READS IS OF BULK AT MOST 1048576: true; the input reads as it did. -/
def stampReadsUptoRow : OpenClaim := { program := "ytbalnjejamigaaa", sum := "18b420d0fbbb8da27b8d99e579a6a64d76c92ad1f84151f88e3b1fb14b040f30", func := "palfrey/palfreylaw16.StampReads", spec := "stampReads", unfollowed := true, recurses := true, apart := false, narrowed := true }
def StampReadsUptoSaid : Prop := stampReadsUptoRow.holds Try.pinned (OpenSpec.upto stampReadsSpec)

/-- 'palfreylaw17.ReportReads', WHERE WHAT IT READS IS OF BULK AT MOST 1048576: true; the input reads as it did. -/
def reportReadsUptoRow : OpenClaim := { program := "ytbalnjejamigaaa", sum := "18b420d0fbbb8da27b8d99e579a6a64d76c92ad1f84151f88e3b1fb14b040f30", func := "palfrey/palfreylaw17.ReportReads", spec := "reportReads", unfollowed := true, recurses := true, apart := false, narrowed := true }
def ReportReadsUptoSaid : Prop := reportReadsUptoRow.holds Try.pinned (OpenSpec.upto reportReadsSpec)

/-- 'palfreylaw17.ReportChecks', WHERE WHAT IT READS IS OF BULK AT MOST 1048576: true; the input reads as it did. -/
def reportChecksUptoRow : OpenClaim := { program := "ytbalnjejamigaaa", sum := "18b420d0fbbb8da27b8d99e579a6a64d76c92ad1f84151f88e3b1fb14b040f30", func := "palfrey/palfreylaw17.ReportChecks", spec := "reportChecks", unfollowed := true, recurses := true, apart := false, narrowed := true }
def ReportChecksUptoSaid : Prop := reportChecksUptoRow.holds Try.pinned (OpenSpec.upto reportChecksSpec)

/-- 'palfreylaw17.ReportBack', WHERE WHAT IT READS IS OF BULK AT MOST 1048576: true; the input reads as it did. -/
def reportBackUptoRow : OpenClaim := { program := "ytbalnjejamigaaa", sum := "18b420d0fbbb8da27b8d99e579a6a64d76c92ad1f84151f88e3b1fb14b040f30", func := "palfrey/palfreylaw17.ReportBack", spec := "reportBack", unfollowed := true, recurses := true, apart := false, narrowed := true }
def ReportBackUptoSaid : Prop := reportBackUptoRow.holds Try.pinned (OpenSpec.upto reportBackSpec)

/-- 'palfreylaw17.ReportTurned', WHERE WHAT IT READS IS OF BULK AT MOST 1048576: true; the input reads as it did. -/
def reportTurnedUptoRow : OpenClaim := { program := "ytbalnjejamigaaa", sum := "18b420d0fbbb8da27b8d99e579a6a64d76c92ad1f84151f88e3b1fb14b040f30", func := "palfrey/palfreylaw17.ReportTurned", spec := "reportTurned", unfollowed := true, recurses := true, apart := false, narrowed := true }
def ReportTurnedUptoSaid : Prop := reportTurnedUptoRow.holds Try.pinned (OpenSpec.upto reportTurnedSpec)

end Rows
end Go.Proofs.Ytbalnjejamigaaa
