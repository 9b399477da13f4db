/-
  No cell of these rows narrows 'for every input' (looked for: loops, veiled, ifaces, maps, wideKeys, modest, calm, conditions, laid).
  DERIVED. THE GIVEN ROWS OF THIS SEAT. 8 by the template 'for every input the law returns true; each argument reads behind the call as it read before'; 0 by the template 'total and deterministic' (their statements: YtmeckbjinmgbbaaTotals.lean).
  GIVEN WITH THE SEED: the statements are not yours to turn. If you find one false, say at which input.
  Laid BY PROGRAM, IN A SANDBOX (cutbox-rows.mjs): the forced cells as the released guide's own fill.sh prints them over the translation 81cfef064d6fa43a… (all of the seat's roots in one cut). By AI agents, Wed Nov 11 2026. No macro, syntax, notation, axiom, sorry.
-/
import Derived.Test.YtmeckbjinmgbbaaChecked
import GoSem.Claim
import GoSem.ClaimJoined
import GoSem.ClaimMapViews
import Derived.JoinedTies
import Derived.KernelRfl
namespace Go.Proofs.Ytmeckbjinmgbbaa
/- THE CELL 'sum', in the pinned program and in every row, IS THE sha256 OF THE DUMP (.gsa) THAT YtmeckbjinmgbbaaProg.lean LOADS. Nothing in Lean hashes anything: it is a label: what it is worth is what the hold of that sum in a sandbox is worth. -/
noncomputable def Try.pinned : Pinned := { name := "ytmeckbjinmgbbaa", sum := "81cfef064d6fa43abdd248b831d1ca645ae8b3e8d2232f1f1983fb4fa7048c5c", checked := Try.checked }
namespace Rows
def none {H : Type} : Left H := { results := [], args := [] }

/-- 'palfreylaw20.RelayBoth': WHATEVER THE INPUT: true; the input reads as it did. -/
def relayBothSpec : ChangeSpec := { name := "relayBoth", fn := fun _ => fun
  | [d1, d2] => { results := [.lit (.bool true)], args := [d1, d2] }
  | _ => none }
def relayBothRow : OpenClaim := { program := "ytmeckbjinmgbbaa", sum := "81cfef064d6fa43abdd248b831d1ca645ae8b3e8d2232f1f1983fb4fa7048c5c", func := "palfrey/palfreylaw20.RelayBoth", spec := "relayBoth", inPlace := ["sync/atomic.StoreInt64", "sync/atomic.LoadInt64", "sync/atomic.AddInt64"], unfollowed := true, recurses := true, apart := false }
def RelayBothSaid : Prop := relayBothRow.holds Try.pinned (OpenSpec.ofChange relayBothSpec)

/-- ITS FALSE NEIGHBOUR: 'it returns false'. Refute it at one input. -/
def relayBothWrong : ChangeSpec := { name := "relayBoth", fn := fun _ => fun
  | [d1, d2] => { results := [.lit (.bool false)], args := [d1, d2] }
  | _ => none }
def RelayBothWrongFalsely : Prop := relayBothRow.holds Try.pinned (OpenSpec.ofChange relayBothWrong)

/-- 'palfreylaw20.RelayMacs': WHATEVER THE INPUT: true; the input reads as it did. -/
def relayMacsSpec : ChangeSpec := { name := "relayMacs", fn := fun _ => fun
  | [d1, d2, d3] => { results := [.lit (.bool true)], args := [d1, d2, d3] }
  | _ => none }
def relayMacsRow : OpenClaim := { program := "ytmeckbjinmgbbaa", sum := "81cfef064d6fa43abdd248b831d1ca645ae8b3e8d2232f1f1983fb4fa7048c5c", func := "palfrey/palfreylaw20.RelayMacs", spec := "relayMacs", inPlace := ["sync/atomic.StoreInt64", "sync/atomic.LoadInt64", "sync/atomic.AddInt64"], unfollowed := true, recurses := true, apart := false }
def RelayMacsSaid : Prop := relayMacsRow.holds Try.pinned (OpenSpec.ofChange relayMacsSpec)

/-- ITS FALSE NEIGHBOUR: 'it returns false'. Refute it at one input. -/
def relayMacsWrong : ChangeSpec := { name := "relayMacs", fn := fun _ => fun
  | [d1, d2, d3] => { results := [.lit (.bool false)], args := [d1, d2, d3] }
  | _ => none }
def RelayMacsWrongFalsely : Prop := relayMacsRow.holds Try.pinned (OpenSpec.ofChange relayMacsWrong)

/-- 'palfreylaw20.RelayOnce': WHATEVER THE INPUT: true; the input reads as it did. -/
def relayOnceSpec : ChangeSpec := { name := "relayOnce", fn := fun _ => fun
  | [d1, d2, d3] => { results := [.lit (.bool true)], args := [d1, d2, d3] }
  | _ => none }
def relayOnceRow : OpenClaim := { program := "ytmeckbjinmgbbaa", sum := "81cfef064d6fa43abdd248b831d1ca645ae8b3e8d2232f1f1983fb4fa7048c5c", func := "palfrey/palfreylaw20.RelayOnce", spec := "relayOnce", inPlace := ["sync/atomic.StoreInt64", "sync/atomic.LoadInt64", "sync/atomic.AddInt64"], unfollowed := true, recurses := true, apart := false }
def RelayOnceSaid : Prop := relayOnceRow.holds Try.pinned (OpenSpec.ofChange relayOnceSpec)

/-- ITS FALSE NEIGHBOUR: 'it returns false'. Refute it at one input. -/
def relayOnceWrong : ChangeSpec := { name := "relayOnce", fn := fun _ => fun
  | [d1, d2, d3] => { results := [.lit (.bool false)], args := [d1, d2, d3] }
  | _ => none }
def RelayOnceWrongFalsely : Prop := relayOnceRow.holds Try.pinned (OpenSpec.ofChange relayOnceWrong)

/-- 'palfreylaw20.RelaySends': WHATEVER THE INPUT: true; the input reads as it did. -/
def relaySendsSpec : ChangeSpec := { name := "relaySends", fn := fun _ => fun
  | [d1, d2] => { results := [.lit (.bool true)], args := [d1, d2] }
  | _ => none }
def relaySendsRow : OpenClaim := { program := "ytmeckbjinmgbbaa", sum := "81cfef064d6fa43abdd248b831d1ca645ae8b3e8d2232f1f1983fb4fa7048c5c", func := "palfrey/palfreylaw20.RelaySends", spec := "relaySends", inPlace := ["sync/atomic.StoreInt64", "sync/atomic.LoadInt64", "sync/atomic.AddInt64"], unfollowed := true, recurses := true, apart := false }
def RelaySendsSaid : Prop := relaySendsRow.holds Try.pinned (OpenSpec.ofChange relaySendsSpec)

/-- ITS FALSE NEIGHBOUR: 'it returns false'. Refute it at one input. -/
def relaySendsWrong : ChangeSpec := { name := "relaySends", fn := fun _ => fun
  | [d1, d2] => { results := [.lit (.bool false)], args := [d1, d2] }
  | _ => none }
def RelaySendsWrongFalsely : Prop := relaySendsRow.holds Try.pinned (OpenSpec.ofChange relaySendsWrong)

/-- 'palfreylaw20.RelayRates': WHATEVER THE INPUT: true; the input reads as it did. -/
def relayRatesSpec : ChangeSpec := { name := "relayRates", fn := fun _ => fun
  | [d1, d2, d3] => { results := [.lit (.bool true)], args := [d1, d2, d3] }
  | _ => none }
def relayRatesRow : OpenClaim := { program := "ytmeckbjinmgbbaa", sum := "81cfef064d6fa43abdd248b831d1ca645ae8b3e8d2232f1f1983fb4fa7048c5c", func := "palfrey/palfreylaw20.RelayRates", spec := "relayRates", inPlace := ["sync/atomic.StoreInt64", "sync/atomic.LoadInt64", "sync/atomic.AddInt64"], unfollowed := true, recurses := true, apart := false }
def RelayRatesSaid : Prop := relayRatesRow.holds Try.pinned (OpenSpec.ofChange relayRatesSpec)

/-- ITS FALSE NEIGHBOUR: 'it returns false'. Refute it at one input. -/
def relayRatesWrong : ChangeSpec := { name := "relayRates", fn := fun _ => fun
  | [d1, d2, d3] => { results := [.lit (.bool false)], args := [d1, d2, d3] }
  | _ => none }
def RelayRatesWrongFalsely : Prop := relayRatesRow.holds Try.pinned (OpenSpec.ofChange relayRatesWrong)

/-- 'palfreylaw20.RelaySuspends': WHATEVER THE INPUT: true; the input reads as it did. -/
def relaySuspendsSpec : ChangeSpec := { name := "relaySuspends", fn := fun _ => fun
  | [d1, d2] => { results := [.lit (.bool true)], args := [d1, d2] }
  | _ => none }
def relaySuspendsRow : OpenClaim := { program := "ytmeckbjinmgbbaa", sum := "81cfef064d6fa43abdd248b831d1ca645ae8b3e8d2232f1f1983fb4fa7048c5c", func := "palfrey/palfreylaw20.RelaySuspends", spec := "relaySuspends", inPlace := ["sync/atomic.StoreInt64", "sync/atomic.LoadInt64", "sync/atomic.AddInt64"], unfollowed := true, recurses := true, apart := false }
def RelaySuspendsSaid : Prop := relaySuspendsRow.holds Try.pinned (OpenSpec.ofChange relaySuspendsSpec)

/-- ITS FALSE NEIGHBOUR: 'it returns false'. Refute it at one input. -/
def relaySuspendsWrong : ChangeSpec := { name := "relaySuspends", fn := fun _ => fun
  | [d1, d2] => { results := [.lit (.bool false)], args := [d1, d2] }
  | _ => none }
def RelaySuspendsWrongFalsely : Prop := relaySuspendsRow.holds Try.pinned (OpenSpec.ofChange relaySuspendsWrong)

/-- 'palfreylaw20.RelayPlays': WHATEVER THE INPUT: true; the input reads as it did. -/
def relayPlaysSpec : ChangeSpec := { name := "relayPlays", fn := fun _ => fun
  | [d1, d2, d3] => { results := [.lit (.bool true)], args := [d1, d2, d3] }
  | _ => none }
def relayPlaysRow : OpenClaim := { program := "ytmeckbjinmgbbaa", sum := "81cfef064d6fa43abdd248b831d1ca645ae8b3e8d2232f1f1983fb4fa7048c5c", func := "palfrey/palfreylaw20.RelayPlays", spec := "relayPlays", inPlace := ["sync/atomic.StoreInt64", "sync/atomic.LoadInt64", "sync/atomic.AddInt64"], unfollowed := true, recurses := true, apart := false }
def RelayPlaysSaid : Prop := relayPlaysRow.holds Try.pinned (OpenSpec.ofChange relayPlaysSpec)

/-- ITS FALSE NEIGHBOUR: 'it returns false'. Refute it at one input. -/
def relayPlaysWrong : ChangeSpec := { name := "relayPlays", fn := fun _ => fun
  | [d1, d2, d3] => { results := [.lit (.bool false)], args := [d1, d2, d3] }
  | _ => none }
def RelayPlaysWrongFalsely : Prop := relayPlaysRow.holds Try.pinned (OpenSpec.ofChange relayPlaysWrong)

/-- 'palfreylaw24.ModerFull': WHATEVER THE INPUT: true; the input reads as it did. -/
def moderFullSpec : ChangeSpec := { name := "moderFull", fn := fun _ => fun
  | [d1, d2, d3] => { results := [.lit (.bool true)], args := [d1, d2, d3] }
  | _ => none }
def moderFullRow : OpenClaim := { program := "ytmeckbjinmgbbaa", sum := "81cfef064d6fa43abdd248b831d1ca645ae8b3e8d2232f1f1983fb4fa7048c5c", func := "palfrey/palfreylaw24.ModerFull", spec := "moderFull", inPlace := ["sync/atomic.StoreInt64"], unfollowed := true, recurses := true, apart := false }
def ModerFullSaid : Prop := moderFullRow.holds Try.pinned (OpenSpec.ofChange moderFullSpec)

/-- ITS FALSE NEIGHBOUR: 'it returns false'. Refute it at one input. -/
def moderFullWrong : ChangeSpec := { name := "moderFull", fn := fun _ => fun
  | [d1, d2, d3] => { results := [.lit (.bool false)], args := [d1, d2, d3] }
  | _ => none }
def ModerFullWrongFalsely : Prop := moderFullRow.holds Try.pinned (OpenSpec.ofChange moderFullWrong)

/- THE SECOND FORM. 'bulk': how many values and letters a reading holds, each counted each time it is reached (what is shared counts as often as it is met; a slice's spare places count too). A statement '..UptoSaid' is the law's where the arguments, and the package variables that the reading takes, are together of bulk at most 1048576: NARROWER than '..Said'. Prove '..Said' where nothing that the law and all that it calls make is longer than what came in: it says more and counts as full. Else prove '..UptoSaid'. A law counts once. -/
mutual
def uptoBulk {H : Type} : DataW H → Nat
  | .lit (.string bytes) => bytes.length + 1
  | .lit _ => 1
  | .nil => 1
  | .ptr d => uptoBulk d + 1
  | .slice elems spare => uptoBulkAll elems + uptoBulkAll spare + 1
  | .agg parts => uptoBulkAll parts + 1
  | .iface _ d => uptoBulk d + 1
  | .map entries => uptoBulkEntries entries + 1
  | .held _ => 1
def uptoBulkAll {H : Type} : List (DataW H) → Nat
  | [] => 0
  | d :: r => uptoBulk d + uptoBulkAll r
def uptoBulkEntries {H : Type} : List (Lit × DataW H) → Nat
  | [] => 0
  | x :: r => uptoBulkEntry x + uptoBulkEntries r
def uptoBulkEntry {H : Type} : Lit × DataW H → Nat
  | (.string bytes, d) => bytes.length + uptoBulk d + 1
  | (_, d) => uptoBulk d + 1
 end
def uptoSmall : (H : Type) → List (DataW H) → Bool := fun _ ds => decide (uptoBulkAll ds ≤ 1048576)
def OpenSpec.upto (s : _root_.Go.ChangeSpec) : _root_.Go.OpenSpec := { _root_.Go.OpenSpec.ofChange s with cond := some uptoSmall }

/-- 'palfreylaw20.RelayBoth', WHERE WHAT IT READS IS OF BULK AT MOST 1048576: true; the input reads as it did. -/
def relayBothUptoRow : OpenClaim := { program := "ytmeckbjinmgbbaa", sum := "81cfef064d6fa43abdd248b831d1ca645ae8b3e8d2232f1f1983fb4fa7048c5c", func := "palfrey/palfreylaw20.RelayBoth", spec := "relayBoth", inPlace := ["sync/atomic.StoreInt64", "sync/atomic.LoadInt64", "sync/atomic.AddInt64"], unfollowed := true, recurses := true, apart := false, narrowed := true }
def RelayBothUptoSaid : Prop := relayBothUptoRow.holds Try.pinned (OpenSpec.upto relayBothSpec)

/-- 'palfreylaw20.RelayMacs', WHERE WHAT IT READS IS OF BULK AT MOST 1048576: true; the input reads as it did. -/
def relayMacsUptoRow : OpenClaim := { program := "ytmeckbjinmgbbaa", sum := "81cfef064d6fa43abdd248b831d1ca645ae8b3e8d2232f1f1983fb4fa7048c5c", func := "palfrey/palfreylaw20.RelayMacs", spec := "relayMacs", inPlace := ["sync/atomic.StoreInt64", "sync/atomic.LoadInt64", "sync/atomic.AddInt64"], unfollowed := true, recurses := true, apart := false, narrowed := true }
def RelayMacsUptoSaid : Prop := relayMacsUptoRow.holds Try.pinned (OpenSpec.upto relayMacsSpec)

/-- 'palfreylaw20.RelayOnce', WHERE WHAT IT READS IS OF BULK AT MOST 1048576: true; the input reads as it did. -/
def relayOnceUptoRow : OpenClaim := { program := "ytmeckbjinmgbbaa", sum := "81cfef064d6fa43abdd248b831d1ca645ae8b3e8d2232f1f1983fb4fa7048c5c", func := "palfrey/palfreylaw20.RelayOnce", spec := "relayOnce", inPlace := ["sync/atomic.StoreInt64", "sync/atomic.LoadInt64", "sync/atomic.AddInt64"], unfollowed := true, recurses := true, apart := false, narrowed := true }
def RelayOnceUptoSaid : Prop := relayOnceUptoRow.holds Try.pinned (OpenSpec.upto relayOnceSpec)

/-- 'palfreylaw20.RelaySends', WHERE WHAT IT READS IS OF BULK AT MOST 1048576: true; the input reads as it did. -/
def relaySendsUptoRow : OpenClaim := { program := "ytmeckbjinmgbbaa", sum := "81cfef064d6fa43abdd248b831d1ca645ae8b3e8d2232f1f1983fb4fa7048c5c", func := "palfrey/palfreylaw20.RelaySends", spec := "relaySends", inPlace := ["sync/atomic.StoreInt64", "sync/atomic.LoadInt64", "sync/atomic.AddInt64"], unfollowed := true, recurses := true, apart := false, narrowed := true }
def RelaySendsUptoSaid : Prop := relaySendsUptoRow.holds Try.pinned (OpenSpec.upto relaySendsSpec)

/-- 'palfreylaw20.RelayRates', WHERE WHAT IT READS IS OF BULK AT MOST 1048576: true; the input reads as it did. -/
def relayRatesUptoRow : OpenClaim := { program := "ytmeckbjinmgbbaa", sum := "81cfef064d6fa43abdd248b831d1ca645ae8b3e8d2232f1f1983fb4fa7048c5c", func := "palfrey/palfreylaw20.RelayRates", spec := "relayRates", inPlace := ["sync/atomic.StoreInt64", "sync/atomic.LoadInt64", "sync/atomic.AddInt64"], unfollowed := true, recurses := true, apart := false, narrowed := true }
def RelayRatesUptoSaid : Prop := relayRatesUptoRow.holds Try.pinned (OpenSpec.upto relayRatesSpec)

/-- 'palfreylaw20.RelaySuspends', WHERE WHAT IT READS IS OF BULK AT MOST 1048576: true; the input reads as it did. -/
def relaySuspendsUptoRow : OpenClaim := { program := "ytmeckbjinmgbbaa", sum := "81cfef064d6fa43abdd248b831d1ca645ae8b3e8d2232f1f1983fb4fa7048c5c", func := "palfrey/palfreylaw20.RelaySuspends", spec := "relaySuspends", inPlace := ["sync/atomic.StoreInt64", "sync/atomic.LoadInt64", "sync/atomic.AddInt64"], unfollowed := true, recurses := true, apart := false, narrowed := true }
def RelaySuspendsUptoSaid : Prop := relaySuspendsUptoRow.holds Try.pinned (OpenSpec.upto relaySuspendsSpec)

/-- 'palfreylaw20.RelayPlays', WHERE WHAT IT READS IS OF BULK AT MOST 1048576: true; the input reads as it did. -/
def relayPlaysUptoRow : OpenClaim := { program := "ytmeckbjinmgbbaa", sum := "81cfef064d6fa43abdd248b831d1ca645ae8b3e8d2232f1f1983fb4fa7048c5c", func := "palfrey/palfreylaw20.RelayPlays", spec := "relayPlays", inPlace := ["sync/atomic.StoreInt64", "sync/atomic.LoadInt64", "sync/atomic.AddInt64"], unfollowed := true, recurses := true, apart := false, narrowed := true }
def RelayPlaysUptoSaid : Prop := relayPlaysUptoRow.holds Try.pinned (OpenSpec.upto relayPlaysSpec)

/-- 'palfreylaw24.ModerFull', WHERE WHAT IT READS IS OF BULK AT MOST 1048576: true; the input reads as it did. -/
def moderFullUptoRow : OpenClaim := { program := "ytmeckbjinmgbbaa", sum := "81cfef064d6fa43abdd248b831d1ca645ae8b3e8d2232f1f1983fb4fa7048c5c", func := "palfrey/palfreylaw24.ModerFull", spec := "moderFull", inPlace := ["sync/atomic.StoreInt64"], unfollowed := true, recurses := true, apart := false, narrowed := true }
def ModerFullUptoSaid : Prop := moderFullUptoRow.holds Try.pinned (OpenSpec.upto moderFullSpec)

end Rows
end Go.Proofs.Ytmeckbjinmgbbaa
