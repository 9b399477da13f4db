/-
  No cell of these rows narrows 'for every input' (looked for: loops, veiled, ifaces, maps, wideKeys, modest, calm, conditions, laid).
  DERIVED. THE GIVEN ROWS OF THIS SEAT. 3 by the template 'for every input the law returns true; each argument reads behind the call as it read before'; 0 by the template 'total and deterministic' (their statements: YtmeckbjinmgbbaaGreatTotals.lean).
  GIVEN WITH THE SEED: the statements are not yours to turn. If you find one false, say at which input.
  Laid BY PROGRAM, IN A SANDBOX (cutbox-rows.mjs): the forced cells as the released guide's own fill.sh prints them over the translation eae8bbde4154f307… (all of the seat's roots in one cut). By AI agents, Wed Nov 11 2026. No macro, syntax, notation, axiom, sorry.
-/
import Derived.Test.YtmeckbjinmgbbaaGreatChecked
import GoSem.Claim
import GoSem.ClaimJoined
import GoSem.ClaimMapViews
import Derived.JoinedTies
import Derived.KernelRfl
namespace Go.Proofs.YtmeckbjinmgbbaaGreat
/- THE CELL 'sum', in the pinned program and in every row, IS THE sha256 OF THE DUMP (.gsa) THAT YtmeckbjinmgbbaaGreatProg.lean LOADS. Nothing in Lean hashes anything: it is a label: what it is worth is what the hold of that sum in a sandbox is worth. -/
noncomputable def Tryz.pinned : Pinned := { name := "ytmeckbjinmgbbaagreat", sum := "eae8bbde4154f307492d204ebdc685412b2e95d570ecd59121b5b9519724c217", checked := Tryz.checked }
namespace Rows
def none {H : Type} : Left H := { results := [], args := [] }

/-- 'palfreylaw24.ModerAppeals': WHATEVER THE INPUT: true; the input reads as it did. -/
def moderAppealsSpec : ChangeSpec := { name := "moderAppeals", fn := fun _ => fun
  | [d1, d2, d3] => { results := [.lit (.bool true)], args := [d1, d2, d3] }
  | _ => none }
def moderAppealsRow : OpenClaim := { program := "ytmeckbjinmgbbaagreat", sum := "eae8bbde4154f307492d204ebdc685412b2e95d570ecd59121b5b9519724c217", func := "palfrey/palfreylaw24.ModerAppeals", spec := "moderAppeals", inPlace := ["sync/atomic.StoreInt64", "sync/atomic.LoadInt64", "sync/atomic.AddInt64"], unfollowed := true, recurses := true, apart := false }
def ModerAppealsSaid : Prop := moderAppealsRow.holds Tryz.pinned (OpenSpec.ofChange moderAppealsSpec)

/-- ITS FALSE NEIGHBOUR: 'it returns false'. Refute it at one input. -/
def moderAppealsWrong : ChangeSpec := { name := "moderAppeals", fn := fun _ => fun
  | [d1, d2, d3] => { results := [.lit (.bool false)], args := [d1, d2, d3] }
  | _ => none }
def ModerAppealsWrongFalsely : Prop := moderAppealsRow.holds Tryz.pinned (OpenSpec.ofChange moderAppealsWrong)

/-- 'palfreylaw24.ModerOnce': WHATEVER THE INPUT: true; the input reads as it did. -/
def moderOnceSpec : ChangeSpec := { name := "moderOnce", fn := fun _ => fun
  | [d1, d2, d3] => { results := [.lit (.bool true)], args := [d1, d2, d3] }
  | _ => none }
def moderOnceRow : OpenClaim := { program := "ytmeckbjinmgbbaagreat", sum := "eae8bbde4154f307492d204ebdc685412b2e95d570ecd59121b5b9519724c217", func := "palfrey/palfreylaw24.ModerOnce", spec := "moderOnce", inPlace := ["sync/atomic.StoreInt64"], unfollowed := true, recurses := true, apart := false }
def ModerOnceSaid : Prop := moderOnceRow.holds Tryz.pinned (OpenSpec.ofChange moderOnceSpec)

/-- ITS FALSE NEIGHBOUR: 'it returns false'. Refute it at one input. -/
def moderOnceWrong : ChangeSpec := { name := "moderOnce", fn := fun _ => fun
  | [d1, d2, d3] => { results := [.lit (.bool false)], args := [d1, d2, d3] }
  | _ => none }
def ModerOnceWrongFalsely : Prop := moderOnceRow.holds Tryz.pinned (OpenSpec.ofChange moderOnceWrong)

/-- 'palfreylaw24.ModerPlays': WHATEVER THE INPUT: true; the input reads as it did. -/
def moderPlaysSpec : ChangeSpec := { name := "moderPlays", fn := fun _ => fun
  | [d1, d2, d3] => { results := [.lit (.bool true)], args := [d1, d2, d3] }
  | _ => none }
def moderPlaysRow : OpenClaim := { program := "ytmeckbjinmgbbaagreat", sum := "eae8bbde4154f307492d204ebdc685412b2e95d570ecd59121b5b9519724c217", func := "palfrey/palfreylaw24.ModerPlays", spec := "moderPlays", inPlace := ["sync/atomic.StoreInt64", "sync/atomic.LoadInt64", "sync/atomic.AddInt64"], unfollowed := true, recurses := true, apart := false }
def ModerPlaysSaid : Prop := moderPlaysRow.holds Tryz.pinned (OpenSpec.ofChange moderPlaysSpec)

/-- ITS FALSE NEIGHBOUR: 'it returns false'. Refute it at one input. -/
def moderPlaysWrong : ChangeSpec := { name := "moderPlays", fn := fun _ => fun
  | [d1, d2, d3] => { results := [.lit (.bool false)], args := [d1, d2, d3] }
  | _ => none }
def ModerPlaysWrongFalsely : Prop := moderPlaysRow.holds Tryz.pinned (OpenSpec.ofChange moderPlaysWrong)

/- THE SECOND FORM. 'bulk': how many values and letters a reading holds, each counted each time it is reached (what is shared counts as often as it is met; a slice's spare places count too). A statement '..UptoSaid' is the law's where the arguments, and the package variables that the reading takes, are together of bulk at most 1048576: NARROWER than '..Said'. Prove '..Said' where nothing that the law and all that it calls make is longer than what came in: it says more and counts as full. Else prove '..UptoSaid'. A law counts once. -/
mutual
def uptoBulk {H : Type} : DataW H → Nat
  | .lit (.string bytes) => bytes.length + 1
  | .lit _ => 1
  | .nil => 1
  | .ptr d => uptoBulk d + 1
  | .slice elems spare => uptoBulkAll elems + uptoBulkAll spare + 1
  | .agg parts => uptoBulkAll parts + 1
  | .iface _ d => uptoBulk d + 1
  | .map entries => uptoBulkEntries entries + 1
  | .held _ => 1
def uptoBulkAll {H : Type} : List (DataW H) → Nat
  | [] => 0
  | d :: r => uptoBulk d + uptoBulkAll r
def uptoBulkEntries {H : Type} : List (Lit × DataW H) → Nat
  | [] => 0
  | x :: r => uptoBulkEntry x + uptoBulkEntries r
def uptoBulkEntry {H : Type} : Lit × DataW H → Nat
  | (.string bytes, d) => bytes.length + uptoBulk d + 1
  | (_, d) => uptoBulk d + 1
 end
def uptoSmall : (H : Type) → List (DataW H) → Bool := fun _ ds => decide (uptoBulkAll ds ≤ 1048576)
def OpenSpec.upto (s : _root_.Go.ChangeSpec) : _root_.Go.OpenSpec := { _root_.Go.OpenSpec.ofChange s with cond := some uptoSmall }

/-- 'palfreylaw24.ModerAppeals', WHERE WHAT IT READS IS OF BULK AT MOST 1048576: true; the input reads as it did. -/
def moderAppealsUptoRow : OpenClaim := { program := "ytmeckbjinmgbbaagreat", sum := "eae8bbde4154f307492d204ebdc685412b2e95d570ecd59121b5b9519724c217", func := "palfrey/palfreylaw24.ModerAppeals", spec := "moderAppeals", inPlace := ["sync/atomic.StoreInt64", "sync/atomic.LoadInt64", "sync/atomic.AddInt64"], unfollowed := true, recurses := true, apart := false, narrowed := true }
def ModerAppealsUptoSaid : Prop := moderAppealsUptoRow.holds Tryz.pinned (OpenSpec.upto moderAppealsSpec)

/-- 'palfreylaw24.ModerOnce', WHERE WHAT IT READS IS OF BULK AT MOST 1048576: true; the input reads as it did. -/
def moderOnceUptoRow : OpenClaim := { program := "ytmeckbjinmgbbaagreat", sum := "eae8bbde4154f307492d204ebdc685412b2e95d570ecd59121b5b9519724c217", func := "palfrey/palfreylaw24.ModerOnce", spec := "moderOnce", inPlace := ["sync/atomic.StoreInt64"], unfollowed := true, recurses := true, apart := false, narrowed := true }
def ModerOnceUptoSaid : Prop := moderOnceUptoRow.holds Tryz.pinned (OpenSpec.upto moderOnceSpec)

/-- 'palfreylaw24.ModerPlays', WHERE WHAT IT READS IS OF BULK AT MOST 1048576: true; the input reads as it did. -/
def moderPlaysUptoRow : OpenClaim := { program := "ytmeckbjinmgbbaagreat", sum := "eae8bbde4154f307492d204ebdc685412b2e95d570ecd59121b5b9519724c217", func := "palfrey/palfreylaw24.ModerPlays", spec := "moderPlays", inPlace := ["sync/atomic.StoreInt64", "sync/atomic.LoadInt64", "sync/atomic.AddInt64"], unfollowed := true, recurses := true, apart := false, narrowed := true }
def ModerPlaysUptoSaid : Prop := moderPlaysUptoRow.holds Tryz.pinned (OpenSpec.upto moderPlaysSpec)

end Rows
end Go.Proofs.YtmeckbjinmgbbaaGreat
