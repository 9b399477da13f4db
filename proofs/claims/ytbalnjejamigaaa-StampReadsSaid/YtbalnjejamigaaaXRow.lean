/- From a row's arguments to what our walks ask. -/
import Derived.Test.YtbalnjejamigaaaXSlice
set_option linter.unusedVariables false
set_option linter.unusedSimpArgs false
namespace Go.X
open Go.RowKit

/-- A slice of integers that came in. -/
def Ints (w : World) (A : Option Addr) (len : Nat) (k : IntKind) (zs : Nat → Int) : Prop :=
  0 < len → ∃ b o pre post, A = some ⟨b, o, none⟩ ∧ AtW w b [(o, pre), (len, (List.range len).map fun i => .int k (zs i)), (post.length, post)]

theorem spot_none {w : World} {a : Addr} {v : Value} (h : w.cell? a = some v) : a.spot = none := by
  unfold World.cell? at h
  split at h
  · split at h
    · cases h
    · rename_i hs; simpa using hs
  · cases h

theorem Ints.of {w : World} {x : Addr} {len : Nat} {k : IntKind} {zs : List Int} (hl : len ≤ zs.length) (h : ∀ i, i < zs.length → w.cell? (x.add i) = some (.int k (zs.getD i 0))) : Ints w (some x) len k fun i => zs.getD i 0 := fun h0 => by
  have hs := spot_none (h 0 (by omega))
  obtain ⟨b, o, s⟩ := x
  simp only [Addr.add, if_true] at hs
  subst hs
  obtain ⟨pre, post, hA⟩ := AtW_of_cells (w := w) (b := b) (o := o) (n := len) (f := fun i => .int k (zs.getD i 0)) h0 (fun i hi => by
    have := h i (by omega)
    rwa [add_none] at this)
  exact ⟨b, o, pre, post, rfl, hA⟩

theorem Ints.none {w : World} {k : IntKind} {zs : Nat → Int} : Ints w none 0 k zs := fun h => absurd h (by omega)

theorem wf_i64 {n : Int} (h : (Lit.int .i64 n).wf = true) : -9223372036854775808 ≤ n ∧ n ≤ 9223372036854775807 := by
  simp [Lit.wf, IntKind.min, IntKind.max, IntKind.signed, IntKind.bits] at h
  omega
theorem wf_u8 {n : Int} (h : (Lit.int .u8 n).wf = true) : 0 ≤ n ∧ n ≤ 255 := by
  simp [Lit.wf, IntKind.min, IntKind.max, IntKind.signed, IntKind.bits] at h
  omega
theorem getD_all {p : Int → Prop} {zs : List Int} (h : ∀ n ∈ zs, p n) {i : Nat} (hi : i < zs.length) : p (zs.getD i 0) := by
  rw [List.getD_eq_getElem?_getD, List.getElem?_eq_getElem hi]
  exact h _ (List.getElem_mem hi)
end Go.X
