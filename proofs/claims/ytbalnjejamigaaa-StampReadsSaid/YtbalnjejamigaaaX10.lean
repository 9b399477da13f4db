/- Guards beside an operation that did not run. -/
import Derived.Test.YtbalnjejamigaaaX9
set_option linter.unusedVariables false
set_option linter.unusedSimpArgs false
namespace Go.X
open Go.RowKit
theorem yielded_undef {ops : Array Oper} {n : Nat} {a : Act} {S : Slots} (h : Sl n a S) {j : Nat} (hg : guardOf ops S j = some undef) : yielded ops a.tmps j = none := by
  unfold guardOf at hg
  unfold yielded
  cases hd : (ops[j]?).bind (·.dst) with
  | none => rw [hd] at hg; cases hg
  | some t =>
    rw [hd] at hg
    have := h.get t _ hg
    simp [this, undef]
section
variable {c : Cx} {Q : Post} {S S1 : Slots} {L L1 L' Lr : List (Nat × Blk)} {ops : Array Oper} {d : Option Tmp} {t : Tmp} {ty T T' : TypeId} {pos : String} {af : Array Edge} {rest : List Oper} {op : Op} {i j : Nat} {b : Bool} {p : Plan}
theorem onu (hg : guardOf ops S j = some undef) (k : WL c ops Q rest ((t, undef) :: S) L) (hd : Nat.blt t c.n = true := by exact rfl) : WL c ops Q (⟨some t, op, ty, pos, af, some (j, b)⟩ :: rest) S L := fun a w st => by
  refine wpList_skip ?_ (k _ _ ⟨st.sl.put (blt_lt hd) _, st.hp⟩)
  have := yielded_undef st.sl hg
  simp [Region.wanted, this]
theorem dnu (ho : ops[i]? = some ⟨some t, op, ty, pos, af, some (j, b)⟩) (hg : guardOf ops S j = some undef) (h : WD c ops Q Lr p ((t, undef) :: S) L) (hd : Nat.blt t c.n = true := by exact rfl) : WD c ops Q Lr (.q i p) S L := fun a w st => by
  have := yielded_undef st.sl hg
  exact ⟨_, undef, ho, .inr ⟨by simp [Region.wanted, this], rfl⟩, h _ w ⟨st.sl.put (blt_lt hd) undef, st.hp⟩⟩
end
end Go.X
