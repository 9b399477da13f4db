/- The statements of layer 22: their walks. -/
import Derived.Test.YtmeckbjinmgbbaaGreatHeld
set_option linter.unusedVariables false
set_option linter.unusedSimpArgs false

namespace Go.Proofs.YtmeckbjinmgbbaaGreat
open Go.X
theorem Sr.pastP {c : Cx} {L Lr M M0 : List (Nat × Blk)} {w w' : World} {s n : Nat} {A : Option Addr} {xs : List Value} (hp : HP c.w0 w c.O L) (h : HP w w' (M0.map (·.1)) M) (hdel : PR M0 L Lr := by exact pr) (hs : Sr c Lr s A n xs) : SrW w' s A n xs :=
  hs w' ((hp.transP hdel h).sub (List.sublist_append_right _ _))
theorem GR.le59 {g : GR} (hg : g.OK) (h : ∀ l ∈ g.ll, l.length ≤ 59) : ∀ r ∈ g.rs, r.n ≤ 59 := fun r hr => by
  have := h r.l (List.mem_map.2 ⟨r, hr, rfl⟩)
  rw [(hg.2 r hr).1] at this; exact this
theorem opL_le {D : DS} (hok : DOK D) : ∀ l ∈ opL D, l.length ≤ 59 := fun l hl => (opL_ok hok l hl).1
end Go.Proofs.YtmeckbjinmgbbaaGreat