/- Who judges: what is open, told. -/
import Derived.Test.YtmeckbjinmgbbaaGreatMod3
set_option linter.unusedVariables false
set_option linter.unusedSimpArgs false

namespace Go.Proofs.YtmeckbjinmgbbaaGreat
open Go.X
def QI (rs cs : List RL) (i : Nat) : Prop := cs.map (·.1) = (rs.take i).map (·.1) ∧ ∀ r ∈ cs, ROK r
theorem QI.len {rs cs : List RL} {i : Nat} (h : QI rs cs i) (hi : i ≤ rs.length) : cs.length = i := by
  have := congrArg List.length h.1
  simpa [Nat.min_eq_left hi] using this
theorem ROK.at {a : AR} {o o' : Gr} (h : ROK (a, o)) (h' : GrOK o' a.tl.length) : ROK (a, o') := by
  obtain ⟨⟨h1, h2, h3, h4, h5, h6, h7, h8⟩, hb, hg⟩ := h
  refine ⟨⟨h1, h2, h3, h4, h5, h6, h7, ?_⟩, hb, h'⟩
  cases o' with
  | none => exact Nat.le_of_eq h'
  | some q => exact h'
theorem QI.snoc {rs cs : List RL} {i : Nat} {r : RL} {o' : Gr} (h : QI rs cs i) (hr : rs[i]? = some r) (hk : ROK r) (h' : GrOK o' r.1.tl.length) : QI rs (cs ++ [(r.1, o')]) (i + 1) := by
  obtain ⟨hj, he⟩ := List.getElem?_eq_some_iff.1 hr
  refine ⟨?_, fun x hx => ?_⟩
  · rw [List.take_succ_eq_append_getElem hj, List.map_append, List.map_append, h.1, he]; rfl
  · rcases List.mem_append.1 hx with h1 | h1
    · exact h.2 x h1
    · rw [List.mem_singleton.1 h1]; exact ROK.at (a := r.1) (o := r.2) hk h'
end Go.Proofs.YtmeckbjinmgbbaaGreat