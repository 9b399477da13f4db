/- Disks that live, with a journal: appended to, and crashed. -/
import Derived.Test.YtmeckbjinmgbbaaGreatSureP
import Derived.Test.YtmeckbjinmgbbaaGreatHeld
set_option linter.unusedVariables false
set_option linter.unusedSimpArgs false

namespace Go.Proofs.YtmeckbjinmgbbaaGreat
open Go.X
theorem cur_sur {D : DS} (hm : D.m = []) {i : Nat} : cur (surD D) i = cur D i := by unfold cur; rw [hm]; rfl
theorem Bk.ap {D : DS} {ll : List (List Int)} {b : List Int} (h : Bk D ll) (hl : Live D) (hb : b.length ≤ 59 ∧ bytes b) (hn : ll.length < 64) : Bk (apD D ll.length b) (ll ++ [b]) := by
  have h64 := h.n
  obtain ⟨e1, e2, e3⟩ := hl.ap (m := ll.length) hb.1 (by omega)
  have hm' : (apD D ll.length b).m = [] := by rw [e2]; rfl
  have hn' : (apD D ll.length b).n = 64 := apD_n.trans h.n
  have hc : ∀ i, i < 64 → cur (surD (apD D ll.length b)) i = if ll.length = i then secF ll.length b else cur (surD D) i := fun i hi => by
    rw [cur_sur hm', cur_sur h.m]; exact hl.ap_cur hb.1 (by omega) (by omega)
  have hH : Held (surD (apD D ll.length b)) ll := ⟨by show ll.length ≤ (apD D ll.length b).n; omega, fun i hi => by
    rw [hc i (by omega), if_neg (by omega)]; exact h.full.held.get i hi, h.full.held.ok⟩
  refine ⟨apD_ok h.ok hb.2, hn', hm', ⟨hH.snoc (by show ll.length < (apD D ll.length b).n; omega) (by rw [hc _ (by omega), if_pos rfl]) hb, fun i hi hin => ?_⟩, e3.2⟩
  rw [List.length_append, List.length_singleton] at hi
  have hin' : i < (apD D ll.length b).n := hin
  rw [hc i (by omega), if_neg (by omega)]
  exact h.full.rest i (by omega) (by show i < D.n; omega)
theorem Bk.crash {D : DS} {ll : List (List Int)} (h : Bk D ll) (kept : Int) : Bk (crD D kept) ll := by
  have e : crD (fuD D 0) kept = crD D kept := by unfold crD fuD; simp only [h.m, List.length_nil, crashN]
  rw [← e]
  rcases (Rn.start (k := 0) h.ok h.n h.m h.full h.dead (by omega)).crash kept with h1 | ⟨b, h1, _⟩
  · exact h1
  · cases h1

end Go.Proofs.YtmeckbjinmgbbaaGreat