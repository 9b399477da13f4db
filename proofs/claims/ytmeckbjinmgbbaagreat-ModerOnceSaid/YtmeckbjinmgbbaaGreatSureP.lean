/- The journal: records, and crashes. -/
import Derived.Test.YtmeckbjinmgbbaaGreatLaws22
set_option linter.unusedVariables false
set_option linter.unusedSimpArgs false

namespace Go.Proofs.YtmeckbjinmgbbaaGreat
open Go.X
/-- What is sure alone. -/
def surD (D : DS) : DS := ⟨D.n, D.sure, [], 0, 0, false⟩
structure Rn (D : DS) (ll : List (List Int)) (u : Option (List Int)) : Prop where
  ok : DOK D
  n : D.n = 64
  base : Full (surD D) ll
  mm : D.m = [] ∨ ∃ b ck, u = some b ∧ D.m = [((ll.length : Int), secF ll.length b, ck)] ∧ ll.length < 64 ∧ b.length ≤ 59 ∧ bytes b
  st : (D.dead = false ∧ 0 ≤ D.fuse ∧ D.m = [] ∧ u = none) ∨ (D.dead = true ∧ u ≠ none)
theorem Rn.start {D : DS} {ll : List (List Int)} {k : Int} (hok : DOK D) (hn : D.n = 64) (hm : D.m = []) (hF : Full (surD D) ll) (hd : D.dead = false) (hk : 0 ≤ k ∧ k ≤ 9223372036854775807) : Rn (fuD D k) ll none :=
  ⟨fuD_ok hok hk.2, hn, hF, .inl hm, .inl ⟨hd, by show 0 ≤ max k (-1); omega, hm, rfl⟩⟩
theorem inR_len {D : DS} {m : Nat} (h : m < D.n) : inR D (m : Int) = true := by simp only [inR, Bool.and_eq_true, decide_eq_true_eq]; omega
theorem Rn.ap {D : DS} {ll : List (List Int)} {u : Option (List Int)} {b : List Int} (h : Rn D ll u) (hb : b.length ≤ 59 ∧ bytes b) (hl : ll.length < 64) :
    (apE D ll.length b = 0 ∧ u = none ∧ Rn (apD D ll.length b) (ll ++ [b]) none) ∨ (apE D ll.length b = 13 ∧ Rn (apD D ll.length b) ll (some (u.getD b))) := by
  have hn := h.n
  have hr := inR_len (D := D) (m := ll.length) (by omega)
  have hok' : DOK (apD D ll.length b) := apD_ok h.ok hb.2
  have hn' : (apD D ll.length b).n = 64 := apD_n.trans hn
  rcases h.st with ⟨hd, hf, hm, hu⟩ | ⟨hd, hu⟩
  · by_cases h0 : D.fuse = 0
    · -- the fuse is burnt
      obtain ⟨e1, e2⟩ := burn_t (D := D) (.inr h0)
      have hw : wrE D (ll.length : Int) = 13 := by unfold wrE; rw [if_pos hr]; exact e1
      obtain ⟨e3, e4⟩ := ap_wr (D := D) (m := ll.length) (b := b) (by omega) (by omega) (by rw [hw]; decide)
      obtain ⟨_, e5⟩ := wr_dead (D := D) (i := (ll.length : Int)) (s := secF ll.length b) hr (by rw [e1]; decide)
      refine .inr ⟨e3.trans hw, hok', hn', ?_, ?_, .inr ⟨?_, by simp⟩⟩
      · rw [e4, e5, e2]; exact h.base
      · rw [e4, e5, e2]; exact .inl hm
      · rw [e4, e5, e2]
    · obtain ⟨e1, e2⟩ := burn_f hd h0
      have hw : wrE D (ll.length : Int) = 0 := by unfold wrE; rw [if_pos hr]; exact e1
      obtain ⟨_, e5⟩ := wr_ok (D := D) (i := (ll.length : Int)) (s := secF ll.length b) hr e1
      obtain ⟨e3, e4⟩ := ap_sy (D := D) (m := ll.length) (b := b) (by omega) (by omega) hw
      rw [e5] at e3 e4
      have hbm : (burnD D).m = [] := burnD_m.trans hm
      have hdE : (putD (burnD D) ll.length (secF ll.length b)).dead = false := by show (burnD D).dead = false; rw [e2]; exact hd
      have hfE : (putD (burnD D) ll.length (secF ll.length b)).fuse = max (D.fuse - 1) (-1) := by show (burnD D).fuse = _; rw [e2]
      have hmE : (putD (burnD D) ll.length (secF ll.length b)).m = [((ll.length : Int), secF ll.length b, (burnD D).ck)] := by
        show pput (burnD D).m (burnD D).ck _ _ = _
        rw [hbm]; rfl
      have hsE : (putD (burnD D) ll.length (secF ll.length b)).sure = D.sure := burnD_sure
      have hnE : (putD (burnD D) ll.length (secF ll.length b)).n = 64 := burnD_n.trans hn
      generalize putD (burnD D) ll.length (secF ll.length b) = E at e3 e4 hdE hfE hmE hsE hnE
      by_cases h1 : D.fuse = 1
      · -- written, not sure
        obtain ⟨b1, b2⟩ := burn_t (D := E) (.inr (by rw [hfE]; omega))
        have e6 : syD E = burnD E := by unfold syD; rw [if_neg (by rw [b1]; decide)]
        refine .inr ⟨e3.trans b1, hok', hn', ?_, ?_, .inr ⟨?_, by simp⟩⟩
        · rw [e4, e6, b2]
          refine ⟨⟨by show ll.length ≤ E.n; omega, fun i hi => ?_, h.base.held.ok⟩, fun i hi hin => ?_⟩
          · show E.sure.getD i [] = _
            rw [hsE]; exact h.base.held.get i hi
          · show E.sure.getD i [] = _
            rw [hsE]; exact h.base.rest i hi (by show i < D.n; rw [hn, ← hnE]; exact hin)
        · rw [e4, e6, b2]; exact .inr ⟨b, (burnD D).ck, by rw [hu]; rfl, hmE, hl, hb⟩
        · rw [e4, e6, b2]
      · -- all is well
        obtain ⟨b1, b2⟩ := burn_f hdE (by rw [hfE]; omega)
        have e6 : syD E = flush (burnD E) := by unfold syD; rw [if_pos b1]
        have hcur : ∀ i, i < 64 → cur (surD (flush (burnD E))) i = cur E i := fun i hi => by
          show (merged (burnD E)).getD i [] = _
          rw [merged_get (by rw [burnD_n]; omega), burnD_cur]
        have hcE : ∀ i, cur E i = if (ll.length : Int) = i then secF ll.length b else D.sure.getD i [] := fun i => by
          unfold cur
          rw [hmE, hsE, pget_cons]
          split <;> rfl
        have hbl := h.base.held.len
        refine .inl ⟨e3.trans b1, hu, hok', hn', ?_, .inl ?_, .inl ⟨?_, ?_, ?_, rfl⟩⟩
        · rw [e4, e6]
          have hnn : (surD (flush (burnD E))).n = 64 := burnD_n.trans hnE
          have hH : Held (surD (flush (burnD E))) ll := ⟨by omega, fun i hi => by
            rw [hcur i (by omega), hcE, if_neg (by omega)]; exact h.base.held.get i hi, h.base.held.ok⟩
          refine ⟨hH.snoc (by omega) (by rw [hcur _ (by omega), hcE, if_pos rfl]) hb, fun i hi hin => ?_⟩
          rw [List.length_append, List.length_singleton] at hi
          rw [hcur i (by omega), hcE, if_neg (by omega)]
          exact h.base.rest i (by omega) (by show i < D.n; omega)
        · rw [e4, e6]; rfl
        · rw [e4, e6, b2]; exact hdE
        · rw [e4, e6, b2]; show 0 ≤ max (E.fuse - 1) (-1); rw [hfE]; omega
        · rw [e4, e6]; rfl
  · obtain ⟨e1, e2⟩ := burn_t (D := D) (.inl hd)
    have hw : wrE D (ll.length : Int) = 13 := by unfold wrE; rw [if_pos hr]; exact e1
    obtain ⟨e3, e4⟩ := ap_wr (D := D) (m := ll.length) (b := b) (by omega) (by omega) (by rw [hw]; decide)
    obtain ⟨_, e5⟩ := wr_dead (D := D) (i := (ll.length : Int)) (s := secF ll.length b) hr (by rw [e1]; decide)
    obtain ⟨v, rfl⟩ := Option.ne_none_iff_exists'.1 hu
    refine .inr ⟨e3.trans hw, hok', hn', ?_, ?_, .inr ⟨?_, by simp⟩⟩
    · rw [e4, e5, e2]; exact h.base
    · rw [e4, e5, e2]; exact h.mm
    · rw [e4, e5, e2]
/-- Behind a crash. -/
structure Bk (D : DS) (ll : List (List Int)) : Prop where
  ok : DOK D
  n : D.n = 64
  m : D.m = []
  full : Full (surD D) ll
  dead : D.dead = false
theorem Bk.op {D : DS} {ll : List (List Int)} (h : Bk D ll) : opL D = ll := by
  have hc : ∀ i, cur D i = cur (surD D) i := fun i => by unfold cur; rw [h.m]; rfl
  have hF : Full D ll := ⟨⟨h.full.held.len, fun i hi => (hc i).trans (h.full.held.get i hi), h.full.held.ok⟩, fun i hi hin => (hc i).trans (h.full.rest i hi hin)⟩
  exact hF.all (by rw [h.n]; exact Nat.le_refl _)
theorem Rn.crash {D : DS} {ll : List (List Int)} {u : Option (List Int)} (h : Rn D ll u) (kept : Int) : Bk (crD D kept) ll ∨ ∃ b, u = some b ∧ Bk (crD D kept) (ll ++ [b]) := by
  have hok' : DOK (crD D kept) := crD_ok h.ok
  have hn' : (crD D kept).n = 64 := h.n
  have hbl := h.base.held.len
  have hcc : ∀ i, cur (surD (crD D kept)) i = cur (crD D kept) i := fun i => rfl
  rcases h.mm with hm | ⟨b, ck, hu, hm, hl, hb⟩
  · refine .inl ⟨hok', hn', rfl, ⟨⟨by show ll.length ≤ D.n; exact hbl, fun i hi => ?_, h.base.held.ok⟩, fun i hi hin => ?_⟩, rfl⟩
    · show (crashN D kept D.m.length).getD i [] = _
      rw [hm]; exact h.base.held.get i hi
    · show (crashN D kept D.m.length).getD i [] = _
      rw [hm]; exact h.base.rest i hi hin
  · have hc : ∀ i, cur D i = if (ll.length : Int) = i then secF ll.length b else D.sure.getD i [] := fun i => by
      unfold cur
      rw [hm, pget_cons]
      split <;> rfl
    have ho : ∀ i, i ≠ ll.length → cur (crD D kept) i = D.sure.getD i [] := fun i hi => by
      rcases crash_one h.ok (kept := kept) (i := i) with e | e
      · rw [e, hc, if_neg (by omega)]
      · exact e
    have hH : Held (surD (crD D kept)) ll := ⟨by show ll.length ≤ D.n; exact hbl, fun i hi => by rw [hcc, ho i (by omega)]; exact h.base.held.get i hi, h.base.held.ok⟩
    rcases crash_one h.ok (kept := kept) (i := ll.length) with e | e
    · rw [hc, if_pos rfl] at e
      refine .inr ⟨b, hu, hok', hn', rfl, ⟨hH.snoc (by show ll.length < D.n; rw [h.n]; exact hl) e hb, fun i hi hin => ?_⟩, rfl⟩
      rw [List.length_append, List.length_singleton] at hi
      rw [hcc, ho i (by omega)]
      exact h.base.rest i (by omega) hin
    · refine .inl ⟨hok', hn', rfl, ⟨hH, fun i hi hin => ?_⟩, rfl⟩
      rw [hcc]
      by_cases hi2 : i = ll.length
      · subst hi2; rw [e]; exact h.base.rest _ hi hin
      · rw [ho i hi2]; exact h.base.rest i hi hin

end Go.Proofs.YtmeckbjinmgbbaaGreat