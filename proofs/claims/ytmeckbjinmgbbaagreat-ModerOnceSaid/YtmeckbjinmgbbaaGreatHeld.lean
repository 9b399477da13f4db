/- The journal: what a disk holds. -/
import Derived.Test.YtmeckbjinmgbbaaGreatMja
set_option linter.unusedVariables false
set_option linter.unusedSimpArgs false

namespace Go.Proofs.YtmeckbjinmgbbaaGreat
open Go.X
theorem secH_get {i : Int} {b : List Int} (h : b.length ≤ 59) : (secF i b).getD 4 0 = b.length := by
  have e : secF i b = highF (i + 1) 4 ++ ((b.length : Int) :: (b ++ List.replicate (64 - (4 + 1 + b.length)) 0)) := by
    rw [secF_eq h, List.take_of_length_le (by simp)]
    simp [secH]
  rw [e, List.getD_eq_getElem?_getD, List.getElem?_append_right (by simp)]
  simp
theorem secH_drop {i : Int} {b : List Int} (h : b.length ≤ 59) : ((secF i b).drop 5).take b.length = b := by
  have e : secF i b = (highF (i + 1) 4 ++ [(b.length : Int)]) ++ (b ++ List.replicate (64 - (4 + 1 + b.length)) 0) := by
    rw [secF_eq h, List.take_of_length_le (by simp)]
    simp [secH]
  rw [e, List.drop_append_of_le_length (by simp), List.drop_of_length_le (by simp), List.nil_append, List.take_append_of_le_length (Nat.le_refl _), List.take_of_length_le (Nat.le_refl _)]
theorem rec_sec {i : Int} {b : List Int} (h : b.length ≤ 59) : recB (secF i b) = b ∧ recI i (secF i b) = true := by
  have hn : recN (secF i b) = b.length := by unfold recN; rw [secH_get h]; omega
  have hb : recB (secF i b) = b := by unfold recB; rw [hn, if_pos h, secH_drop h]
  refine ⟨hb, ?_⟩
  unfold recI; rw [hb, hn, decide_eq_true h, decide_eq_true rfl]; rfl
/-- A sector of noughts is no record. -/
theorem rec_zero {i : Nat} (hi : i < 64) : recI (i : Int) (List.replicate 64 0) = false := by
  have hb : recB (List.replicate 64 (0 : Int)) = [] := by decide
  have hn : recN (List.replicate 64 (0 : Int)) = 0 := by decide
  unfold recI; rw [hb, hn, decide_eq_true (Nat.zero_le _), Bool.true_and]
  refine decide_eq_false fun h => ?_
  have key : ∀ i : Fin 64, (secF ((i : Nat) : Int) []).getD 3 0 ≠ 0 := by decide +kernel
  have := key ⟨i, hi⟩
  rw [h] at this
  exact this rfl
/-- The first sectors hold these records. -/
structure Held (D : DS) (ll : List (List Int)) : Prop where
  len : ll.length ≤ D.n
  get : ∀ i, i < ll.length → cur D i = secF i (ll.getD i [])
  ok : ∀ l ∈ ll, l.length ≤ 59 ∧ bytes l
theorem getD_mem {α : Type} {l : List (List α)} {i : Nat} (h : i < l.length) : l.getD i [] ∈ l := by
  rw [List.getD_eq_getElem?_getD, List.getElem?_eq_getElem h]; exact List.getElem_mem h
theorem Held.reads {D : DS} {ll : List (List Int)} (h : Held D ll) {i : Nat} (hi : i < ll.length) : recI i (rdS D i) = true ∧ recB (rdS D i) = ll.getD i [] := by
  have hl := h.len
  rw [(rd_in (D := D) (i := i) (by omega)).2, h.get i hi]
  obtain ⟨h1, h2⟩ := rec_sec (i := (i : Int)) (h.ok _ (getD_mem hi)).1
  exact ⟨h2, h1⟩
theorem Held.op {D : DS} {ll : List (List Int)} (h : Held D ll) : ∀ {k : Nat}, k ≤ ll.length → opG D k = (true, ll.take k)
  | 0, _ => rfl
  | k + 1, hk => by
    have ih := h.op (k := k) (by omega)
    obtain ⟨h1, h2⟩ := h.reads (i := k) (by omega)
    rw [op_yes (by rw [ih]) h1, ih, h2]
    exact congrArg (Prod.mk true) (snoc_take rfl (by omega))
theorem Held.all {D : DS} {ll : List (List Int)} (h : Held D ll) (he : ll.length < D.n → recI ll.length (cur D ll.length) = false) : opL D = ll := by
  have hl := h.len
  have e := h.op (Nat.le_refl _)
  rw [List.take_of_length_le (Nat.le_refl _)] at e
  by_cases hn : ll.length < D.n
  · rw [op_stop (by rw [e]) (by rw [(rd_in hn).2]; exact he hn) hn, e]
  · unfold opL; rw [show D.n = ll.length by omega, e]
theorem Held.nil {D : DS} : Held D [] := ⟨Nat.zero_le _, (fun i h => by cases h), fun l h => by cases h⟩
theorem Held.step {D E : DS} {ll : List (List Int)} (h : Held D ll) (hn : E.n = D.n) (hc : ∀ i, i < ll.length → cur E i = cur D i) : Held E ll :=
  ⟨by rw [hn]; exact h.len, fun i hi => (hc i hi).trans (h.get i hi), h.ok⟩
theorem Held.snoc {E : DS} {ll : List (List Int)} {b : List Int} (h : Held E ll) (hn : ll.length < E.n) (hc : cur E ll.length = secF ll.length b) (hb : b.length ≤ 59 ∧ bytes b) : Held E (ll ++ [b]) := by
  refine ⟨by simp; omega, fun i hi => ?_, fun l hl => ?_⟩
  · rw [List.length_append, List.length_singleton] at hi
    by_cases e : i < ll.length
    · rw [h.get i e, List.getD_eq_getElem?_getD, List.getD_eq_getElem?_getD, List.getElem?_append_left e]
    · obtain rfl : i = ll.length := by omega
      rw [hc, List.getD_eq_getElem?_getD, List.getElem?_append_right (Nat.le_refl _)]; simp
  · rcases List.mem_append.1 hl with hl | hl
    · exact h.ok l hl
    · rw [List.mem_singleton.1 hl]; exact hb
/-- A disk that lives takes a record. -/
theorem Live.ap {D : DS} (hl : Live D) {m : Nat} {b : List Int} (hb : b.length ≤ 59) (hm : m < D.n) : apE D m b = 0 ∧ apD D m b = flush (putD D m (secF m b)) ∧ Live (apD D m b) := by
  have hr : inR D (m : Int) = true := by simp only [inR, Bool.and_eq_true, decide_eq_true_eq]; omega
  have hw : wrD D m (secF m b) = putD D m (secF m b) := by rw [hl.wr, if_pos hr]
  have hwl : Live (putD D m (secF m b)) := hl
  obtain ⟨e1, e2⟩ := ap_sy (D := D) (m := m) (b := b) (by omega) (by omega) (by rw [hl.wrE, if_pos hr])
  rw [e1, e2, hw, hwl.burn.1, hwl.sy]
  exact ⟨rfl, rfl, hwl⟩
theorem Live.ap_full {D : DS} {m : Nat} {b : List Int} (hb : b.length ≤ 59) (hm : D.n ≤ m) : apE D m b = 8 ∧ apD D m b = D := Go.Proofs.YtmeckbjinmgbbaaGreat.ap_full (by omega) hm
theorem Live.ap_cur {D : DS} (hl : Live D) {m : Nat} {b : List Int} (hb : b.length ≤ 59) (hm : m < D.n) {i : Nat} (hi : i < D.n) : cur (apD D m b) i = if m = i then secF m b else cur D i := by
  rw [(hl.ap hb hm).2.1, flush_cur (D := putD D m (secF m b)) hi, putD_cur]
  by_cases e : m = i
  · subst e; rw [if_pos rfl, if_pos rfl]
  · rw [if_neg e, if_neg (by omega)]
/-- Those and no more: a journal's disk. -/
structure Full (D : DS) (ll : List (List Int)) : Prop where
  held : Held D ll
  rest : ∀ i, ll.length ≤ i → i < D.n → cur D i = List.replicate 64 0
theorem Full.new {n : Nat} : Full (newD n) [] := ⟨.nil, fun i _ hi => by
  show (List.replicate n (List.replicate 64 (0 : Int))).getD i [] = _
  have : i < n := hi
  simp [List.getD_eq_getElem?_getD, this]⟩
theorem Full.all {D : DS} {ll : List (List Int)} (h : Full D ll) (h64 : D.n ≤ 64) : opL D = ll := h.held.all fun hn => by
  rw [h.rest _ (Nat.le_refl _) hn]; exact rec_zero (by omega)
theorem Full.ap {D : DS} {ll : List (List Int)} {b : List Int} (h : Full D ll) (hl : Live D) (hb : b.length ≤ 59 ∧ bytes b) (hm : ll.length < D.n) : Full (apD D ll.length b) (ll ++ [b]) := by
  have hn : (apD D ll.length b).n = D.n := apD_n
  have hc := fun i (hi : i < D.n) => hl.ap_cur hb.1 hm hi
  have hlen := h.held.len
  refine ⟨(h.held.step hn fun i hi => by rw [hc i (by omega), if_neg (by omega)]).snoc (by omega) (by rw [hc _ hm, if_pos rfl]) hb, fun i hi hin => ?_⟩
  rw [List.length_append, List.length_singleton] at hi
  rw [hc i (by omega), if_neg (by omega)]
  exact h.rest i (by omega) (by omega)

end Go.Proofs.YtmeckbjinmgbbaaGreat