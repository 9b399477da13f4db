/- Arguments of a law, taken apart by a description of their type. -/
import Derived.Test.YtbalnjejamigaaaX6
import Derived.OpenShut
import Derived.DataElems
set_option linter.unusedVariables false
set_option linter.unusedSimpArgs false
namespace Go.X
open Go.RowKit Go.WideShapes Go.ChangeShapes
/-- What a type is made of; a struct is its fields. -/
inductive Ds where
  | int (k : IntKind)
  | bool
  | sl (d : Ds)
  | arr (n : Nat) (d : Ds)
  | fnil
  | fcons (d r : Ds)
def Ds.size : Ds → Nat
  | .int _ => 1
  | .bool => 1
  | .sl _ => 1
  | .arr n d => n * d.size
  | .fnil => 0
  | .fcons d r => d.size + r.size
def Ds.isF : Ds → Bool
  | .fnil => true
  | .fcons _ _ => true
  | _ => false
def fieldsP (P : Program) (t : TypeId) : List (Nat × TypeId) := match P.underlying t with
  | some (.struct fs) => fs.toList.map fun f => (f.offset, f.type)
  | _ => []
def structB (P : Program) (t : TypeId) : Bool := match P.underlying t with
  | some (.struct _) => true
  | _ => false
def elemS (P : Program) (t : TypeId) : Option TypeId := match P.underlying t with
  | some (.slice e) => some e
  | _ => none
def elemA (P : Program) (t : TypeId) (n : Nat) : Option TypeId := match P.underlying t with
  | some (.array m e) => if m = n then some e else none
  | _ => none
/-- A type (or, of a struct, the fields from an offset on) is so made. -/
def matchD (P : Program) : Ds → TypeId → List (Nat × TypeId) → Nat → Bool
  | .int k, t, _, _ => inB' P t k && P.cellsOf t == 1
  | .bool, t, _, _ => boB P t && P.cellsOf t == 1
  | .sl d, t, _, _ => P.cellsOf t == 1 && (match elemS P t with
    | some e => P.cellsOf e == d.size && matchD P d e (fieldsP P e) 0
    | none => false)
  | .arr n d, t, _, _ => P.cellsOf t == n * d.size && (match elemA P t n with
    | some e => P.cellsOf e == d.size && matchD P d e (fieldsP P e) 0
    | none => false)
  | .fnil, t, fs, o => structB P t && fs.isEmpty && P.cellsOf t == o
  | .fcons d r, t, fs, o => structB P t && (match fs with
    | f :: fs' => f.1 == o && P.cellsOf f.2 == d.size && r.isF && matchD P d f.2 (fieldsP P f.2) 0 && matchD P r t fs' (o + d.size)
    | [] => false)
/-- Cells that are such a thing's, in a world. -/
def okD (w : World) : Ds → List Value → Prop
  | .int k, cs => ∃ n, cs = [.int k n] ∧ (Lit.int k n).wf = true
  | .bool, cs => ∃ b, cs = [.bool b]
  | .sl d, cs => ∃ A n cap, cs = [.slice A n cap] ∧ n ≤ cap ∧ cap ≤ maxLen ∧ ∃ es : List (List Value), es.length = n ∧ ∀ (i : Nat) e, es[i]? = some e → okD w d e ∧ e.length = d.size ∧ ∃ a, A = some a ∧ ∀ (j : Nat) v, e[j]? = some v → w.cell? (a.add (i * d.size + j)) = some v
  | .arr n d, cs => cs.length = n * d.size ∧ ∀ i, i < n → okD w d ((cs.drop (i * d.size)).take d.size)
  | .fnil, cs => cs = []
  | .fcons d r, cs => okD w d (cs.take d.size) ∧ okD w r (cs.drop d.size)

theorem cells?_get {w : World} {base : Nat} {a : Addr} {n : Nat} {cs : List Value} (h : w.cells? base a n = some cs) : cs.length = n ∧ ∀ (j : Nat) v, cs[j]? = some v → w.cell? (a.add j) = some v := by
  unfold World.cells? at h
  split at h
  · have key : ∀ (n k : Nat) (cs : List Value), (List.range' k n).mapM (fun i => w.cell? (a.add i)) = some cs → cs.length = n ∧ ∀ (j : Nat) v, cs[j]? = some v → w.cell? (a.add (k + j)) = some v := by
      intro n
      induction n with
      | zero => intro k cs h; simp at h; subst h; simp
      | succ n ih =>
        intro k cs h
        rw [List.range'_succ, List.mapM_cons] at h
        cases hc : w.cell? (a.add k) with
        | none => rw [hc] at h; simp at h
        | some v0 =>
          rw [hc] at h
          cases hr : (List.range' (k + 1) n).mapM (fun i => w.cell? (a.add i)) with
          | none => rw [hr] at h; simp at h
          | some r =>
            rw [hr] at h
            simp at h
            subst h
            obtain ⟨h1, h2⟩ := ih (k + 1) r hr
            refine ⟨by simp [h1], fun j v hv => ?_⟩
            cases j with
            | zero => simp at hv; subst hv; exact hc
            | succ j => have := h2 j v (by simpa using hv); rwa [show k + 1 + j = k + (j + 1) by omega] at this
    rw [List.range_eq_range'] at h
    obtain ⟨h1, h2⟩ := key n 0 cs h
    exact ⟨h1, fun j v hv => by have := h2 j v hv; rwa [Nat.zero_add] at this⟩
  · cases h
section
variable {H : Type} {enc : TypeId × Value → H} {P : Program} {w : World} {base : Nat} {sp : Nat → Bool} {held : Bool}
theorem und_int {t : TypeId} {k : IntKind} (h : inB' P t k = true) : P.underlying t = some (.int k) := by
  unfold inB' at h
  split at h <;> try (cases h; done)
  rename_i k' hu
  simp only [beq_iff_eq] at h
  subst h; exact hu
theorem open_both : ∀ d : Ds, (∀ (t : TypeId) (fuel : Nat) (cs : List Value) (x : DataW H × List MemPlace), matchD P d t (fieldsP P t) 0 = true → DataW.trod enc P w base sp held fuel t cs = some x → okD w d cs ∧ cs.length = d.size) ∧
    (∀ (t : TypeId) (fs : List (Nat × TypeId)) (o : Nat) (cs : List Value), matchD P d t fs o = true → d = .fnil ∨ (∃ a r, d = .fcons a r) → cs.length = P.cellsOf t → (∀ f ∈ fs, ∃ n x', DataW.trod enc P w base sp held n f.2 ((cs.drop f.1).take (P.cellsOf f.2)) = some (x' : DataW H × List MemPlace)) → okD w d (cs.drop o) ∧ o + d.size = P.cellsOf t) := by
  have str : ∀ (t : TypeId) (fuel : Nat) (cs : List Value) (x : DataW H × List MemPlace), structB P t = true → DataW.trod enc P w base sp held fuel t cs = some x → cs.length = P.cellsOf t ∧ ∀ f ∈ fieldsP P t, ∃ n x', DataW.trod enc P w base sp held n f.2 ((cs.drop f.1).take (P.cellsOf f.2)) = some (x' : DataW H × List MemPlace) := by
    intro t fuel cs x hs h
    unfold structB at hs
    split at hs <;> try (cases hs; done)
    rename_i fs hu
    obtain ⟨xs, n, _, _, hl, hx, hf⟩ := DataW.trod_struct hu h
    refine ⟨hl, fun f hfm => ?_⟩
    unfold fieldsP at hfm
    rw [hu] at hfm
    simp only [List.mem_map] at hfm
    obtain ⟨g, hg, rfl⟩ := hfm
    obtain ⟨i, hi⟩ := List.getElem?_of_mem hg
    have hi' : fs[i]? = some g := by simpa using hi
    have hlt : i < xs.length := by rw [hx]; exact (Array.getElem?_eq_some_iff.1 hi').1
    exact ⟨n, xs[i], by rw [hf i g hi', List.getElem?_eq_getElem hlt]⟩
  intro d
  induction d with
  | int k =>
    refine ⟨fun t fuel cs x hm h => ?_, fun t fs o cs hm hd => ?_⟩
    · simp only [matchD, Bool.and_eq_true] at hm
      obtain ⟨n, rfl, _, hw⟩ := DataW.trod_int (und_int hm.1) h
      exact ⟨⟨n, rfl, hw⟩, rfl⟩
    · rcases hd with h | ⟨a, r, h⟩ <;> cases h
  | bool =>
    refine ⟨fun t fuel cs x hm h => ?_, fun t fs o cs hm hd => ?_⟩
    · simp only [matchD, Bool.and_eq_true] at hm
      have hu : P.underlying t = some .bool := by
        have := hm.1
        unfold boB at this
        split at this <;> first | assumption | (cases this; done)
      obtain ⟨b, rfl, _⟩ := DataW.trod_bool hu h
      exact ⟨⟨b, rfl⟩, rfl⟩
    · rcases hd with h | ⟨a, r, h⟩ <;> cases h
  | sl d ih =>
    refine ⟨fun t fuel cs x hm h => ?_, fun t fs o cs hm hd => ?_⟩
    · simp only [matchD, Bool.and_eq_true] at hm
      obtain ⟨_, hm⟩ := hm
      split at hm <;> try (cases hm; done)
      rename_i e he
      simp only [Bool.and_eq_true, beq_iff_eq] at hm
      obtain ⟨hsz, hm⟩ := hm
      have hu : P.underlying t = some (.slice e) := by
        unfold elemS at he
        split at he <;> first | (cases he; assumption) | (cases he; done)
      rcases DataW.trod_slice hu h with ⟨rfl, _⟩ | ⟨a, len, cap, elems, rest, n, _, rfl, _, _, hl, hc, hlen, hel, _, _⟩
      · exact ⟨⟨none, 0, 0, rfl, Nat.le_refl _, Nat.zero_le _, [], rfl, fun i e h => by simp at h⟩, rfl⟩
      · refine ⟨⟨some a, len, cap, rfl, hl, hc, ?_⟩, rfl⟩
        have each : ∀ i, i < len → ∃ e', (w.cells? base (a.add (i * P.cellsOf e)) (P.cellsOf e)) = some e' ∧ okD w d e' ∧ e'.length = d.size := fun i hi => by
          have h1 := hel i hi
          rw [List.getElem?_eq_getElem (by omega : i < elems.length)] at h1
          obtain ⟨e', h2, h3⟩ := Option.bind_eq_some_iff.1 h1
          obtain ⟨h4, h5⟩ := ih.1 e _ _ _ hm h3
          exact ⟨e', h2, h4, h5⟩
        refine ⟨(List.range len).map fun i => ((w.cells? base (a.add (i * P.cellsOf e)) (P.cellsOf e)).getD []), by simp, fun i e' he' => ?_⟩
        have hi : i < len := by have := (List.getElem?_eq_some_iff.1 he').1; simpa using this
        obtain ⟨e2, h2, h4, h5⟩ := each i hi
        simp only [List.getElem?_map, List.getElem?_range hi, Option.map_some, Option.some.injEq] at he'
        rw [h2] at he'
        simp only [Option.getD_some] at he'
        subst he'
        refine ⟨h4, h5, a, rfl, fun j v hv => ?_⟩
        have := (cells?_get h2).2 j v hv
        rwa [Addr.add_add, hsz] at this
    · rcases hd with h | ⟨a, r, h⟩ <;> cases h
  | arr n d ih =>
    refine ⟨fun t fuel cs x hm h => ?_, fun t fs o cs hm hd => ?_⟩
    · simp only [matchD, Bool.and_eq_true] at hm
      obtain ⟨hct, hm⟩ := hm
      split at hm <;> try (cases hm; done)
      rename_i e he
      simp only [Bool.and_eq_true, beq_iff_eq] at hm hct
      obtain ⟨hsz, hm⟩ := hm
      have hu : P.underlying t = some (.array n e) := by
        unfold elemA at he
        split at he <;> try (cases he; done)
        rename_i m e' hu
        split at he <;> try (cases he; done)
        rename_i hmn
        cases he; subst hmn; exact hu
      obtain ⟨xs, m, _, _, hl, hx, hel⟩ := DataW.trod_array hu h
      refine ⟨⟨by rw [hl, hct], fun i hi => ?_⟩, by rw [hl, hct]; rfl⟩
      have h1 := hel i hi
      rw [List.getElem?_eq_getElem (by omega : i < xs.length), hsz] at h1
      exact (ih.1 e _ _ _ hm h1).1
    · rcases hd with h | ⟨a, r, h⟩ <;> cases h
  | fnil =>
    have hB : ∀ (t : TypeId) (fs : List (Nat × TypeId)) (o : Nat) (cs : List Value), matchD P .fnil t fs o = true → cs.length = P.cellsOf t → okD w .fnil (cs.drop o) ∧ o + Ds.fnil.size = P.cellsOf t := by
      intro t fs o cs hm hl
      simp only [matchD, Bool.and_eq_true, beq_iff_eq] at hm
      exact ⟨List.drop_eq_nil_of_le (by omega), by rw [hm.2]; rfl⟩
    refine ⟨fun t fuel cs x hm h => ?_, fun t fs o cs hm _ hl _ => hB t fs o cs hm hl⟩
    have hs : structB P t = true := by simp only [matchD, Bool.and_eq_true] at hm; exact hm.1.1
    obtain ⟨hl, _⟩ := str t fuel cs x hs h
    obtain ⟨h1, h2⟩ := hB t _ 0 cs hm hl
    exact ⟨by simpa using h1, by omega⟩
  | fcons d r ihd ihr =>
    have hB : ∀ (t : TypeId) (fs : List (Nat × TypeId)) (o : Nat) (cs : List Value), matchD P (.fcons d r) t fs o = true → cs.length = P.cellsOf t → (∀ f ∈ fs, ∃ n x', DataW.trod enc P w base sp held n f.2 ((cs.drop f.1).take (P.cellsOf f.2)) = some (x' : DataW H × List MemPlace)) →
        okD w (.fcons d r) (cs.drop o) ∧ o + (Ds.fcons d r).size = P.cellsOf t := by
      intro t fs o cs hm hl hf
      simp only [matchD, Bool.and_eq_true] at hm
      obtain ⟨hs, hm⟩ := hm
      split at hm <;> try (cases hm; done)
      rename_i f fs'
      simp only [Bool.and_eq_true, beq_iff_eq] at hm
      obtain ⟨⟨⟨⟨h1, h2⟩, hF⟩, h3⟩, h4⟩ := hm
      obtain ⟨n, x', h5⟩ := hf f List.mem_cons_self
      rw [h1, h2] at h5
      obtain ⟨h6, h7⟩ := ihd.1 _ _ _ _ h3 h5
      have hr : r = .fnil ∨ ∃ a r', r = .fcons a r' := by
        cases r with
        | fnil => exact .inl rfl
        | fcons a r' => exact .inr ⟨a, r', rfl⟩
        | _ => simp [Ds.isF] at hF
      obtain ⟨h8, h9⟩ := ihr.2 t fs' (o + d.size) cs h4 hr hl (fun g hg => hf g (List.mem_cons_of_mem _ hg))
      exact ⟨⟨h6, by rw [List.drop_drop]; exact h8⟩, by show o + (d.size + r.size) = _; omega⟩
    refine ⟨fun t fuel cs x hm h => ?_, fun t fs o cs hm _ hl hf => hB t fs o cs hm hl hf⟩
    have hs : structB P t = true := by simp only [matchD, Bool.and_eq_true] at hm; exact hm.1
    obtain ⟨hl, hf⟩ := str t fuel cs x hs h
    obtain ⟨h1, h2⟩ := hB t _ 0 cs hm hl hf
    exact ⟨by simpa using h1, by omega⟩
/-- What came in, by a description of its type. -/
theorem open_D {d : Ds} {t : TypeId} {v : Value} {q : DataW H} {ps : List MemPlace} (hm : matchD P d t (fieldsP P t) 0 = true) (h : DataW.Trod enc P w base sp held t v q ps) : okD w d v.cells.toList ∧ v.cells.toList.length = d.size := by
  obtain ⟨fuel, hf⟩ := h
  exact (open_both d).1 t fuel _ _ hm hf
end
section
variable {w : World}
theorem okD_ints {k : IntKind} {A : Option Addr} {n cap : Nat} (h : okD w (.sl (.int k)) [.slice A n cap]) : n ≤ cap ∧ cap ≤ maxLen ∧ ∃ l : List Int, SrW w 1 A n (iv k l) ∧ ∀ c ∈ l, (Lit.int k c).wf = true := by
  obtain ⟨A', n', cap', e, h1, h2, es, h3, h4⟩ := h
  simp only [List.cons.injEq, Value.slice.injEq, and_true] at e
  obtain ⟨rfl, rfl, rfl⟩ := e
  refine ⟨h1, h2, es.map (fun e => match e with | [.int _ z] => z | _ => 0), ⟨by rw [iv_len]; simp [h3], iv_one, fun j v hv => ?_⟩, fun c hc => ?_⟩
  · have hj : j < es.length := by have := (List.getElem?_eq_some_iff.1 hv).1; rw [iv_len] at this; simpa using this
    obtain ⟨⟨z, e1, e2⟩, _, a, ha, hcell⟩ := h4 j es[j] (List.getElem?_eq_getElem hj)
    have hv2 : v = .int k z := by
      rw [iv_get (by simpa using hj)] at hv
      injection hv with hv
      rw [← hv]; congr 1
      rw [List.getD_eq_getElem?_getD, List.getElem?_map, List.getElem?_eq_getElem hj, e1]; rfl
    have h0 := hcell 0 v (by rw [e1, hv2]; rfl)
    obtain ⟨a0, e0⟩ : ∃ a0, es[0]? = some a0 := ⟨_, List.getElem?_eq_getElem (by omega)⟩
    obtain ⟨⟨z0, e10, _⟩, _, a', ha', hcell0⟩ := h4 0 _ e0
    rw [ha] at ha'; injection ha' with ha'; subst ha'
    have hsp := spot_none (hcell0 0 (.int k z0) (by rw [e10]; rfl))
    obtain ⟨b, o, s⟩ := a
    simp only [Nat.zero_mul, Nat.zero_add, Addr.add, if_true] at hsp
    subst hsp
    refine ⟨b, o, ha, ?_⟩
    rw [add_none] at h0
    simpa [Ds.size] using h0
  · obtain ⟨e, he, rfl⟩ := List.mem_map.1 hc
    obtain ⟨i, hi⟩ := List.getElem?_of_mem he
    obtain ⟨⟨z, e1, e2⟩, _⟩ := h4 i e hi
    rw [e1]; exact e2
theorem okD_arr {k : IntKind} {n : Nat} {cs : List Value} (h : okD w (.arr n (.int k)) cs) : ∃ l : List Int, cs = iv k l ∧ l.length = n ∧ ∀ c ∈ l, (Lit.int k c).wf = true := by
  obtain ⟨h1, h2⟩ := h
  have h1 : cs.length = n := by simpa [Ds.size] using h1
  have hc : ∀ i, i < n → ∃ z, cs[i]? = some (.int k z) ∧ (Lit.int k z).wf = true := fun i hi => by
    obtain ⟨z, e1, e2⟩ := h2 i hi
    refine ⟨z, ?_, e2⟩
    have : ((cs.drop (i * Ds.size (.int k))).take (Ds.size (.int k)))[0]? = some (.int k z) := by rw [e1]; rfl
    simpa [Ds.size] using this
  refine ⟨cs.map (fun v => match v with | .int _ z => z | _ => 0), ?_, by simp [h1], fun c hcm => ?_⟩
  · apply List.ext_getElem?
    intro i
    by_cases hi : i < n
    · obtain ⟨z, e1, _⟩ := hc i hi
      simp [iv, e1]
    · rw [List.getElem?_eq_none (by omega), List.getElem?_eq_none (by simp [iv]; omega)]
  · obtain ⟨v, hv1, rfl⟩ := List.mem_map.1 hcm
    obtain ⟨i, hi⟩ := List.getElem?_of_mem hv1
    obtain ⟨z, e1, e2⟩ := hc i (by have := (List.getElem?_eq_some_iff.1 hi).1; omega)
    rw [e1] at hi
    injection hi with hi; subst hi
    exact e2
/-- A slice whose elements are single cells: they are read. -/
theorem okD_cells {d : Ds} (hd : d.size = 1) (h1 : ∀ e, okD w d e → ∀ v ∈ e, one v = true) {A : Option Addr} {n cap : Nat} (h : okD w (.sl d) [.slice A n cap]) : n ≤ cap ∧ cap ≤ maxLen ∧ ∃ vs : List Value, SrW w 1 A n vs ∧ ∀ (i : Nat) v, vs[i]? = some v → okD w d [v] := by
  obtain ⟨A', n', cap', e, h1', h2, es, h3, h4⟩ := h
  simp only [List.cons.injEq, Value.slice.injEq, and_true] at e
  obtain ⟨rfl, rfl, rfl⟩ := e
  have ex : ∀ (i : Nat) e, es[i]? = some e → ∃ v, e = [v] := fun i e he => by
    obtain ⟨_, hl, _⟩ := h4 i e he
    rw [hd] at hl
    match e, hl with
    | [v], _ => exact ⟨v, rfl⟩
  refine ⟨h1', h2, es.map (·.headD undef), ⟨by simp [h3], fun v hv => ?_, fun j v hv => ?_⟩, fun i v hv => ?_⟩
  · obtain ⟨e, he, rfl⟩ := List.mem_map.1 hv
    obtain ⟨i, hi⟩ := List.getElem?_of_mem he
    obtain ⟨v, rfl⟩ := ex i e hi
    exact h1 _ (h4 i _ hi).1 v List.mem_cons_self
  · rw [List.getElem?_map] at hv
    obtain ⟨e, he, rfl⟩ := Option.map_eq_some_iff.1 hv
    obtain ⟨v, rfl⟩ := ex j e he
    obtain ⟨_, _, a, ha, hcell⟩ := h4 j _ he
    have h0 := hcell 0 v rfl
    obtain ⟨e0, he0⟩ : ∃ e0, es[0]? = some e0 := ⟨_, List.getElem?_eq_getElem (by have := (List.getElem?_eq_some_iff.1 he).1; omega)⟩
    obtain ⟨v0, rfl⟩ := ex 0 e0 he0
    obtain ⟨_, _, a', ha', hcell0⟩ := h4 0 _ he0
    rw [ha] at ha'; injection ha' with ha'; subst ha'
    have hsp := spot_none (hcell0 0 v0 rfl)
    obtain ⟨b, o, s⟩ := a
    simp only [Nat.zero_mul, Nat.zero_add, Addr.add, if_true] at hsp
    subst hsp
    refine ⟨b, o, ha, ?_⟩
    rw [add_none, hd, Nat.mul_one, Nat.add_zero] at h0
    exact h0
  · rw [List.getElem?_map] at hv
    obtain ⟨e, he, rfl⟩ := Option.map_eq_some_iff.1 hv
    obtain ⟨v, rfl⟩ := ex i e he
    exact (h4 i _ he).1
theorem okD_fcons {d r : Ds} {cs : List Value} (h : okD w (.fcons d r) cs) : ∃ a b, cs = a ++ b ∧ okD w d a ∧ okD w r b := ⟨_, _, (List.take_append_drop d.size cs).symm, h.1, h.2⟩
end
end Go.X
