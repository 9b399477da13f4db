/- More operations: builtins, fields, aggregates built, slices cut. -/
import Derived.Test.YtbalnjejamigaaaXEq
set_option linter.unusedVariables false
set_option linter.unusedSimpArgs false
namespace Go.X
open Go.RowKit

def AtW (w : World) (b : Nat) (cs : List Seg) : Prop := Fit cs ∧ ∃ t fz, w.heap[b]? = some (.cells (flat cs).toArray t fz)
theorem AtW.at {c : Cx} {L : List (Nat × Blk)} {b : Nat} {cs : List Seg} (h : AtW c.w0 b cs) (hO : b ∉ c.O) : At c L b cs := .inr ⟨hO, h.1, h.2⟩
theorem At.head {c : Cx} {L : List (Nat × Blk)} {b : Nat} {cs : List Seg} {t : TypeId} : At c ((b, Blk.cells cs t) :: L) b cs := .inl (.inl ⟨t, .head _⟩)
theorem At.headR {c : Cx} {L : List (Nat × Blk)} {b : Nat} {cs : List Seg} : At c ((b, Blk.ro cs) :: L) b cs := .inl (.inr (.head _))
theorem At.tail {c : Cx} {L : List (Nat × Blk)} {b : Nat} {cs : List Seg} {x : Nat × Blk} (h : At c L b cs) : At c (x :: L) b cs :=
  h.imp (Or.imp (fun ⟨t, h⟩ => ⟨t, .tail _ h⟩) (.tail _)) id
theorem At.hp {c : Cx} {L : List (Nat × Blk)} {b : Nat} {cs : List Seg} (h : At c L b cs) {w : World} (hp : HP c.w0 w c.O L) : AtW w b cs := by
  rcases h with (⟨t, h⟩ | h) | ⟨h1, h2, t, fz, h3⟩
  · have := hp.held _ h
    exact ⟨this.1, t, _, this.2⟩
  · exact hp.held _ h
  · refine ⟨h2, t, fz, ?_⟩
    rw [hp.keep b (Array.getElem?_eq_some_iff.1 h3).1 h1]; exact h3
theorem AtW.step {w w' : World} {O : List Nat} {L : List (Nat × Blk)} {b : Nat} {cs : List Seg} (h : AtW w b cs) (hp : HP w w' O L) (hO : b ∉ O) : AtW w' b cs := by
  obtain ⟨h2, t, fz, h3⟩ := h
  refine ⟨h2, t, fz, ?_⟩
  rw [hp.keep b (Array.getElem?_eq_some_iff.1 h3).1 hO]; exact h3

section
variable {c : Cx} {S : Slots} {L L' : List (Nat × Blk)} {ty : TypeId} {x y z : Operand} {T T' : TypeId}

theorem run_builtin {b : Builtin} {xs : Array Operand} {ats : Array TypeId} {vs : List Value} {a : Act} {w w' : World} {v : Value} (st : St c S L a w) (ha : evs S xs.toList = some vs) (h : ∀ cs, (builtin b ats ty cs vs.toArray).run c.P w = .ok (.value v) w') :
    (ex a.eval (.call ⟨.builtin b, xs, ats⟩) ty).run c.P w = .ok (.value v) w' := by
  have := evs_eq st.sl ha
  have e : xs.map a.eval = vs.toArray := by
    rw [← this, ← Array.toList_inj]; simp
  simp [ex, execOp, resolve, e, invoke, h]

theorem V_min {xs : Array Operand} {ats : Array TypeId} {k k' : IntKind} {p q : Int} (ha : evs S xs.toList = some [.int k p, .int k' q]) : Val c S L (.call ⟨.builtin .min, xs, ats⟩) ty (.int k (min p q)) := fun a w st =>
  run_builtin st ha fun cs => by
    have : (if q < p then q else p) = min p q := by omega
    simp [builtin, Builtin.min_, Builtin.min2, this]
theorem V_max {xs : Array Operand} {ats : Array TypeId} {k k' : IntKind} {p q : Int} (ha : evs S xs.toList = some [.int k p, .int k' q]) : Val c S L (.call ⟨.builtin .max, xs, ats⟩) ty (.int k (max p q)) := fun a w st =>
  run_builtin st ha fun cs => by
    have : (if p < q then q else p) = max p q := by omega
    simp [builtin, Builtin.max_, Builtin.max2, this]

def sliceT (P : Program) (t : TypeId) : Bool := match P.underlying t with
  | some (.slice _) => true
  | _ => false
theorem V_lenS {xs : Array Operand} {t : TypeId} {p : Option Addr} {n cap : Nat} (ht : sliceT c.P t = true) (ha : evs S xs.toList = some [.slice p n cap]) : Val c S L (.call ⟨.builtin .len, xs, #[t]⟩) ty (.int .i64 n) := fun a w st =>
  run_builtin st ha fun cs => by
    unfold sliceT at ht
    split at ht <;> try (cases ht; done)
    rename_i hu
    simp [builtin, Builtin.len_, run_underlying hu, goInt]

/-- Field f of struct type t is no aggregate. -/
def fscB (P : Program) (t : TypeId) (f : Nat) : Bool := match P.underlying t with
  | some (.struct fs) => (match fs[f]? with
    | some x => scB P x.type
    | none => false)
  | _ => false
def fagB (P : Program) (t : TypeId) (f n : Nat) : Bool := match P.underlying t with
  | some (.struct fs) => (match fs[f]? with
    | some x => agB P x.type n
    | none => false)
  | _ => false
theorem V_field {f : Nat} {cs : List Seg} {v : Value} (k _n : Nat) (hf : fldB c.P T f k 1 = true) (hs : fscB c.P T f = true) (hx : ev S x = some (AG cs)) (hF : Fit cs) (hv : cell1 cs k = some v) : Val c S L (.field T x f) ty v := fun a w st => by
  have h1 := st.sl.ev hx
  unfold fldB at hf
  unfold fscB at hs
  split at hf <;> try (cases hf; done)
  rename_i fs hu
  rw [hu] at hs
  split at hf <;> try (cases hf; done)
  rename_i fx hfx
  simp only [hfx] at hs
  simp only [Bool.and_eq_true, beq_iff_eq] at hf
  obtain ⟨⟨rfl, _⟩, _⟩ := hf
  have := cell1_flat hF hv
  simp [ex, execOp, h1, Instr.field, run_underlying hu, hfx, AG, asAgg, part, run_isAgg_sc hs, this]

theorem V_fieldA {f : Nat} {cs ds : List Seg} (k n : Nat) (hf : fldB c.P T f k n = true) (hs : fagB c.P T f n = true) (hx : ev S x = some (AG cs)) (hF : Fit cs) (hv : subS cs k n = some ds) : Val c S L (.field T x f) ty (AG ds) := fun a w st => by
  have h1 := st.sl.ev hx
  unfold fldB at hf
  unfold fagB at hs
  split at hf <;> try (cases hf; done)
  rename_i fs hu
  rw [hu] at hs
  split at hf <;> try (cases hf; done)
  rename_i fx hfx
  simp only [hfx] at hs
  simp only [Bool.and_eq_true, beq_iff_eq] at hf
  obtain ⟨⟨rfl, _⟩, _⟩ := hf
  obtain ⟨e, _, hl⟩ := subS_flat hF hv
  simp [ex, execOp, h1, Instr.field, run_underlying hu, hfx, AG, asAgg, part, run_isAgg_ag hs, run_sizeOf_sz (sz_of_ag hs), e, List.extract_eq_take_drop]

def stB (P : Program) (t : TypeId) : Bool := match P.underlying t with
  | some (.struct fs) => fs.toList.all fun f => (P.info? f.type).isSome
  | _ => false

theorem run_places {P : Program} {w : World} : ∀ (l : List Field), (l.all fun f => (P.info? f.type).isSome) = true → (l.mapM (fun f => do pure (f.offset, ← sizeOf f.type) : Field → Sem (Nat × Nat))).run P w = .ok (l.map fun f => (f.offset, P.cellsOf f.type)) w
  | [], _ => by simp
  | f :: l, h => by
    simp only [List.all_cons, Bool.and_eq_true] at h
    obtain ⟨i, hi⟩ := Option.isSome_iff_exists.1 h.1
    have ih := run_places (w := w) l h.2
    rw [List.mapM_cons]
    simp only [Sem.run_bind, run_sizeOf w hi, Result.andThen_ok, Sem.run_pure, ih, List.map_cons]

theorem V_build {zs ds : List Seg} {parts : Array (Nat × Operand)} (hT : stB c.P T = true) (hz : zeroIs c.P T zs) (hb : Bld S (fun i k n => fldB c.P T i k n = true) parts.toList zs ds) : Val c S L (.build T parts) ty (AG ds) := fun a w st => by
  obtain ⟨z, h1, h2⟩ := run_zeroValue (w := w) hz
  unfold stB at hT
  split at hT <;> try (cases hT; done)
  rename_i fs hu
  have hp := run_places (w := w) fs.toList hT
  have hfill := hb.fill (p := fun i => (fs.map fun f => (f.offset, c.P.cellsOf f.type))[i]?) (fun i k n h => by
    unfold fldB at h
    rw [hu] at h
    simp only at h
    split at h <;> try (cases h; done)
    rename_i fx hfx
    simp only [Bool.and_eq_true, beq_iff_eq] at h
    obtain ⟨⟨rfl, hs⟩, _⟩ := h
    unfold szB at hs
    split at hs <;> try (cases hs; done)
    rename_i i' hi
    simp only [beq_iff_eq] at hs
    simp [hfx, Program.cellsOf, hi, hs]) st.sl hz.2
  have e : (parts.map fun (i, x) => (i, a.eval x)).toList = parts.toList.map fun q => (q.1, a.eval q.2) := by simp
  simp only [ex, execOp, Instr.build]
  simp only [Sem.run_bind, h1, Result.andThen_ok, run_underlying hu, h2, e]
  rw [Array.mapM_eq_mapM_toList]
  simp only [Sem.run_map, hp, Result.andThen_ok]
  have hfill := hfill.1
  simp only [List.getElem?_toArray, List.getElem?_map, Array.getElem?_toList, Array.getElem?_map] at hfill ⊢
  simp only [hfill]
  simp [AG]
end
end Go.X
