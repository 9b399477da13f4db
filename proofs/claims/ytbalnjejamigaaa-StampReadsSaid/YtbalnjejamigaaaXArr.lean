/- Arrays built, and read as wholes. -/
import Derived.Test.YtbalnjejamigaaaXPlan
set_option linter.unusedVariables false
set_option linter.unusedSimpArgs false
namespace Go.X
open Go.RowKit
/-- The same cells, parted otherwise. -/
theorem HP.recut {w0 w : World} {O : List Nat} {L : List (Nat × Blk)} {b : Nat} {cs cs' : List Seg} {t : TypeId} (h : HP w0 w O ((b, .cells cs t) :: L)) (hf : flat cs = flat cs') (hc : Fit cs') : HP w0 w O ((b, .cells cs' t) :: L) := by
  refine ⟨h.os, h.tape, h.output, h.size, h.keep, fun p hp => ?_, fun p hp => ?_, h.nodup⟩
  · rcases List.mem_cons.1 hp with rfl | hp
    · have := h.held (b, .cells cs t) List.mem_cons_self
      exact ⟨hc, by rw [← hf]; exact this.2⟩
    · exact h.held p (List.mem_cons_of_mem _ hp)
  · rcases List.mem_cons.1 hp with rfl | hp
    · exact h.own (b, .cells cs t) List.mem_cons_self
    · exact h.own p (List.mem_cons_of_mem _ hp)
section
variable {c : Cx} {S : Slots} {L : List (Nat × Blk)} {ty T T' : TypeId} {x y : Operand}

theorem V_idxA1 {i : Operand} {b n : Nat} {k : IntKind} {p : Int} (j : Nat) (ht : arB c.P T n 1 = true) (hx : ev S x = some (.pointer (some ⟨b, 0, none⟩))) (hi : ev S i = some (.int k p)) (hp : p = (j : Int)) (hj : j < n) : Val c S L (.indexAddr T x i) ty (.pointer (some ⟨b, j, none⟩)) := by
  have := V_indexAddrA (c := c) (L := L) (ty := ty) n 1 ht hx hi (by omega) (by omega)
  rwa [show 0 + p.toNat * 1 = j by omega] at this
theorem V_idxS1 {i : Operand} {b len cap : Nat} {k : IntKind} {p : Int} (j : Nat) (ht : slB c.P T 1 = true) (hx : ev S x = some (.slice (some ⟨b, 0, none⟩) len cap)) (hi : ev S i = some (.int k p)) (hp : p = (j : Int)) (hj : j < len) : Val c S L (.indexAddr T x i) ty (.pointer (some ⟨b, j, none⟩)) := by
  have := V_indexAddrS (c := c) (L := L) (ty := ty) 1 ht hx hi (by omega) (by omega)
  rwa [show 0 + p.toNat * 1 = j by omega] at this
theorem V_buildA {zs ds : List Seg} {parts : Array (Nat × Operand)} (n s : Nat) (hT : arB c.P T n s = true) (hz : zeroIs c.P T zs) (hb : Bld S (fun i k m => k = i * s ∧ m = s) parts.toList zs ds) : Val c S L (.build T parts) ty (AG ds) := fun a w st => by
  obtain ⟨z, h1, h2⟩ := run_zeroValue (w := w) hz
  unfold arB at hT
  split at hT <;> try (cases hT; done)
  rename_i m e' hu
  simp only [Bool.and_eq_true, beq_iff_eq] at hT
  obtain ⟨rfl, hs⟩ := hT
  have hfill := hb.fill (p := fun i => some (i * s, s)) (fun i k n h => by obtain ⟨rfl, rfl⟩ := h; rfl) st.sl hz.2
  have e : (parts.map fun (i, x) => (i, a.eval x)).toList = parts.toList.map fun q => (q.1, a.eval q.2) := by simp
  simp only [ex, execOp, Instr.build]
  simp only [Sem.run_bind, h1, Result.andThen_ok, run_underlying hu, h2, e, run_sizeOf_sz hs, hfill.1]
  simp [AG]

theorem evs_len : ∀ {l : List Operand} {us : List Value}, evs S l = some us → us.length = l.length
  | [], us, h => by simp [evs] at h; subst h; rfl
  | o :: l, us, h => by
    simp only [evs] at h
    cases hq : ev S o with
    | none => rw [hq] at h; simp at h
    | some v =>
      rw [hq] at h
      cases hr : evs S l with
      | none => rw [hr] at h; simp at h
      | some us' => rw [hr] at h; simp at h; subst h; simp [evs_len hr]

theorem V_buildI {zs : List Seg} {vs : List Value} {parts : Array (Nat × Operand)} (n : Nat) (hT : arB c.P T n 1 = true) (hz : zeroIs c.P T zs) (hzl : (flat zs).length = n) (hi : parts.toList.map (·.1) = List.range' 0 n) (hv : evs S (parts.toList.map (·.2)) = some vs) (h1 : ∀ v ∈ vs, one v = true) :
    Val c S L (.build T parts) ty (AG [(n, vs)]) := fun a w st => by
  obtain ⟨z, hz1, hz2⟩ := run_zeroValue (w := w) hz
  unfold arB at hT
  split at hT <;> try (cases hT; done)
  rename_i m e' hu
  simp only [Bool.and_eq_true, beq_iff_eq] at hT
  obtain ⟨rfl, hs⟩ := hT
  have hpl : parts.toList.length = m := by have := congrArg List.length hi; simpa using this
  have hfill := fill_seq (a := a) st.sl parts.toList vs [] (flat zs) (by simpa [hpl] using hi) hv h1 (by omega)
  have e : (parts.map fun (i, x) => (i, a.eval x)).toList = parts.toList.map fun q => (q.1, a.eval q.2) := by simp
  simp only [List.nil_append] at hfill
  simp only [ex, execOp, Instr.build]
  simp only [Sem.run_bind, hz1, Result.andThen_ok, run_underlying hu, hz2, e, run_sizeOf_sz hs, hfill]
  simp [AG, flat]

/-- n cells from a place on, as one. -/
theorem V_loadAF {b o : Nat} {cs ds : List Seg} (n : Nat) (ht : agB c.P T n = true) (hx : ev S x = some (.pointer (some ⟨b, o, none⟩))) (hA : At c L b cs) (hv : ((flat cs).drop o).take n = flat ds) (hl : o + n ≤ (flat cs).length) : Val c S L (.load T x) ty (AG ds) := fun a w st => by
  have e1 := st.sl.ev hx
  obtain ⟨hf, t, fz, hb⟩ := hA.here st
  have hL := run_loadCells (P := c.P) hb o n 0 #[] (by omega)
  simp only [Nat.add_zero, hv] at hL
  simp [ex, execOp, e1, Instr.loadAt, Instr.sureAddr, loadVar, run_isAgg_ag ht, run_sizeOf_sz (sz_of_ag ht), loadCells, hL, AG]

theorem iv_kd {k : IntKind} {l : List Int} {n : Nat} (h : l.length = n) : (flat [(n, iv k l)]).map kd = List.replicate n (kdOf k) := by
  subst h
  have : ∀ l : List Int, (iv k l).map kd = List.replicate l.length (kdOf k) := fun l => by
    induction l with
    | nil => rfl
    | cons a l ih => simp only [iv, List.map_cons, List.length_cons, List.replicate_succ, List.cons.injEq] at ih ⊢; exact ⟨by cases k <;> rfl, ih⟩
  simpa [flat] using this l
theorem lEq_iv {k : IntKind} : ∀ {l l' : List Int}, l.length = l'.length → lEq (iv k l) (iv k l') = decide (l = l')
  | [], [], _ => by simp [iv, lEq]
  | a :: l, [], h => by simp at h
  | [], b :: l', h => by simp at h
  | a :: l, b :: l', h => by
    have ih := lEq_iv (k := k) (l := l) (l' := l') (by simpa using h)
    simp only [iv, List.map_cons, lEq, cEq] at ih ⊢
    rw [ih]
    by_cases h1 : a = b <;> by_cases h2 : l = l' <;> simp [h1, h2]
theorem V_eqlI (m n : Nat) (k : IntKind) {l l' : List Int} (hm : Nat.ble m 9000 = true) (hs : shape c.P m T = some (List.replicate n (kdOf k))) (hag : aggT c.P T = true) (hg : c.P.eqGuardType c.P.depth T = false) (hx : ev S x = some (AG [(n, iv k l)])) (hy : ev S y = some (AG [(n, iv k l')])) (h1 : l.length = n) (h2 : l'.length = n) :
    Val c S L (.binOp .eql T x y T') ty (.bool (decide (l = l'))) := by
  have := V_eqlA (c := c) (S := S) (L := L) (ty := ty) (T' := T') m _ hm hs hag hg hx hy (iv_kd h1) (iv_kd h2)
  rwa [show flat [(n, iv k l)] = iv k l by simp [flat], show flat [(n, iv k l')] = iv k l' by simp [flat], lEq_iv (by omega)] at this
theorem V_neqI (m n : Nat) (k : IntKind) {l l' : List Int} (hm : Nat.ble m 9000 = true) (hs : shape c.P m T = some (List.replicate n (kdOf k))) (hag : aggT c.P T = true) (hg : c.P.eqGuardType c.P.depth T = false) (hx : ev S x = some (AG [(n, iv k l)])) (hy : ev S y = some (AG [(n, iv k l')])) (h1 : l.length = n) (h2 : l'.length = n) :
    Val c S L (.binOp .neq T x y T') ty (.bool (!decide (l = l'))) := by
  have := V_neqA (c := c) (S := S) (L := L) (ty := ty) (T' := T') m _ hm hs hag hg hx hy (iv_kd h1) (iv_kd h2)
  rwa [show flat [(n, iv k l)] = iv k l by simp [flat], show flat [(n, iv k l')] = iv k l' by simp [flat], lEq_iv (by omega)] at this

def u8sB (P : Program) (t : TypeId) : Bool := match P.underlying t with
  | some (.slice e) => (match P.underlying e with | some (.int .u8) => true | _ => false)
  | _ => false
/-- Bytes out of a constant string: they are marked. -/
theorem E_mark {L' : List (Nat × Blk)} {b n cap : Nat} {cs : List Seg} {t : TypeId} (ht : u8sB c.P T = true) (hx : ev S x = some (.slice (some ⟨b, 0, none⟩) n cap)) (hu : Upd b (.ro cs) L (.cells cs t) L') :
    Eff c S L (.convert T T x) ty fun v M => v = .slice (some ⟨b, 0, none⟩) n cap ∧ M = L' := fun a w st => by
  have e1 := st.sl.ev hx
  obtain ⟨hf, hh⟩ := st.hp.held _ hu.mem
  unfold u8sB at ht
  split at ht <;> try (cases ht; done)
  rename_i e hu1
  split at ht <;> try (cases ht; done)
  rename_i hu2
  have hh' : w.heap[b]? = some (.cells (flat cs).toArray t (0, 0)) := hh
  refine ⟨_, w.freeze ⟨b, (flat cs).length, none⟩ 1, L', .inl ?_, st.hp.upd hu rfl rfl rfl ?_ ?_ ⟨hf, t, ((flat cs).length, (flat cs).length + 1), ?_⟩, rfl, rfl⟩
  · have hsh : (Go.shape b).run c.P w = .ok (some (t, (flat cs).length)) w := by
      simp [Go.shape, Sem.run, World.shape?, hh']
    simp [ex, execOp, e1, convert, run_underlying hu1, run_underlying hu2, markStringish, hsh]
  · simp [World.freeze]
  · intro k hk
    simp only [World.freeze, Nat.one_ne_zero, if_false, Array.getElem?_modify]
    rw [if_neg (fun h => hk h.symm)]
  · simp only [World.freeze, Nat.one_ne_zero, if_false, Array.getElem?_modify, hh']
    simp
theorem Sr.ownR {b n r : Nat} {xs rs : List Value} (h : At c L b [(n, xs), (r, rs)]) (h1 : ∀ v ∈ xs, one v = true) : Sr c L 1 (some ⟨b, 0, none⟩) n xs := Sr.own h h1
end
/-- A row that came in. -/
theorem SrW.ofRow {w : World} {x : Addr} {len : Nat} {k : IntKind} {zs : List Int} (hl : len ≤ zs.length) (h : ∀ i, i < zs.length → w.cell? (x.add i) = some (.int k (zs.getD i 0))) : SrW w 1 (some x) len (iv k (zs.take len)) := by
  refine ⟨by rw [iv_len, List.length_take, Nat.min_eq_left hl, Nat.mul_one], iv_one, fun j v hv => ?_⟩
  have hj : j < (iv k (zs.take len)).length := (List.getElem?_eq_some_iff.1 hv).1
  rw [iv_len, List.length_take] at hj
  have h0 := h 0 (by omega)
  have hs := spot_none h0
  obtain ⟨b, o, s⟩ := x
  simp only [Addr.add, if_true] at hs
  subst hs
  refine ⟨b, o, rfl, ?_⟩
  have hj2 := h j (by omega)
  rw [add_none] at hj2
  rw [hj2]
  rw [iv_get (by simp; omega)] at hv
  rw [← hv]
  congr 2
  simp [List.getD_eq_getElem?_getD, List.getElem?_take, show j < len by omega]
end Go.X
