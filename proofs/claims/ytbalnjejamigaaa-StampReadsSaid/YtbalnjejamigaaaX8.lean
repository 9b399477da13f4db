/- Maps with whole numbers as keys; function values. -/
import Derived.Test.YtbalnjejamigaaaX6
import Derived.MapKept
set_option linter.unusedVariables false
set_option linter.unusedSimpArgs false
namespace Go.X
open Go.RowKit
abbrev Ent := Int × Value × Nat
def entL (k : IntKind) (m : List Ent) : List MapEntry := m.map fun e => ⟨.int k e.1, e.2.1, e.2.2⟩
def mapO (k : IntKind) (m : List Ent) (clock : Nat) : Obj := .map (entL k m).toArray clock
def mfind : List Ent → Int → Nat → Option (Nat × Value)
  | [], _, _ => none
  | e :: m, x, i => if e.1 = x then some (i, e.2.1) else mfind m x (i + 1)
def mget (m : List Ent) (x : Int) : Option Value := (mfind m x 0).map (·.2)
def mput (m : List Ent) (clock : Nat) (x : Int) (v : Value) : List Ent := match mfind m x 0 with
  | some (i, _) => m.modify i fun e => (e.1, v, e.2.2)
  | none => m ++ [(x, v, clock)]
def mclk (m : List Ent) (clock : Nat) (x : Int) : Nat := match mfind m x 0 with
  | some _ => clock
  | none => clock + 1
theorem findNow_ents {k : IntKind} {x : Int} : ∀ (m : List Ent) (i : Nat), Instr.findNow (.int k) (.int k x) (entL k m) i = some (mfind m x i)
  | [], i => rfl
  | e :: m, i => by
    have ih := findNow_ents (k := k) (x := x) m (i + 1)
    simp only [entL, List.map_cons, Instr.findNow, Instr.sameNow, if_true, mfind] at ih ⊢
    by_cases h : e.1 = x
    · subst h; simp
    · have h2 : (x == e.1) = false := by simp; exact fun e' => h e'.symm
      simp only [h2, h, if_false]; exact ih
theorem mfind_shift {x : Int} : ∀ (m : List Ent) (i : Nat), mfind m x i = (mfind m x 0).map fun q => (q.1 + i, q.2)
  | [], i => rfl
  | e :: m, i => by
    unfold mfind
    by_cases h : e.1 = x
    · simp [h]
    · simp only [h, if_false]
      rw [mfind_shift m (i + 1), mfind_shift m (0 + 1)]
      cases mfind m x 0 with
      | none => rfl
      | some q => simp; omega
theorem mget_cons {e : Ent} {m : List Ent} {x : Int} : mget (e :: m) x = if e.1 = x then some e.2.1 else mget m x := by
  unfold mget
  rw [show mfind (e :: m) x 0 = if e.1 = x then some (0, e.2.1) else mfind m x (0 + 1) from rfl]
  by_cases h : e.1 = x
  · simp [h]
  · simp only [h, if_false]; rw [mfind_shift m (0 + 1)]; cases mfind m x 0 <;> rfl
theorem mget_app {m : List Ent} {e : Ent} {x : Int} : mget (m ++ [e]) x = (mget m x).or (if e.1 = x then some e.2.1 else none) := by
  induction m with
  | nil => simp [mget_cons, mget, mfind]
  | cons a m ih => rw [List.cons_append, mget_cons, mget_cons, ih]; by_cases h : a.1 = x <;> simp [h]
theorem mput_cons {e : Ent} {m : List Ent} {c : Nat} {x : Int} {v : Value} : mput (e :: m) c x v = if e.1 = x then (e.1, v, e.2.2) :: m else e :: mput m c x v := by
  unfold mput
  rw [show mfind (e :: m) x 0 = if e.1 = x then some (0, e.2.1) else mfind m x (0 + 1) from rfl]
  by_cases h : e.1 = x
  · simp [h]
  · simp only [h, if_false]
    rw [mfind_shift m (0 + 1)]
    cases mfind m x 0 with
    | none => rfl
    | some q => simp
theorem mget_put {m : List Ent} {c : Nat} {x y : Int} {v : Value} : mget (mput m c x v) y = if x = y then some v else mget m y := by
  induction m with
  | nil => simp [mput, mfind, mget_cons]
  | cons e m ih =>
    rw [mput_cons]
    by_cases h : e.1 = x
    · rw [if_pos h, mget_cons, mget_cons]
      by_cases h2 : x = y
      · simp [h, h2]
      · simp [h, h2]
    · rw [if_neg h, mget_cons, mget_cons, ih]
      by_cases h2 : x = y
      · subst h2; simp [h]
      · simp [h2]
def mapT (P : Program) (t : TypeId) (k : IntKind) : Option TypeId := match P.underlying t with
  | some (.map kt e) => if inB' P kt k then some e else none
  | _ => none
theorem mapT_open {P : Program} {t e : TypeId} {k : IntKind} (h : mapT P t k = some e) : ∃ kt, P.underlying t = some (.map kt e) ∧ P.underlying kt = some (.int k) := by
  unfold mapT at h
  split at h <;> try (cases h; done)
  rename_i kt e' hu
  split at h <;> try (cases h; done)
  rename_i hk
  cases h
  refine ⟨kt, hu, ?_⟩
  unfold inB' at hk
  split at hk <;> try (cases hk; done)
  rename_i k' hu'
  simp only [beq_iff_eq] at hk
  subst hk; exact hu'
section
variable {c : Cx} {Q : Post} {S S1 : Slots} {L L1 L' Lr Lx : List (Nat × Blk)} {ops : Array Oper} {d : Option Tmp} {t : Tmp} {ty T T' : TypeId} {pos : String} {af : Array Edge} {rest : List Oper} {op : Op} {x y z : Operand} {v : Value} {g : Option (Nat × Bool)} {i j : Nat} {p : Plan}
theorem obj_at {b : Nat} {o : Obj} (h : (b, Blk.obj o) ∈ L) {a : Act} {w : World} (st : St c S L a w) : w.heap[b]? = some o := (st.hp.held _ h).2
theorem run_findInt {P : Program} {w : World} {kt : TypeId} {k : IntKind} {q : Int} {m : List Ent} (hk : P.underlying kt = some (.int k)) : (Instr.findKey kt (.int k q) (entL k m)).run P w = .ok (mfind m q 0) w := by
  unfold Instr.findKey
  simp [run_underlying hk, findNow_ents]
theorem run_checkInt {P : Program} {w : World} {kt : TypeId} {k : IntKind} {q : Int} {em : Bool} (hk : P.underlying kt = some (.int k)) : (Instr.checkKey em 10000 kt (.int k q)).run P w = .ok () w := by
  rw [show (10000 : Nat) = 9999 + 1 from rfl]
  unfold Instr.checkKey
  simp [run_underlying hk]
theorem V_lookupS {b : Nat} {k : IntKind} {q : Int} {m : List Ent} {clock : Nat} {e : TypeId} (hm : mget m q = some v) (hx : ev S x = some (.map (some b))) (hy : ev S y = some (.int k q)) (hb : (b, Blk.obj (mapO k m clock)) ∈ L) (ht : mapT c.P T k = some e) : Val c S L (.lookup T x y true) ty (.tuple #[v, .bool true]) := fun a w st => by
  have e1 := st.sl.ev hx; have e2 := st.sl.ev hy
  obtain ⟨kt, hu, hk⟩ := mapT_open ht
  have hh : w.heap[b]? = some (.map (entL k m).toArray clock) := obj_at hb st
  have hg := Go.MapKept.run_getObj_map (P := c.P) hh
  unfold mget at hm
  obtain ⟨⟨i, v'⟩, h1, h2⟩ := Option.map_eq_some_iff.1 hm
  simp only at h2; subst h2
  simp [ex, execOp, e1, e2, Instr.lookup, run_underlying hu, hg, run_checkInt hk, run_findInt hk, h1]
theorem V_lookupN {b : Nat} {k : IntKind} {q : Int} {m : List Ent} {clock : Nat} {e : TypeId} (zv : Value) (hm : mget m q = none) (hx : ev S x = some (.map (some b))) (hy : ev S y = some (.int k q)) (hb : (b, Blk.obj (mapO k m clock)) ∈ L) (ht : mapT c.P T k = some e) (hz : (c.P.info? e).bind (·.zero) = some zv) : Val c S L (.lookup T x y true) ty (.tuple #[zv, .bool false]) := fun a w st => by
  have e1 := st.sl.ev hx; have e2 := st.sl.ev hy
  obtain ⟨kt, hu, hk⟩ := mapT_open ht
  have hh : w.heap[b]? = some (.map (entL k m).toArray clock) := obj_at hb st
  have hg := Go.MapKept.run_getObj_map (P := c.P) hh
  obtain ⟨i, hi, hz'⟩ := Option.bind_eq_some_iff.1 hz
  have h1 : mfind m q 0 = none := by unfold mget at hm; exact Option.map_eq_none_iff.1 hm
  simp [ex, execOp, e1, e2, Instr.lookup, run_underlying hu, hg, run_checkInt hk, run_findInt hk, h1, zeroValue, run_typeInfo _ hi, hz']
theorem V_lookup1 {b : Nat} {k : IntKind} {q : Int} {m : List Ent} {clock : Nat} {e : TypeId} (zv : Value) (hx : ev S x = some (.map (some b))) (hy : ev S y = some (.int k q)) (hb : (b, Blk.obj (mapO k m clock)) ∈ L) (ht : mapT c.P T k = some e) (hz : (c.P.info? e).bind (·.zero) = some zv) : Val c S L (.lookup T x y false) ty ((mget m q).getD zv) := fun a w st => by
  have e1 := st.sl.ev hx; have e2 := st.sl.ev hy
  obtain ⟨kt, hu, hk⟩ := mapT_open ht
  have hh : w.heap[b]? = some (.map (entL k m).toArray clock) := obj_at hb st
  have hg := Go.MapKept.run_getObj_map (P := c.P) hh
  obtain ⟨i, hi, hz'⟩ := Option.bind_eq_some_iff.1 hz
  unfold mget
  cases h1 : mfind m q 0 with
  | none => simp [ex, execOp, e1, e2, Instr.lookup, run_underlying hu, hg, run_checkInt hk, run_findInt hk, h1, zeroValue, run_typeInfo _ hi, hz']
  | some r => simp [ex, execOp, e1, e2, Instr.lookup, run_underlying hu, hg, run_checkInt hk, run_findInt hk, h1]
theorem E_makeMap (ht : ∃ e, mapT c.P T .i64 = some e) : Eff c S L (.makeMap T none) ty fun v M => ∃ b, v = .map (some b) ∧ M = (b, .obj (mapO .i64 [] 0)) :: L := fun a w st => by
  refine ⟨_, _, _, .inl ?_, st.hp.alloc (o := .map #[] 0) (k := .obj (mapO .i64 [] 0)) ⟨fun _ _ _ h => (by cases h), rfl⟩, w.heap.size, rfl, rfl⟩
  simp [ex, execOp, Instr.makeMap]
theorem mfind_key {m : List Ent} {q : Int} : ∀ {i : Nat} {j : Nat} {v : Value}, mfind m q i = some (j, v) → ∃ e, m[j - i]? = some e ∧ e.1 = q ∧ i ≤ j := by
  induction m with
  | nil => intro i j v h; cases h
  | cons e m ih =>
    intro i j v h
    unfold mfind at h
    split at h
    · rename_i he
      cases h
      exact ⟨e, by simp, he, Nat.le_refl _⟩
    · obtain ⟨e', h1, h2, h3⟩ := ih h
      exact ⟨e', by rw [show j - i = (j - (i + 1)) + 1 by omega, List.getElem?_cons_succ]; exact h1, h2, by omega⟩
theorem E_mapUpdate {b : Nat} {k : IntKind} {q : Int} {m : List Ent} {clock : Nat} {e : TypeId} (hx : ev S x = some (.map (some b))) (hy : ev S y = some (.int k q)) (hv : ev S z = some v) (hu : Upd b (.obj (mapO k (mput m clock q v) (mclk m clock q))) L (.obj (mapO k m clock)) L') (ht : mapT c.P T k = some e) :
    Eff c S L (.mapUpdate T x y z) ty fun u M => u = undef ∧ M = L' := fun a w st => by
  have e1 := st.sl.ev hx; have e2 := st.sl.ev hy; have e3 := st.sl.ev hv
  obtain ⟨kt, hun, hk⟩ := mapT_open ht
  have hh : w.heap[b]? = some (.map (entL k m).toArray clock) := obj_at hu.mem st
  have hg := Go.MapKept.run_getObj_map (P := c.P) hh
  have fin : ∀ o : Obj, o = mapO k (mput m clock q v) (mclk m clock q) → HP c.w0 { w with heap := w.heap.setIfInBounds b o } c.O L' := fun o ho => by
    have hlt : b < w.heap.size := (Array.getElem?_eq_some_iff.1 hh).1
    refine st.hp.upd hu rfl rfl rfl (by simp) (fun i hi => by simp [Array.getElem?_setIfInBounds_ne (Ne.symm hi)]) ⟨fun _ _ _ h => by simp [mapO] at h, ?_⟩
    subst ho
    simp [hlt]
  cases h1 : mfind m q 0 with
  | none =>
    refine ⟨undef, _, L', .inr ⟨?_, rfl⟩, fin (mapO k (mput m clock q v) (mclk m clock q)) rfl, rfl, rfl⟩
    have hpush : ((entL k m).toArray.push { key := .int k q, val := v, born := clock }) = (entL k (mput m clock q v)).toArray := by simp [mput, h1, entL]
    simp only [List.push_toArray] at hpush
    simp [ex, execOp, e1, e2, e3, Instr.mapUpdate, run_underlying hun, hg, run_checkInt hk, run_findInt hk, h1, Go.MapKept.run_setObj_map (P := c.P) _ hh, hpush, mapO, mclk]
  | some r =>
    obtain ⟨i, v'⟩ := r
    obtain ⟨en, h2, h3, _⟩ := mfind_key h1
    simp only [Nat.sub_zero] at h2
    refine ⟨undef, _, L', .inr ⟨?_, rfl⟩, fin (mapO k (mput m clock q v) (mclk m clock q)) rfl, rfl, rfl⟩
    have hk2 : ((entL k m)[i]?.map (fun x => x.key)).getD (.int k q) = .int k q := by
      simp [entL, h2, h3]
    have hstay : (Instr.keyThatStays (.int k q) (.int k q)).run c.P w = .ok (.int k q) w := by simp [Instr.keyThatStays, Instr.sameBits]
    have hmod : ((entL k m).modify i fun e => { key := .int k q, val := v, born := e.born }) = entL k (mput m clock q v) := by
      unfold mput
      rw [h1]
      simp only [entL]
      apply List.ext_getElem?
      intro j
      simp only [List.getElem?_map, List.getElem?_modify]
      by_cases hj : i = j
      · subst hj; simp [h2, h3]
      · cases m[j]? <;> simp [hj]
    simp [ex, execOp, e1, e2, e3, Instr.mapUpdate, run_underlying hun, hg, run_checkInt hk, run_findInt hk, h1, hk2, hstay, Go.MapKept.run_setObj_map (P := c.P) _ hh, hmod, mapO, mclk]
/-! ### function values -/
theorem V_makeFunc {fn : Fn} {first cap : Array Operand} {fs cs : List Value} (h1 : evs S first.toList = some fs := by exact rfl) (h2 : evs S cap.toList = some cs := by exact rfl) : Val c S L (.makeFunc fn first cap) ty (.func fn fs.toArray cs.toArray) := fun a w st => by
  have e1 := evs_eq st.sl h1
  have e2 := evs_eq st.sl h2
  have f1 : first.map a.eval = fs.toArray := by rw [← e1, ← Array.toList_inj]; simp
  have f2 : cap.map a.eval = cs.toArray := by rw [← e2, ← Array.toList_inj]; simp
  simp [ex, execOp, Instr.makeFunc, f1, f2]
theorem C_fnV {f : FuncId} {xc : Operand} {xs : Array Operand} {ats : Array TypeId} {vs : List Value} {fs cs : Array Value} {R : Value → List (Nat × Blk) → Prop} (hx : ev S xc = some (.func (.func f) fs cs)) (ha : evs S xs.toList = some vs) (hf : fnB c.P f = true)
    (hc : ∀ w, HP c.w0 w c.O L → Calls c.P f (fs.toList ++ vs ++ cs.toList).toArray w fun e w' => ∃ v L', e = .returned v ∧ HP c.w0 w' c.O L' ∧ R v L') : Cal c S L (.call ⟨.value xc, xs, ats⟩) ty R := fun a w st => by
  refine ⟨f, _, ?_, hc w st.hp⟩
  have := evs_eq st.sl ha
  have e : xs.map a.eval = vs.toArray := by rw [← this, ← Array.toList_inj]; simp
  have e2 := st.sl.ev hx
  have e3 : (fs ++ vs.toArray ++ cs) = (fs.toList ++ vs ++ cs.toList).toArray := by apply Array.ext'; simp
  simp only [ex, execOp, resolve, e, e2, Deferred.ofValue, invoke]
  simp only [Sem.run_bind, Sem.run_pure, Result.andThen_ok, e3]
  exact run_callFunc hf
theorem cpV {f : FuncId} {xc : Operand} {xs : Array Operand} {ats : Array TypeId} {vs : List Value} {fs cs : Array Value} (hx : ev S xc = some (.func (.func f) fs cs)) (ha : evs S xs.toList = some vs) (hc : ∀ w, HP c.w0 w c.O L → Calls c.P f (fs.toList ++ vs ++ cs.toList).toArray w fun e w' => e = .returned v ∧ HP w w' [] []) (k : WL c ops Q rest (putS d v S) L)
    (hf : fnB c.P f = true := by kernel_rfl) (hd : inB c.n d = true := by exact rfl) : WL c ops Q (⟨d, .call ⟨.value xc, xs, ats⟩, ty, pos, af, none⟩ :: rest) S L :=
  WL.cal hd (C_fnV (R := fun u M => u = v ∧ M = L) hx ha hf fun w hp => (hc w hp).mono fun _ _ ⟨he, hp'⟩ => ⟨v, L, he, hp.trans0 hp', rfl, rfl⟩) fun u M ⟨h1, h2⟩ => by subst h1; subst h2; exact k
theorem cmV {f : FuncId} {xc : Operand} {xs : Array Operand} {ats : Array TypeId} {vs : List Value} {fs cs : Array Value} {b : Nat} {k1 k2 : Blk} (hx : ev S xc = some (.func (.func f) fs cs)) (ha : evs S xs.toList = some vs) (hc : ∀ w, HP c.w0 w c.O L → Calls c.P f (fs.toList ++ vs ++ cs.toList).toArray w fun e w' => e = .returned v ∧ HP w w' [b] [(b, k2)]) (k : WL c ops Q rest (putS d v S) L')
    (hu : Upd b k2 L k1 L' := by exact upd) (hf : fnB c.P f = true := by kernel_rfl) (hd : inB c.n d = true := by exact rfl) : WL c ops Q (⟨d, .call ⟨.value xc, xs, ats⟩, ty, pos, af, none⟩ :: rest) S L :=
  WL.cal hd (C_fnV (R := fun u M => u = v ∧ M = L') hx ha hf fun w hp => (hc w hp).mono fun _ _ ⟨he, hp'⟩ => ⟨v, L', he, hp.mod hu hp', rfl, rfl⟩) fun u M ⟨h1, h2⟩ => by subst h1; subst h2; exact k
theorem cgV {ι : Type} {f : FuncId} {xc : Operand} {xs : Array Operand} {ats : Array TypeId} {vs : List Value} {fs cs : Array Value} {bs : List Nat} {V : ι → Value} {M : ι → List (Nat × Blk)} {A : ι → Prop} (hx : ev S xc = some (.func (.func f) fs cs)) (ha : evs S xs.toList = some vs)
    (hc : ∀ w, HP c.w0 w c.O L → Calls c.P f (fs.toList ++ vs ++ cs.toList).toArray w fun e w' => ∃ r, A r ∧ e = .returned (V r) ∧ HP w w' bs (M r)) (k : ∀ r, A r → WL c ops Q rest (putS d (V r) S) (M r ++ Lr))
    (hdel : Dels bs L Lr := by exact dels) (hf : fnB c.P f = true := by kernel_rfl) (hd : inB c.n d = true := by exact rfl) : WL c ops Q (⟨d, .call ⟨.value xc, xs, ats⟩, ty, pos, af, none⟩ :: rest) S L :=
  WL.cal hd (C_fnV (R := fun u N => ∃ r, A r ∧ u = V r ∧ N = M r ++ Lr) hx ha hf fun w hp => (hc w hp).mono fun _ _ ⟨r, hr, he, hp'⟩ => ⟨V r, M r ++ Lr, he, hp.trans hdel hp', r, hr, rfl, rfl⟩) fun u N ⟨r, hr, h1, h2⟩ => by subst h1; subst h2; exact k r hr
theorem dcpV {f : FuncId} {xc : Operand} {xs : Array Operand} {ats : Array TypeId} {vs : List Value} {fs cs : Array Value} (ho : ops[i]? = some ⟨d, .call ⟨.value xc, xs, ats⟩, ty, pos, af, g⟩) (hx : ev S xc = some (.func (.func f) fs cs)) (ha : evs S xs.toList = some vs) (hc : ∀ w, HP c.w0 w c.O L → Calls c.P f (fs.toList ++ vs ++ cs.toList).toArray w fun e w' => e = .returned v ∧ HP w w' [] []) (k : WD c ops Q Lr p (putS d v S) L)
    (hg : Gd ops S g := by exact trivial) (hf : fnB c.P f = true := by kernel_rfl) (hd : inB c.n d = true := by exact rfl) (hs : Lr.Sublist L := by exact subl) : WO c ops Q Lr i p S L :=
  WO.calG ho hg hd hs (C_fnV (R := fun u M => u = v ∧ M = L) hx ha hf fun w hp => (hc w hp).mono fun _ _ ⟨he, hp'⟩ => ⟨v, L, he, hp.trans0 hp', rfl, rfl⟩) fun u M ⟨h1, h2⟩ => by subst h1; subst h2; exact ⟨fun _ h => hs.subset h, k⟩
theorem dcmV {f : FuncId} {xc : Operand} {xs : Array Operand} {ats : Array TypeId} {vs : List Value} {fs cs : Array Value} {b : Nat} {k1 k2 : Blk} (ho : ops[i]? = some ⟨d, .call ⟨.value xc, xs, ats⟩, ty, pos, af, g⟩) (hx : ev S xc = some (.func (.func f) fs cs)) (ha : evs S xs.toList = some vs) (hc : ∀ w, HP c.w0 w c.O L → Calls c.P f (fs.toList ++ vs ++ cs.toList).toArray w fun e w' => e = .returned v ∧ HP w w' [b] [(b, k2)]) (k : WD c ops Q Lr p (putS d v S) L')
    (hg : Gd ops S g := by exact trivial) (hu : Upd b k2 L k1 L' := by exact upd) (hf : fnB c.P f = true := by kernel_rfl) (hd : inB c.n d = true := by exact rfl) (hs : Lr.Sublist L := by exact subl) (hm : ∀ p ∈ Lr, p ∈ L' := by simp) : WO c ops Q Lr i p S L :=
  WO.calG ho hg hd hs (C_fnV (R := fun u M => u = v ∧ M = L') hx ha hf fun w hp => (hc w hp).mono fun _ _ ⟨he, hp'⟩ => ⟨v, L', he, hp.mod hu hp', rfl, rfl⟩) fun u M ⟨h1, h2⟩ => by subst h1; subst h2; exact ⟨hm, k⟩
theorem dcgV {ι : Type} {f : FuncId} {xc : Operand} {xs : Array Operand} {ats : Array TypeId} {vs : List Value} {fs cs : Array Value} {bs : List Nat} {V : ι → Value} {M : ι → List (Nat × Blk)} {A : ι → Prop} (ho : ops[i]? = some ⟨d, .call ⟨.value xc, xs, ats⟩, ty, pos, af, g⟩) (hx : ev S xc = some (.func (.func f) fs cs)) (ha : evs S xs.toList = some vs)
    (hc : ∀ w, HP c.w0 w c.O L → Calls c.P f (fs.toList ++ vs ++ cs.toList).toArray w fun e w' => ∃ r, A r ∧ e = .returned (V r) ∧ HP w w' bs (M r)) (k : ∀ r, A r → WD c ops Q Lr p (putS d (V r) S) (M r ++ Lx))
    (hg : Gd ops S g := by exact trivial) (hdel : Dels bs L Lx := by exact dels) (hf : fnB c.P f = true := by kernel_rfl) (hd : inB c.n d = true := by exact rfl) (hs : Lr.Sublist L := by exact subl) (hm : ∀ p ∈ Lr, p ∈ Lx := by simp) : WO c ops Q Lr i p S L :=
  WO.calG ho hg hd hs (C_fnV (R := fun u N => ∃ r, A r ∧ u = V r ∧ N = M r ++ Lx) hx ha hf fun w hp => (hc w hp).mono fun _ _ ⟨r, hr, he, hp'⟩ => ⟨V r, M r ++ Lx, he, hp.trans hdel hp', r, hr, rfl, rfl⟩) fun u N ⟨r, hr, h1, h2⟩ => by subst h1; subst h2; exact ⟨fun q hq => List.mem_append_right _ (hm q hq), k r hr⟩
theorem HP.start1 {w : World} {b : Nat} {k : Blk} (h : k.Is w.heap[b]?) : HP w w [b] [(b, k)] :=
  HP.start (by intro p hp; simp only [List.mem_singleton] at hp; subst hp; exact h) (by simp) (by simp)
theorem AtW.neObj {w : World} {b b' : Nat} {cs : List Seg} {o : Obj} (h : AtW w b cs) (h' : (Blk.obj o).Is w.heap[b']?) : b ≠ b' := by
  rintro rfl
  obtain ⟨_, t, fz, h⟩ := h
  obtain ⟨h1, h2⟩ := h'
  rw [h] at h2; injection h2 with h2
  exact h1 _ _ _ h2.symm
/-- Short forms for maps. -/
theorem omk (K : ∀ b, WL c ops Q rest ((t, .map (some b)) :: S) ((b, .obj (mapO .i64 [] 0)) :: L)) (ht : (mapT c.P T .i64).isSome = true := by kernel_rfl) (hd : Nat.blt t c.n = true := by exact rfl) : WL c ops Q (⟨some t, .makeMap T none, ty, pos, af, none⟩ :: rest) S L :=
  WL.eff (d := some t) hd (E_makeMap (Option.isSome_iff_exists.1 ht)) fun v M ⟨b, hv, hM⟩ => by subst hv; subst hM; exact K b
theorem omu {b : Nat} {k : IntKind} {q : Int} {m : List Ent} {clock : Nat} (K : WL c ops Q rest S L') (hx : ev S x = some (.map (some b)) := by exact rfl) (hy : ev S y = some (.int k q) := by exact rfl) (hv : ev S z = some v := by exact rfl) (hu : Upd b (.obj (mapO k (mput m clock q v) (mclk m clock q))) L (.obj (mapO k m clock)) L' := by exact upd) (ht : (mapT c.P T k).isSome = true := by kernel_rfl) :
    WL c ops Q (⟨none, .mapUpdate T x y z, ty, pos, af, none⟩ :: rest) S L := by
  obtain ⟨e, he⟩ := Option.isSome_iff_exists.1 ht
  exact WL.eff (d := none) rfl (E_mapUpdate hx hy hv hu he) fun v M ⟨_, hM⟩ => by subst hM; exact K
theorem dmu {b : Nat} {k : IntKind} {q : Int} {m : List Ent} {clock : Nat} (ho : ops[i]? = some ⟨none, .mapUpdate T x y z, ty, pos, af, g⟩) (K : WD c ops Q Lr p S L') (hg : Gd ops S g := by exact trivial) (hx : ev S x = some (.map (some b)) := by exact rfl) (hy : ev S y = some (.int k q) := by exact rfl) (hv : ev S z = some v := by exact rfl) (hu : Upd b (.obj (mapO k (mput m clock q v) (mclk m clock q))) L (.obj (mapO k m clock)) L' := by exact upd) (ht : (mapT c.P T k).isSome = true := by kernel_rfl) (hs : Lr.Sublist L := by exact subl) (hm : ∀ p ∈ Lr, p ∈ L' := by simp) : WO c ops Q Lr i p S L := by
  obtain ⟨e, he⟩ := Option.isSome_iff_exists.1 ht
  exact WO.effG ho hg (d := none) rfl hs (E_mapUpdate hx hy hv hu he) fun v M ⟨_, hM⟩ => by subst hM; exact ⟨hm, K⟩
theorem vlkS {b : Nat} {k : IntKind} {q : Int} {m : List Ent} {clock : Nat} (hm : mget m q = some v) (hx : ev S x = some (.map (some b)) := by exact rfl) (hy : ev S y = some (.int k q) := by exact rfl) (hb : (b, Blk.obj (mapO k m clock)) ∈ L := by exact mm) (ht : (mapT c.P T k).isSome = true := by kernel_rfl) : Val c S L (.lookup T x y true) ty (.tuple #[v, .bool true]) := by
  obtain ⟨e, he⟩ := Option.isSome_iff_exists.1 ht
  exact V_lookupS hm hx hy hb he
theorem vlkN {b : Nat} {k : IntKind} {q : Int} {m : List Ent} {clock : Nat} (e : TypeId) (zv : Value) (hm : mget m q = none) (hx : ev S x = some (.map (some b)) := by exact rfl) (hy : ev S y = some (.int k q) := by exact rfl) (hb : (b, Blk.obj (mapO k m clock)) ∈ L := by exact mm) (ht : mapT c.P T k = some e := by kernel_rfl) (hz : (c.P.info? e).bind (·.zero) = some zv := by kernel_rfl) : Val c S L (.lookup T x y true) ty (.tuple #[zv, .bool false]) := V_lookupN zv hm hx hy hb ht hz
end
end Go.X
