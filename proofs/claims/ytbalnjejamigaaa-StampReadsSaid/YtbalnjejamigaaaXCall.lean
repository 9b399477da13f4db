/- Functions: how one is entered, called, and left; new blocks; aggregates that are built. -/
import Derived.Test.YtbalnjejamigaaaXOps
set_option linter.unusedVariables false
set_option linter.unusedSimpArgs false
namespace Go.X
open Go.RowKit

/-! ### worlds, one behind another -/
/-- The blocks bs are taken out of L. -/
inductive Dels : List Nat → List (Nat × Blk) → List (Nat × Blk) → Prop where
  | nil (L : List (Nat × Blk)) : Dels [] L L
  | cons {b : Nat} {k : Blk} {bs : List Nat} {A B L' : List (Nat × Blk)} (h : Dels bs (A ++ B) L') : Dels (b :: bs) (A ++ (b, k) :: B) L'

theorem Dels.perm {bs : List Nat} {L L' : List (Nat × Blk)} (h : Dels bs L L') : ∃ M : List (Nat × Blk), M.map (·.1) = bs ∧ L.Perm (M ++ L') := by
  induction h with
  | nil L => exact ⟨[], rfl, .refl _⟩
  | @cons b k bs A B L' h ih =>
    obtain ⟨M, hM, hp⟩ := ih
    refine ⟨(b, k) :: M, by simp [hM], ?_⟩
    exact (List.perm_middle).trans (List.Perm.cons _ hp)

theorem HP.trans {w0 w w' : World} {O bs : List Nat} {L Lr M : List (Nat × Blk)} (h : HP w0 w O L) (hd : Dels bs L Lr) (h' : HP w w' bs M) : HP w0 w' O (M ++ Lr) := by
  obtain ⟨D, hD, hp⟩ := hd.perm
  have hbs : ∀ b ∈ bs, b ∈ O ∨ w0.heap.size ≤ b := fun b hb => by
    rw [← hD] at hb
    obtain ⟨p, hpD, he⟩ := List.mem_map.1 hb
    have := h.own p (hp.symm.subset (List.mem_append_left _ hpD))
    rw [he] at this; exact this
  have hnd : ((D ++ Lr).map (·.1)).Nodup := (hp.map _).nodup_iff.1 h.nodup
  rw [List.map_append, hD, List.nodup_append] at hnd
  have hsub : ∀ p ∈ Lr, p ∈ L := fun p hpL => hp.symm.subset (List.mem_append_right _ hpL)
  have hlt : ∀ p ∈ Lr, p.1 < w.heap.size := fun p hpL => h.lt (hsub p hpL)
  have hnb : ∀ p ∈ Lr, p.1 ∉ bs := fun p hpL hm => hnd.2.2 _ hm _ (List.mem_map.2 ⟨p, hpL, rfl⟩) rfl
  refine ⟨h'.os.trans h.os, h'.tape.trans h.tape, h'.output.trans h.output, Nat.le_trans h.size h'.size, ?_, ?_, ?_, ?_⟩
  · intro b hb hO
    rw [h'.keep b (Nat.lt_of_lt_of_le hb h.size) (fun hm => by
      rcases hbs b hm with h1 | h1
      · exact hO h1
      · omega)]
    exact h.keep b hb hO
  · intro p hpm
    rcases List.mem_append.1 hpm with h1 | h1
    · exact h'.held p h1
    · rw [h'.keep p.1 (hlt p h1) (hnb p h1)]
      exact h.held p (hsub p h1)
  · intro p hpm
    rcases List.mem_append.1 hpm with h1 | h1
    · rcases h'.own p h1 with h2 | h2
      · exact hbs _ h2
      · exact .inr (Nat.le_trans h.size h2)
    · exact h.own p (hsub p h1)
  · rw [List.map_append, List.nodup_append]
    refine ⟨h'.nodup, hnd.2.1, fun a ha b hb e => ?_⟩
    subst e
    obtain ⟨p, hpM, rfl⟩ := List.mem_map.1 ha
    obtain ⟨q, hqL, he⟩ := List.mem_map.1 hb
    rcases h'.own p hpM with h2 | h2
    · exact hnb q hqL (he ▸ h2)
    · have := hlt q hqL
      omega

theorem HP.trans0 {w0 w w' : World} {O : List Nat} {L M : List (Nat × Blk)} (h : HP w0 w O L) (h' : HP w w' [] M) : HP w0 w' O (M ++ L) := h.trans (.nil L) h'

/-- What is in L may be forgotten. -/
theorem HP.forget {w0 w : World} {O : List Nat} {L : List (Nat × Blk)} (h : HP w0 w O L) : HP w0 w O [] := h.sub (List.nil_sublist _)

theorem HP.below {w0 w : World} {L : List (Nat × Blk)} (h : HP w0 w [] L) : Below w0.heap.size w0 w :=
  ⟨h.os, h.tape, h.output, h.size, fun k hk => h.keep k hk (by simp)⟩

/-- Old blocks that are tracked. -/
theorem HP.start {w : World} {O : List Nat} {L : List (Nat × Blk)} (hh : ∀ p ∈ L, p.2.Is w.heap[p.1]?) (ho : ∀ p ∈ L, p.1 ∈ O) (hn : (L.map (·.1)).Nodup) : HP w w O L :=
  ⟨rfl, rfl, rfl, Nat.le_refl _, fun _ _ _ => rfl, hh, fun p hp => .inl (ho p hp), hn⟩

/-- More old blocks may change than do. -/
theorem HP.wider {w0 w : World} {O O' : List Nat} {L : List (Nat × Blk)} (h : HP w0 w O L) (hs : ∀ b ∈ O, b ∈ O') : HP w0 w O' L :=
  ⟨h.os, h.tape, h.output, h.size, fun b hb hO => h.keep b hb fun hm => hO (hs b hm), h.held, fun p hp => (h.own p hp).imp (hs _) id, h.nodup⟩

/-! ### entering -/
def slotsFrom : Nat → List Value → Slots
  | _, [] => []
  | i, v :: r => (i, v) :: slotsFrom (i + 1) r

theorem slotsFrom_get : ∀ (vs : List Value) (i t : Nat) (v : Value), slot (slotsFrom i vs) t = some v → i ≤ t ∧ vs[t - i]? = some v
  | [], i, t, v, h => by simp [slotsFrom, slot] at h
  | u :: r, i, t, v, h => by
    simp only [slotsFrom, slot, List.lookup_cons] at h
    by_cases e : t = i
    · subst e; simp at h; subst h; simp
    · have : (t == i) = false := by simpa using e
      rw [this] at h
      obtain ⟨h1, h2⟩ := slotsFrom_get r (i + 1) t v h
      refine ⟨by omega, ?_⟩
      rw [show t - i = (t - (i + 1)) + 1 by omega, List.getElem?_cons_succ]
      exact h2

theorem calls_of_W {P : Program} {f : FuncId} {fn : Func} {x : Code} {args : List Value} {w : World} {R : Ending → World → Prop} {n : Nat} {O : List Nat} {S : Slots} {L : List (Nat × Blk)}
    (hf : P.funcs[f]? = some fn) (hb : fn.body = some x) (hn : fn.ntmps = n) (hle : Nat.ble args.length n = true) (hS : slotsFrom 0 args = S) (hL : HP w w O L)
    (h : W ⟨P, n, w, O⟩ x (bodyPost P fn R) S L) : Calls P f args.toArray w R := by
  refine calls_of_wp hf hb (h _ _ ⟨⟨?_, rfl, fun t v ht => ?_⟩, hL⟩)
  · have := Nat.le_of_ble_eq_true hle
    simp [hn]; omega
  · rw [← hS] at ht
    obtain ⟨_, h2⟩ := slotsFrom_get args 0 t v ht
    simp only [Nat.sub_zero] at h2
    have hlt : t < args.length := (List.getElem?_eq_some_iff.1 h2).1
    simp only [Array.getElem?_append, List.size_toArray, List.getElem?_toArray, hlt, if_true]
    exact h2

/-! ### leaving -/
/-- A result's variable holds v. -/
def Res (c : Cx) (S : Slots) (L : List (Nat × Blk)) : ResultVar → Value → Prop
  | .tmp t, v => slot S t = some v
  | .cell t ty, v => ∀ a w, St c S L a w → (do loadVar ty (← asAddr (a.tmps.getD t undef))).run c.P w = .ok v w

theorem Res.tmp {c : Cx} {S : Slots} {L : List (Nat × Blk)} {t : Tmp} {v : Value} (h : slot S t = some v) : Res c S L (.tmp t) v := h
theorem Res.cellA {c : Cx} {S : Slots} {L : List (Nat × Blk)} {t : Tmp} {T : TypeId} {b o : Nat} {cs ds : List Seg} (n : Nat) (ht : agB c.P T n = true) (hx : slot S t = some (.pointer (some ⟨b, o, none⟩))) (hA : At c L b cs) (hv : subS cs o n = some ds) : Res c S L (.cell t T) (AG ds) := fun a w st => by
  have e1 : a.tmps.getD t undef = .pointer (some ⟨b, o, none⟩) := by simp [Array.getD_eq_getD_getElem?, st.sl.get t _ hx]
  obtain ⟨hf, t', fz, hb⟩ := hA.here st
  obtain ⟨e, _, hl⟩ := subS_flat hf hv
  have hL := run_loadCells (P := c.P) hb o n 0 #[] (by omega)
  simp [e1, asAddr, loadVar, run_isAgg_ag ht, run_sizeOf_sz (sz_of_ag ht), loadCells, hL, AG, e]
theorem Res.cell {c : Cx} {S : Slots} {L : List (Nat × Blk)} {t : Tmp} {T : TypeId} {b o : Nat} {cs : List Seg} {v : Value} (ht : scB c.P T = true) (hx : slot S t = some (.pointer (some ⟨b, o, none⟩))) (hA : At c L b cs) (hv : cell1 cs o = some v) : Res c S L (.cell t T) v := fun a w st => by
  have e1 : a.tmps.getD t undef = .pointer (some ⟨b, o, none⟩) := by simp [Array.getD_eq_getD_getElem?, st.sl.get t _ hx]
  obtain ⟨hf, t', fz, hb⟩ := hA.here st
  have hc : w.cell? ⟨b, o, none⟩ = some v := (cell_of_heap hb o).trans (cell1_flat hf hv)
  simp [e1, asAddr, loadVar, run_isAgg_sc ht, load, Sem.run, hc]

def resAct (tmps : Array Value) : ResultVar → Sem Value
  | .tmp t => pure (tmps.getD t undef)
  | .cell a t => do loadVar t (← asAddr (tmps.getD a undef))

theorem results_eq (fn : Func) (tmps : Array Value) : results fn tmps = (do
    let vs ← fn.results.mapM (resAct tmps)
    pure (if h : vs.size = 1 then vs[0] else .tuple vs)) := by
  unfold results
  congr 1

theorem run_results1 {P : Program} {w : World} {fn : Func} {tmps : Array Value} {r : ResultVar} (hr : fn.results = #[r]) : (results fn tmps).run P w = (resAct tmps r).run P w := by
  rw [results_eq, hr]; simp
theorem run_results2 {P : Program} {w : World} {fn : Func} {tmps : Array Value} {r1 r2 : ResultVar} (hr : fn.results = #[r1, r2]) : (results fn tmps).run P w = ((resAct tmps r1).run P w).andThen fun v w => ((resAct tmps r2).run P w).andThen fun u w => .ok (.tuple #[v, u]) w := by
  rw [results_eq, hr]; simp
theorem run_results3 {P : Program} {w : World} {fn : Func} {tmps : Array Value} {r1 r2 r3 : ResultVar} (hr : fn.results = #[r1, r2, r3]) : (results fn tmps).run P w = ((resAct tmps r1).run P w).andThen fun v w => ((resAct tmps r2).run P w).andThen fun u w => ((resAct tmps r3).run P w).andThen fun t w => .ok (.tuple #[v, u, t]) w := by
  rw [results_eq, hr]; simp

theorem Res.run {c : Cx} {S : Slots} {L : List (Nat × Blk)} {r : ResultVar} {v : Value} (h : Res c S L r v) {a : Act} {w : World} (st : St c S L a w) :
    (resAct a.tmps r).run c.P w = .ok v w := by
  cases r with
  | tmp t => simp [resAct, Array.getD_eq_getD_getElem?, st.sl.get t _ h]
  | cell t ty => exact h a w st

section
variable {c : Cx} {fn : Func} {R : Ending → World → Prop} {S : Slots} {L : List (Nat × Blk)}

theorem done_ret {e : Exit} (he : e = .ret ∨ e = .normal) {v : Value} (hv : ∀ a w, St c S L a w → (results fn a.tmps).run c.P w = .ok v w) (h : ∀ w, HP c.w0 w c.O L → R (.returned v) w) : WQ c (bodyPost c.P fn R) e S L := fun a w st => by
  rcases he with rfl | rfl <;> exact ⟨st.sl.defers, v, hv a w st, h w st.hp⟩

theorem WQ.ret0 {e : Exit} (he : e = .ret ∨ e = .normal) (hr : fn.results = #[]) (h : ∀ w, HP c.w0 w c.O L → R (.returned (.tuple #[])) w) : WQ c (bodyPost c.P fn R) e S L :=
  done_ret he (fun a w _ => by simp [results, hr]) h
theorem WQ.ret1 {r : ResultVar} {v : Value} (hr : fn.results = #[r]) (h1 : Res c S L r v) (h : ∀ w, HP c.w0 w c.O L → R (.returned v) w) : WQ c (bodyPost c.P fn R) .ret S L :=
  done_ret (.inl rfl) (fun a w st => by
    have := h1.run st
    rw [run_results1 hr, this]) h
theorem WQ.ret2 {r1 r2 : ResultVar} {v1 v2 : Value} (hr : fn.results = #[r1, r2]) (h1 : Res c S L r1 v1) (h2 : Res c S L r2 v2) (h : ∀ w, HP c.w0 w c.O L → R (.returned (.tuple #[v1, v2])) w) : WQ c (bodyPost c.P fn R) .ret S L :=
  done_ret (.inl rfl) (fun a w st => by
    have e1 := h1.run st
    have e2 := h2.run st
    rw [run_results2 hr, e1, Result.andThen_ok, e2]; rfl) h
theorem WQ.ret3 {r1 r2 r3 : ResultVar} {v1 v2 v3 : Value} (hr : fn.results = #[r1, r2, r3]) (h1 : Res c S L r1 v1) (h2 : Res c S L r2 v2) (h3 : Res c S L r3 v3) (h : ∀ w, HP c.w0 w c.O L → R (.returned (.tuple #[v1, v2, v3])) w) : WQ c (bodyPost c.P fn R) .ret S L :=
  done_ret (.inl rfl) (fun a w st => by
    have e1 := h1.run st
    have e2 := h2.run st
    have e3 := h3.run st
    rw [run_results3 hr, e1, Result.andThen_ok, e2, Result.andThen_ok, e3]; rfl) h
end

/-! ### calling -/
def fnB (P : Program) (f : FuncId) : Bool := match P.funcs[f]? with
  | some fn => !(fn.name == "runtime.NumGoroutine") && fn.body.isSome
  | none => false

def evs (S : Slots) : List Operand → Option (List Value)
  | [] => some []
  | x :: r => match ev S x, evs S r with
    | some v, some vs => some (v :: vs)
    | _, _ => none

theorem evs_eq {n : Nat} {a : Act} {S : Slots} (h : Sl n a S) : ∀ {xs : List Operand} {vs : List Value}, evs S xs = some vs → xs.map a.eval = vs
  | [], vs, e => by simp [evs] at e; simp [e]
  | x :: r, vs, e => by
    unfold evs at e
    split at e
    · rename_i v us hv hus
      cases e
      simp [h.ev hv, evs_eq h hus]
    · cases e

theorem run_callFunc {P : Program} {f : FuncId} {args : Array Value} {w : World} (h : fnB P f = true) : (callFunc f args).run P w = .ok (.enter f args) w := by
  unfold fnB at h
  split at h
  · rename_i fn hf
    simp only [Bool.and_eq_true, Bool.not_eq_true'] at h
    obtain ⟨h1, h2⟩ := h
    obtain ⟨b, hb⟩ := Option.isSome_iff_exists.1 h2
    have h1' : ¬ fn.name = "runtime.NumGoroutine" := by simpa using h1
    simp [callFunc, hf, h1', hb]
  · cases h

section
variable {c : Cx} {Q : Post} {S : Slots} {L L' Lr : List (Nat × Blk)} {ops : Array Oper} {d : Option Tmp} {ty : TypeId} {pos : String} {af : Array Edge} {rest : List Oper}

theorem C_fn {f : FuncId} {xs : Array Operand} {ats : Array TypeId} {vs : List Value} {R : Value → List (Nat × Blk) → Prop} (hf : fnB c.P f = true) (ha : evs S xs.toList = some vs)
    (hc : ∀ w, HP c.w0 w c.O L → Calls c.P f vs.toArray w fun e w' => ∃ v L', e = .returned v ∧ HP c.w0 w' c.O L' ∧ R v L') : Cal c S L (.call ⟨.value (.func f), xs, ats⟩) ty R := fun a w st => by
  refine ⟨f, vs.toArray, ?_, hc w st.hp⟩
  have := evs_eq st.sl ha
  have e : xs.map a.eval = vs.toArray := by
    rw [← this, ← Array.toList_inj]; simp
  simp [ex, execOp, resolve, e, Act.eval, Deferred.ofValue, invoke, run_callFunc hf]

theorem C_call {ι : Type} {f : FuncId} {xs : Array Operand} {ats : Array TypeId} {vs : List Value} (bs : List Nat) (V : ι → Value) (M : ι → List (Nat × Blk)) (A : ι → Prop) (hf : fnB c.P f = true) (ha : evs S xs.toList = some vs)
    (hdel : Dels bs L Lr) (hc : ∀ w, HP c.w0 w c.O L → Calls c.P f vs.toArray w fun e w' => ∃ r, A r ∧ e = .returned (V r) ∧ HP w w' bs (M r)) : Cal c S L (.call ⟨.value (.func f), xs, ats⟩) ty fun v L' => ∃ r, A r ∧ v = V r ∧ L' = M r ++ Lr :=
  C_fn hf ha fun w hp => (hc w hp).mono fun _ _ ⟨r, hr, he, hp'⟩ => ⟨V r, M r ++ Lr, he, hp.trans hdel hp', r, hr, rfl, rfl⟩
theorem C_pure {f : FuncId} {xs : Array Operand} {ats : Array TypeId} {vs : List Value} (v : Value) (hf : fnB c.P f = true) (ha : evs S xs.toList = some vs)
    (hc : ∀ w, HP c.w0 w c.O L → Calls c.P f vs.toArray w fun e w' => e = .returned v ∧ HP w w' [] []) : Cal c S L (.call ⟨.value (.func f), xs, ats⟩) ty fun u L' => u = v ∧ L' = L :=
  C_fn hf ha fun w hp => (hc w hp).mono fun _ _ ⟨he, hp'⟩ => ⟨v, L, he, hp.trans0 hp', rfl, rfl⟩

/-- A call of a function that tells what it comes to, for any of the prover's own values. -/
theorem WL.call {ι : Type} {f : FuncId} {xs : Array Operand} {ats : Array TypeId} {vs : List Value} (bs : List Nat) (V : ι → Value) (M : ι → List (Nat × Blk)) (A : ι → Prop) (hd : inB c.n d = true) (hf : fnB c.P f = true) (ha : evs S xs.toList = some vs)
    (hdel : Dels bs L Lr) (hc : ∀ w, HP c.w0 w c.O L → Calls c.P f vs.toArray w fun e w' => ∃ r, A r ∧ e = .returned (V r) ∧ HP w w' bs (M r))
    (k : ∀ r, A r → WL c ops Q rest (putS d (V r) S) (M r ++ Lr)) : WL c ops Q (⟨d, .call ⟨.value (.func f), xs, ats⟩, ty, pos, af, none⟩ :: rest) S L :=
  WL.cal hd (C_call bs V M A hf ha hdel hc) (fun v L' ⟨r, hr, hv, hL⟩ => by subst hv; subst hL; exact k r hr)

/-- One that yields one value, and leaves the rest alone. -/
theorem WL.pure {f : FuncId} {xs : Array Operand} {ats : Array TypeId} {vs : List Value} (v : Value) (hd : inB c.n d = true) (hf : fnB c.P f = true) (ha : evs S xs.toList = some vs)
    (hc : ∀ w, HP c.w0 w c.O L → Calls c.P f vs.toArray w fun e w' => e = .returned v ∧ HP w w' [] [])
    (k : WL c ops Q rest (putS d v S) L) : WL c ops Q (⟨d, .call ⟨.value (.func f), xs, ats⟩, ty, pos, af, none⟩ :: rest) S L :=
  WL.call (ι := Unit) [] (fun _ => v) (fun _ => []) (fun _ => True) hd hf ha (.nil L) (fun w hp => (hc w hp).mono fun _ _ ⟨he, hp'⟩ => ⟨(), trivial, he, hp'⟩) (fun _ _ => k)

/-- One that turns one tracked block into another one. -/
theorem WL.call1 {f : FuncId} {xs : Array Operand} {ats : Array TypeId} {vs : List Value} {b : Nat} {k1 : Blk} {A B : List (Nat × Blk)} (v : Value) (k2 : Blk) (hd : inB c.n d = true) (hf : fnB c.P f = true) (ha : evs S xs.toList = some vs)
    (hc : ∀ w, HP c.w0 w c.O (A ++ (b, k1) :: B) → Calls c.P f vs.toArray w fun e w' => e = .returned v ∧ HP w w' [b] [(b, k2)])
    (k : WL c ops Q rest (putS d v S) ((b, k2) :: (A ++ B))) : WL c ops Q (⟨d, .call ⟨.value (.func f), xs, ats⟩, ty, pos, af, none⟩ :: rest) S (A ++ (b, k1) :: B) :=
  WL.call (ι := Unit) [b] (fun _ => v) (fun _ => [(b, k2)]) (fun _ => True) hd hf ha (.cons (.nil (A ++ B))) (fun w hp => (hc w hp).mono fun _ _ ⟨he, hp'⟩ => ⟨(), trivial, he, hp'⟩) (fun _ _ => k)

/-! ### new blocks -/
def zeroIs (P : Program) (t : TypeId) (zs : List Seg) : Prop := ((P.info? t).bind (·.zero)).map (·.cells) = some (flat zs).toArray ∧ Fit zs

theorem run_zeroValue {P : Program} {t : TypeId} {zs : List Seg} {w : World} (h : zeroIs P t zs) : ∃ z, (zeroValue t).run P w = .ok z w ∧ z.cells = (flat zs).toArray := by
  obtain ⟨h1, _⟩ := h
  obtain ⟨z, hz, hc⟩ := Option.map_eq_some_iff.1 h1
  obtain ⟨i, hi, hz'⟩ := Option.bind_eq_some_iff.1 hz
  exact ⟨z, by simp [zeroValue, run_typeInfo _ hi, hz'], hc⟩

theorem E_new {op : Op} {t : TypeId} {zs : List Seg} (hf : Fit zs) (h : ∀ a w, St c S L a w → (ex a.eval op ty).run c.P w = .ok (.value (.pointer (some ⟨w.heap.size, 0, none⟩))) (w.alloc (.cells (flat zs).toArray t))) :
    Eff c S L op ty fun v L' => ∃ b, v = .pointer (some ⟨b, 0, none⟩) ∧ L' = (b, .cells zs t) :: L := fun a w st =>
  ⟨_, _, _, .inl (h a w st), st.hp.alloc (k := .cells zs t) ⟨hf, rfl⟩, _, rfl, rfl⟩

theorem run_newRow {P : Program} {t : TypeId} {cs : Array Value} {w : World} : (newRow t cs).run P w = .ok ⟨w.heap.size, 0, none⟩ (w.alloc (.cells cs t)) := by
  rfl

theorem E_alloc {t : TypeId} (zs : List Seg) (hz : zeroIs c.P t zs) : Eff c S L (.alloc t) ty fun v L' => ∃ b, v = .pointer (some ⟨b, 0, none⟩) ∧ L' = (b, .cells zs t) :: L :=
  E_new (t := t) hz.2 fun a w _ => by
    obtain ⟨z, h1, h2⟩ := run_zeroValue (w := w) hz
    simp [ex, execOp, Instr.alloc, h1, newVar, run_newRow, h2]
theorem E_box1 {t : TypeId} {x : Operand} {v : Value} (hx : ev S x = some v) (h1 : one v = true) : Eff c S L (.box t x) ty fun u L' => ∃ b, u = .pointer (some ⟨b, 0, none⟩) ∧ L' = (b, .cells [(1, [v])] t) :: L :=
  E_new (t := t) (zs := [(1, [v])]) (Fit.mk rfl Fit.nil) fun a w st => by
    have e1 := st.sl.ev hx
    have hc : v.cells = #[v] := by cases v <;> first | rfl | (cases h1; done)
    simp [ex, execOp, Instr.box, e1, newVar, run_newRow, hc, flat]
theorem E_boxA {t : TypeId} {x : Operand} {ds : List Seg} (hx : ev S x = some (AG ds)) (hf : Fit ds) : Eff c S L (.box t x) ty fun u L' => ∃ b, u = .pointer (some ⟨b, 0, none⟩) ∧ L' = (b, .cells ds t) :: L :=
  E_new (t := t) (zs := ds) hf fun a w st => by
    have e1 := st.sl.ev hx
    simp [ex, execOp, Instr.box, e1, newVar, run_newRow, AG, Value.cells]

theorem WL.new {op : Op} {t : TypeId} {t' : Tmp} {zs : List Seg} (hd : Nat.blt t' c.n = true) (h : Eff c S L op ty fun v L' => ∃ b, v = .pointer (some ⟨b, 0, none⟩) ∧ L' = (b, .cells zs t) :: L)
    (k : ∀ b, WL c ops Q rest ((t', .pointer (some ⟨b, 0, none⟩)) :: S) ((b, .cells zs t) :: L)) : WL c ops Q (⟨some t', op, ty, pos, af, none⟩ :: rest) S L :=
  WL.eff (d := some t') hd h (fun v L' ⟨b, hv, hL⟩ => by subst hv; subst hL; exact k b)

theorem WL.store {T : TypeId} {x y : Operand} {b o : Nat} {cs cs' : List Seg} {t : TypeId} {v : Value} (ht : szB c.P T 1 = true) (hx : ev S x = some (.pointer (some ⟨b, o, none⟩))) (hy : ev S y = some v) (h1 : one v = true)
    (hu : Upd b (.cells cs' t) L (.cells cs t) L') (hs : set1 cs o v = some cs') (k : WL c ops Q rest S L') : WL c ops Q (⟨none, .store T x y, ty, pos, af, none⟩ :: rest) S L :=
  WL.eff (d := none) rfl (E_store ht hx hy h1 hu hs) (fun v M ⟨_, hM⟩ => by subst hM; exact k)
theorem WL.storeA {T : TypeId} {x y : Operand} {b o : Nat} {cs cs' ds : List Seg} {t : TypeId} (n : Nat) (ht : szB c.P T n = true) (hx : ev S x = some (.pointer (some ⟨b, o, none⟩))) (hy : ev S y = some (AG ds)) (hn : (flat ds).length = n) (hd : Fit ds)
    (h1 : ∀ v ∈ flat ds, one v = true) (hu : Upd b (.cells cs' t) L (.cells cs t) L') (hs : putAt cs o n ds = some cs') (k : WL c ops Q rest S L') : WL c ops Q (⟨none, .store T x y, ty, pos, af, none⟩ :: rest) S L :=
  WL.eff (d := none) rfl (E_storeA n ht hx hy hn hd h1 hu hs) (fun v M ⟨_, hM⟩ => by subst hM; exact k)
end

/-! ### aggregates that are built -/
theorem foldl_set_flat (n o : Nat) : ∀ (vs : List Value) (i : Nat) (l : List Value), o + i + vs.length ≤ l.length →
    ((vs.zipIdx i).foldl (fun cs (x, j) => cs.setIfInBounds (o + j) x) l.toArray) = (l.take (o + i) ++ vs ++ l.drop (o + i + vs.length)).toArray
  | [], i, l, _ => by simp
  | v :: vs, i, l, hle => by
    have hlt : o + i < l.length := by simp at hle; omega
    simp only [List.zipIdx_cons, List.foldl_cons]
    rw [List.setIfInBounds_toArray, foldl_set_flat n o vs (i + 1) (l.set (o + i) v) (by simp at hle ⊢; omega)]
    have e1 : (l.set (o + i) v).take (o + (i + 1)) = l.take (o + i) ++ [v] := by
      rw [List.take_set, ← Nat.add_assoc, List.take_succ_eq_append_getElem hlt, List.set_append, if_neg (by simp [Nat.min_eq_left (Nat.le_of_lt hlt)])]
      simp [Nat.min_eq_left (Nat.le_of_lt hlt)]
    have e2 : (l.set (o + i) v).drop (o + (i + 1) + vs.length) = l.drop (o + i + (v :: vs).length) := by
      rw [List.drop_set, if_pos (by omega), List.length_cons]
      congr 1; omega
    rw [e1, e2]; simp

/-- Parts are laid into segments, one behind the other. 'place' tells where: offset and size. -/
inductive Bld (S : Slots) (place : Nat → Nat → Nat → Prop) : List (Nat × Operand) → List Seg → List Seg → Prop where
  | nil (z : List Seg) : Bld S place [] z z
  | one {i k : Nat} {x : Operand} {v : Value} {r : List (Nat × Operand)} {z z1 z2 : List Seg} (hx : ev S x = some v) (h1 : one v = true) (hp : place i k 1) (hs : set1 z k v = some z1) (h : Bld S place r z1 z2) : Bld S place ((i, x) :: r) z z2
  | agg {i k n : Nat} {x : Operand} {ds : List Seg} {r : List (Nat × Operand)} {z z1 z2 : List Seg} (hx : ev S x = some (AG ds)) (hf : Fit ds) (hn : (flat ds).length = n) (hp : place i k n) (hs : putAt z k n ds = some z1) (h : Bld S place r z1 z2) : Bld S place ((i, x) :: r) z z2

theorem Bld.fill {S : Slots} {place : Nat → Nat → Nat → Prop} {p : Nat → Option (Nat × Nat)} (hp : ∀ i k n, place i k n → p i = some (k, n)) {a : Act} {n : Nat} (sl : Sl n a S) {ps : List (Nat × Operand)} {z z2 : List Seg} (h : Bld S place ps z z2) :
    Fit z → Instr.fill p (flat z).toArray (ps.map fun q => (q.1, a.eval q.2)) = some (flat z2).toArray ∧ Fit z2 := by
  induction h with
  | nil z => exact fun hf => ⟨rfl, hf⟩
  | @one i k x v r z z1 z2 hx h1 hpl hs _ ih =>
    intro hf
    obtain ⟨f1, f2, f3⟩ := set1_flat hf hs
    have hc : v.cells = #[v] := by cases v <;> first | rfl | (cases h1; done)
    obtain ⟨i1, i2⟩ := ih f2
    refine ⟨?_, i2⟩
    have hcond : (decide ((#[v] : Array Value).size ≠ 1) || decide (k + (#[v] : Array Value).size > (flat z).toArray.size)) = false := by simp; omega
    simp only [List.map_cons, Instr.fill, hp _ _ _ hpl, sl.ev hx, hc, hcond, Bool.false_eq_true, if_false]
    rw [f1] at i1
    simpa using i1
  | @agg i k n x ds r z z1 z2 hx hd hn hpl hs _ ih =>
    intro hf
    obtain ⟨f1, f2, f3⟩ := putAt_flat hf hd hs
    obtain ⟨i1, i2⟩ := ih f2
    refine ⟨?_, i2⟩
    have hcond : ((AG ds).cells.size ≠ n || k + (AG ds).cells.size > (flat z).toArray.size) = false := by simp [AG, Value.cells]; omega
    simp only [List.map_cons, Instr.fill, hp _ _ _ hpl, sl.ev hx, hcond, Bool.false_eq_true, if_false]
    have := foldl_set_flat n k (flat ds) 0 (flat z) (by omega)
    rw [f1] at i1
    simp only [Nat.add_zero, hn] at this
    have e : Array.foldl (fun cs (x : Value × Nat) => cs.setIfInBounds (k + x.2) x.1) (flat z).toArray (AG ds).cells.zipIdx = (List.take k (flat z) ++ flat ds ++ List.drop (k + n) (flat z)).toArray := by
      rw [← this, ← Array.foldl_toList]
      congr 1
      simp [AG, Value.cells]
    rw [e]
    exact i1

end Go.X
