/- Short steps for the walk: moves, guards, atomic numbers. -/
import Derived.Test.YtbalnjejamigaaaXDraw
import Derived.Laws.LoneSync
set_option linter.unusedVariables false
set_option linter.unusedSimpArgs false
namespace Go.X
open Go.RowKit

section
variable {c : Cx} {Q : Post} {S : Slots} {L L' Lr : List (Nat × Blk)} {ops : Array Oper} {d : Option Tmp} {t : Tmp} {ty : TypeId} {pos : String} {af : Array Edge} {rest : List Oper} {op : Op} {x y : Operand} {v : Value} {j : Nat} {b : Bool}

theorem WL.mv (hd : Nat.blt t c.n = true) (hx : ev S x = some v) (k : WL c ops Q rest ((t, v) :: S) L) : WL c ops Q (⟨some t, .move x, ty, pos, af, none⟩ :: rest) S L := WL.val hd (V_move hx) k
theorem WL.as (hd : Nat.blt t c.n = true) (hx : ev S x = some v) (k : WL c ops Q rest ((t, v) :: S) L) : WL c ops Q (⟨some t, .assign x, ty, pos, af, none⟩ :: rest) S L := WL.val hd (V_assign hx) k

theorem WL.split {b' : Bool} (_ : guardOf ops S j = some (.bool b')) (h1 : b' = true → WL c ops Q (⟨d, op, ty, pos, af, some (j, b)⟩ :: rest) S L) (h2 : b' = false → WL c ops Q (⟨d, op, ty, pos, af, some (j, b)⟩ :: rest) S L) :
    WL c ops Q (⟨d, op, ty, pos, af, some (j, b)⟩ :: rest) S L := by
  cases b'
  · exact h2 rfl
  · exact h1 rfl
theorem WL.splitD {p : Prop} [Decidable p] (_ : guardOf ops S j = some (.bool (decide p))) (h1 : p → WL c ops Q (⟨d, op, ty, pos, af, some (j, b)⟩ :: rest) S L) (h2 : ¬ p → WL c ops Q (⟨d, op, ty, pos, af, some (j, b)⟩ :: rest) S L) :
    WL c ops Q (⟨d, op, ty, pos, af, some (j, b)⟩ :: rest) S L := by
  by_cases h : p
  · exact h1 h
  · exact h2 h

theorem V_pick_td {z : Operand} {p : Prop} [Decidable p] (ht : ev S z = some (.bool (decide p))) (hp : p) (h : ev S x = some v) : Val c S L (.pick z x y) ty v := V_pick_t ht (by simpa using hp) h
theorem V_pick_fd {z : Operand} {p : Prop} [Decidable p] (ht : ev S z = some (.bool (decide p))) (hp : ¬ p) (h : ev S y = some v) : Val c S L (.pick z x y) ty v := V_pick_f ht (by simpa using hp) h

/-! ### atomic numbers -/
theorem run_ext {f : FuncId} {xs : Array Operand} {ats : Array TypeId} {vs : List Value} {a : Act} {w w' : World} {n : Next} (st : St c S L a w) (ha : evs S xs.toList = some vs) (h : (callFunc f vs.toArray).run c.P w = .ok n w') :
    (ex a.eval (.call ⟨.value (.func f), xs, ats⟩) ty).run c.P w = .ok n w' := by
  have := evs_eq st.sl ha
  have e : xs.map a.eval = vs.toArray := by
    rw [← this, ← Array.toList_inj]; simp
  simp [ex, execOp, resolve, e, Act.eval, Deferred.ofValue, invoke, h]

def extB (P : Program) (f : FuncId) (e : Array Value → Sem Value) : Prop := ∃ fn, P.funcs[f]? = some fn ∧ (fn.name == "runtime.NumGoroutine") = false ∧ fn.body.isNone = true ∧ Extern.findNext fn = none ∧ Extern.find fn = some e

theorem V_aload {f : FuncId} {xs : Array Operand} {ats : Array TypeId} {k : IntKind} {n : Int} {bl o : Nat} {cs : List Seg} (he : extB c.P f (Extern.Atomic.loadT (.int k))) (ha : evs S xs.toList = some [.pointer (some ⟨bl, o, none⟩)]) (hA : At c L bl cs) (hv : cell1 cs o = some (.int k n)) :
    Val c S L (.call ⟨.value (.func f), xs, ats⟩) ty (.int k n) := fun a w st => by
  obtain ⟨fn, h1, h2, h3, h4, h5⟩ := he
  obtain ⟨hf, t', fz, hb⟩ := hA.here st
  have hc : w.cell? ⟨bl, o, none⟩ = some (.int k n) := (cell_of_heap hb o).trans (cell1_flat hf hv)
  exact run_ext st ha (run_call_load h1 h2 h3 h4 k h5 hc)

theorem store_hp {w : World} {bl o : Nat} {cs cs' : List Seg} {t : TypeId} {v : Value} (hp : HP c.w0 w c.O L) (hs : set1 cs o v = some cs') (hu : Upd bl (.cells cs' t) L (.cells cs t) L') :
    HP c.w0 (w.setCell ⟨bl, o, none⟩ v) c.O L' ∧ (∃ u, w.cell? ⟨bl, o, none⟩ = some u) ∧ w.frozen? ⟨bl, o, none⟩ = false := by
  obtain ⟨hf, hb⟩ := hp.held _ hu.mem
  simp only at hb
  obtain ⟨f1, f2, f3⟩ := set1_flat hf hs
  refine ⟨hp.upd hu rfl rfl rfl Array.size_modify (fun i hi => ?_) ⟨f2, ?_⟩, ⟨_, (cell_of_heap hb o).trans (List.getElem?_eq_getElem f3)⟩, by simp [World.frozen?, hb]⟩
  · rw [setCell_heap]; simp only [hi, if_false]; cases w.heap[i]? <;> rfl
  · rw [setCell_heap, hb, f1]; simp

theorem E_astore {f : FuncId} {xs : Array Operand} {ats : Array TypeId} {k : IntKind} {n : Int} {bl o : Nat} {cs cs' : List Seg} {t : TypeId} (he : extB c.P f Extern.Atomic.storeT) (ha : evs S xs.toList = some [.pointer (some ⟨bl, o, none⟩), .int k n])
    (hs : set1 cs o (.int k n) = some cs') (hu : Upd bl (.cells cs' t) L (.cells cs t) L') : Eff c S L (.call ⟨.value (.func f), xs, ats⟩) ty fun u M => u = .tuple #[] ∧ M = L' := fun a w st => by
  obtain ⟨fn, h1, h2, h3, h4, h5⟩ := he
  obtain ⟨p1, ⟨u, p2⟩, p3⟩ := store_hp (c := c) st.hp hs hu
  exact ⟨_, _, _, .inl (run_ext st ha (run_call_store h1 h2 h3 h4 h5 p2 p3)), p1, rfl, rfl⟩

theorem E_aadd {f : FuncId} {xs : Array Operand} {ats : Array TypeId} {k : IntKind} {m n : Int} {bl o : Nat} {cs cs' : List Seg} {t : TypeId} (he : extB c.P f (Extern.Atomic.update (Op.intArith .add) k true)) (ha : evs S xs.toList = some [.pointer (some ⟨bl, o, none⟩), .int k n])
    (hm : cell1 cs o = some (.int k m)) (hs : set1 cs o (.int k (k.wrap (m + n))) = some cs') (hu : Upd bl (.cells cs' t) L (.cells cs t) L') : Eff c S L (.call ⟨.value (.func f), xs, ats⟩) ty fun u M => u = .int k (k.wrap (m + n)) ∧ M = L' := fun a w st => by
  obtain ⟨fn, h1, h2, h3, h4, h5⟩ := he
  obtain ⟨p1, ⟨u, p2⟩, p3⟩ := store_hp (c := c) st.hp hs hu
  obtain ⟨hf, hb⟩ := st.hp.held _ hu.mem
  have hc : w.cell? ⟨bl, o, none⟩ = some (.int k m) := (cell_of_heap hb o).trans (cell1_flat hf hm)
  exact ⟨_, _, _, .inl (run_ext st ha (run_call_add h1 h2 h3 h4 k h5 hc p3 rfl)), p1, rfl, rfl⟩
end
end Go.X
