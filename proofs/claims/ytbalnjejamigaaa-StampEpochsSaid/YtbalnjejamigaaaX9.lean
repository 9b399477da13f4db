/- Rows of integers in the midst of a block. -/
import Derived.Test.YtbalnjejamigaaaX8
set_option linter.unusedVariables false
set_option linter.unusedSimpArgs false
namespace Go.X
open Go.RowKit
/-- The segment that begins at an offset. -/
def splitS : List Seg → Nat → Option (List Seg × Seg × List Seg)
  | [], _ => none
  | s :: r, o => if Nat.beq o 0 then some ([], s, r) else if Nat.ble s.1 o then (splitS r (o - s.1)).map fun q => (s :: q.1, q.2.1, q.2.2) else none
theorem splitS_eq : ∀ {cs : List Seg} {o : Nat} {pre post : List Seg} {s : Seg}, splitS cs o = some (pre, s, post) → Fit cs → cs = pre ++ s :: post ∧ (flat pre).length = o
  | [], _, _, _, _, h, _ => by cases h
  | x :: r, o, pre, post, s, h, hf => by
    unfold splitS at h
    split at h
    · rename_i h0
      cases h
      exact ⟨rfl, by simpa [flat] using (Nat.eq_of_beq_eq_true h0).symm⟩
    · split at h
      · rename_i hb
        have hle := Nat.le_of_ble_eq_true hb
        obtain ⟨q, h1, h2⟩ := Option.map_eq_some_iff.1 h
        obtain ⟨p1, s1, r1⟩ := q
        cases h2
        obtain ⟨hl, hr⟩ := hf.cons
        obtain ⟨e1, e2⟩ := splitS_eq h1 hr
        exact ⟨by rw [e1]; rfl, by rw [flat_cons]; simp; omega⟩
      · cases h
section
variable {c : Cx} {Q : Post} {S S1 : Slots} {L L1 L' Lr Lx : List (Nat × Blk)} {ops : Array Oper} {d : Option Tmp} {t : Tmp} {ty T T' : TypeId} {pos : String} {af : Array Edge} {rest : List Oper} {op : Op} {x y z : Operand} {v : Value} {g : Option (Nat × Bool)} {i j : Nat} {p : Plan}
theorem vldP {b q n i : Nat} {k : IntKind} {l : List Int} {cs pre post : List Seg} (o : Nat) (hx : ev S x = some (.pointer (some ⟨b, q, none⟩)) := by exact rfl) (hA : At c L b cs := by exact at_) (hs : splitS cs o = some (pre, (n, iv k l), post) := by rfl) (hq : q = o + i := by first | rfl | omega) (hj : i < l.length := by exact sc) (ht : scB c.P T = true := by kernel_rfl) : Val c S L (.load T x) ty (.int k (l.getD i 0)) := fun a w st => by
  obtain ⟨hf, _⟩ := hA.here st
  obtain ⟨e1, e2⟩ := splitS_eq hs hf
  refine V_load1 ht hx hA ?_ a w st
  rw [e1, flat_append, hq, List.getElem?_append_right (by omega), e2, Nat.add_sub_cancel_left, flat_cons, List.getElem?_append_left (by rw [iv_len]; exact hj)]
  exact iv_get hj
theorem E_storeP {b q n i : Nat} {k : IntKind} {l : List Int} {u : Int} {cs pre post : List Seg} {t : TypeId} (o : Nat) (hx : ev S x = some (.pointer (some ⟨b, q, none⟩))) (hy : ev S y = some (.int k u)) (hs : splitS cs o = some (pre, (n, iv k l), post)) (hq : q = o + i) (hj : i < l.length)
    (hu : Upd b (.cells (pre ++ (n, iv k (l.set i u)) :: post) t) L (.cells cs t) L') (ht : szB c.P T 1 = true) : Eff c S L (.store T x y) ty (fun u M => u = undef ∧ M = L') := fun a w st => by
  obtain ⟨hf, _⟩ := st.hp.held _ hu.mem
  obtain ⟨e1, e2⟩ := splitS_eq hs hf
  refine E_storeF ht hx hy rfl hu ?_ ?_ ?_ a w st
  · rw [e1, flat_append, flat_cons, hq]; simp [iv_len]; omega
  · intro hf'
    rw [e1] at hf'
    intro s hsm
    rcases List.mem_append.1 hsm with h | h
    · exact hf' s (List.mem_append_left _ h)
    · rcases List.mem_cons.1 h with rfl | h
      · have := hf' (n, iv k l) (List.mem_append_right _ List.mem_cons_self)
        simp only [iv_len, List.length_set] at this ⊢; exact this
      · exact hf' s (List.mem_append_right _ (List.mem_cons_of_mem _ h))
  · rw [e1, flat_append, flat_append, flat_cons, flat_cons, hq, List.set_append_right _ _ (by omega), e2, Nat.add_sub_cancel_left, List.set_append_left _ _ (by rw [iv_len]; exact hj), iv_set]
theorem ostP {b q n i : Nat} {k : IntKind} {l : List Int} {u : Int} {cs pre post : List Seg} {t : TypeId} (o : Nat) (K : WL c ops Q rest S L') (hx : ev S x = some (.pointer (some ⟨b, q, none⟩)) := by exact rfl) (hy : ev S y = some (.int k u) := by exact rfl) (hm : (b, Blk.cells cs t) ∈ L := by exact mm) (hs : splitS cs o = some (pre, (n, iv k l), post) := by rfl) (hq : q = o + i := by first | rfl | omega) (hj : i < l.length := by exact sc)
    (hu : Upd b (.cells (pre ++ (n, iv k (l.set i u)) :: post) t) L (.cells cs t) L' := by exact upd) (ht : szB c.P T 1 = true := by kernel_rfl) : WL c ops Q (⟨none, .store T x y, ty, pos, af, none⟩ :: rest) S L :=
  WL.eff (d := none) rfl (E_storeP o hx hy hs hq hj hu ht) fun v M ⟨_, hM⟩ => by subst hM; exact K
theorem dstP {b q n j : Nat} {k : IntKind} {l : List Int} {u : Int} {cs pre post : List Seg} {t : TypeId} (ho : ops[i]? = some ⟨none, .store T x y, ty, pos, af, g⟩) (o : Nat) (K : WD c ops Q Lr p S L') (hg : Gd ops S g := by exact trivial) (hx : ev S x = some (.pointer (some ⟨b, q, none⟩)) := by exact rfl) (hy : ev S y = some (.int k u) := by exact rfl) (hm : (b, Blk.cells cs t) ∈ L := by exact mm) (hs : splitS cs o = some (pre, (n, iv k l), post) := by rfl) (hq : q = o + j := by first | rfl | omega) (hj : j < l.length := by exact sc)
    (hu : Upd b (.cells (pre ++ (n, iv k (l.set j u)) :: post) t) L (.cells cs t) L' := by exact upd) (ht : szB c.P T 1 = true := by kernel_rfl) (hsl : Lr.Sublist L := by exact subl) (hmm : ∀ p ∈ Lr, p ∈ L' := by simp) : WO c ops Q Lr i p S L :=
  WO.effG ho hg (d := none) rfl hsl (E_storeP o hx hy hs hq hj hu ht) fun v M ⟨_, hM⟩ => by subst hM; exact ⟨hmm, K⟩
/-- An array's element, of a pointer into a block. -/
theorem viAP {ix : Operand} {b o j : Nat} {k : IntKind} (n : Nat) (ht : arB c.P T n 1 = true := by kernel_rfl) (hx : ev S x = some (.pointer (some ⟨b, o, none⟩)) := by exact rfl) (hi : ev S ix = some (.int k (j : Int)) := by exact rfl) (hj : j < n := by exact sc) : Val c S L (.indexAddr T x ix) ty (.pointer (some ⟨b, o + j, none⟩)) := by
  have := V_indexAddrA (c := c) (L := L) (ty := ty) n 1 ht hx hi (by omega) (by omega); simpa using this
theorem viAPZ {ix : Operand} {b o : Nat} {k : IntKind} {q : Int} (n : Nat) (ht : arB c.P T n 1 = true := by kernel_rfl) (hx : ev S x = some (.pointer (some ⟨b, o, none⟩)) := by exact rfl) (hi : ev S ix = some (.int k q) := by exact rfl) (hj : 0 ≤ q ∧ q < n := by omega) : Val c S L (.indexAddr T x ix) ty (.pointer (some ⟨b, o + q.toNat, none⟩)) := by
  have := V_indexAddrA (c := c) (L := L) (ty := ty) n 1 ht hx hi hj.1 hj.2; simpa using this
end
end Go.X
