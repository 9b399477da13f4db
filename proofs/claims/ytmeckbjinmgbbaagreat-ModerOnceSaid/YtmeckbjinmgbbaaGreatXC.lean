/- Slices of arrays, of bools; ranges over maps; clear. -/
import Derived.Test.YtmeckbjinmgbbaaGreatXB
import Derived.Maps.RangeRun
import Derived.MapKept
import Derived.RangeFuncRecord
import Derived.OrdersIn
import Derived.Scope
set_option linter.unusedVariables false
set_option linter.unusedSimpArgs false

namespace Go.X
open Go.RowKit
theorem flatten_get {α : Type} {s : Nat} : ∀ {ss : List (List α)} {i : Nat}, (∀ l ∈ ss, l.length = s) → i < ss.length → (ss.flatten.drop (i * s)).take s = ss.getD i []
  | [], i, _, h => by simp at h
  | l :: ss, 0, h, _ => by
    have hl := h l List.mem_cons_self
    simp [List.take_append_of_le_length (show s ≤ l.length by omega), ← hl]
  | l :: ss, i + 1, h, hi => by
    have hl := h l List.mem_cons_self
    have ih := flatten_get (ss := ss) (i := i) (fun x hx => h x (List.mem_cons_of_mem _ hx)) (by simpa using hi)
    rw [List.flatten_cons, show (i + 1) * s = l.length + i * s by rw [Nat.succ_mul, hl, Nat.add_comm], List.drop_append, List.drop_of_length_le (by omega), List.nil_append, show l.length + i * s - l.length = i * s by omega, ih]
    simp
theorem flatten_set {α : Type} {s : Nat} {z : List α} : ∀ {ss : List (List α)} {i : Nat}, (∀ l ∈ ss, l.length = s) → i < ss.length → ss.flatten.take (i * s) ++ z ++ ss.flatten.drop (i * s + s) = (ss.set i z).flatten
  | [], i, _, h => by simp at h
  | l :: ss, 0, h, _ => by
    have hl := h l List.mem_cons_self
    simp [List.drop_append, List.drop_of_length_le (show l.length ≤ s by omega), ← hl]
  | l :: ss, i + 1, h, hi => by
    have hl := h l List.mem_cons_self
    have ih := flatten_set (ss := ss) (i := i) (z := z) (fun x hx => h x (List.mem_cons_of_mem _ hx)) (by simpa using hi)
    rw [List.flatten_cons, show (i + 1) * s = l.length + i * s by rw [Nat.succ_mul, hl, Nat.add_comm], List.take_append, List.take_of_length_le (by omega), show l.length + i * s - l.length = i * s by omega, List.drop_append, List.drop_of_length_le (by omega), show l.length + i * s + s - l.length = i * s + s by omega, List.nil_append, List.append_assoc, List.append_assoc]
    rw [List.append_assoc] at ih
    rw [ih]; simp
theorem flatten_len {α : Type} {s : Nat} : ∀ {ss : List (List α)}, (∀ l ∈ ss, l.length = s) → ss.flatten.length = ss.length * s
  | [], _ => by simp
  | l :: ss, h => by
    have ih := flatten_len (ss := ss) (fun x hx => h x (List.mem_cons_of_mem _ hx))
    rw [List.flatten_cons, List.length_append, ih, h l List.mem_cons_self, List.length_cons, Nat.succ_mul, Nat.add_comm]
def bv (l : List Bool) : List Value := l.map .bool
@[simp] theorem bv_len {l : List Bool} : (bv l).length = l.length := by simp [bv]
section
variable {c : Cx} {Q : Post} {S S1 : Slots} {L L1 L' Lr Lx : List (Nat × Blk)} {ops : Array Oper} {d : Option Tmp} {t : Tmp} {ty T T' : TypeId} {pos : String} {af : Array Edge} {rest : List Oper} {op : Op} {x y z : Operand} {v : Value} {g : Option (Nat × Bool)} {i j : Nat} {p : Plan}
/-! ### slices of arrays -/
theorem viSec {ix : Operand} {b i len cap : Nat} {k : IntKind} (s : Nat) (hx : ev S x = some (.slice (some ⟨b, 0, none⟩) len cap) := by exact rfl) (hi : ev S ix = some (.int k (i : Int)) := by exact rfl) (h1 : i < len := by omega) (ht : slB c.P T s = true := by kernel_rfl) : Val c S L (.indexAddr T x ix) ty (.pointer (some ⟨b, i * s, none⟩)) := by
  have := V_indexAddrS (c := c) (L := L) (ty := ty) s ht hx hi (by omega) (by omega); simpa using this
theorem viSecZ {ix : Operand} {b len cap : Nat} {q : Int} {k : IntKind} (s : Nat) (hx : ev S x = some (.slice (some ⟨b, 0, none⟩) len cap) := by exact rfl) (hi : ev S ix = some (.int k q) := by exact rfl) (h1 : 0 ≤ q ∧ q < len := by omega) (ht : slB c.P T s = true := by kernel_rfl) : Val c S L (.indexAddr T x ix) ty (.pointer (some ⟨b, q.toNat * s, none⟩)) := by
  have := V_indexAddrS (c := c) (L := L) (ty := ty) s ht hx hi h1.1 h1.2; simpa using this
theorem vldSec {b i N : Nat} {k : IntKind} {ss : List (List Int)} {r : List Seg} (s : Nat) (hss : ∀ l ∈ ss, l.length = s) (hx : ev S x = some (.pointer (some ⟨b, i * s, none⟩)) := by exact rfl) (hA : At c L b ((N, iv k ss.flatten) :: r) := by exact at_) (hi : i < ss.length := by omega) (ht : agB c.P T s = true := by kernel_rfl) :
    Val c S L (.load T x) ty (AG [(s, iv k (ss.getD i []))]) := by
  have hl := flatten_len hss
  have hle : i * s + s ≤ ss.flatten.length := by
    rw [hl, ← Nat.succ_mul]; exact Nat.mul_le_mul_right _ hi
  refine V_loadAF s ht hx hA ?_ ?_
  · rw [flat_cons, List.drop_append_of_le_length (by rw [iv_len]; omega), iv_drop, List.take_append_of_le_length (by rw [iv_len, List.length_drop]; omega), iv_take, flatten_get hss hi]; simp [flat]
  · rw [flat_cons, List.length_append, iv_len]; omega
theorem E_storeSec {b i N s : Nat} {k : IntKind} {ss : List (List Int)} {z : List Int} {r : List Seg} {t : TypeId} (hss : ∀ l ∈ ss, l.length = s) (hz : z.length = s) (hx : ev S x = some (.pointer (some ⟨b, i * s, none⟩))) (hy : ev S y = some (AG [(s, iv k z)])) (hi : i < ss.length)
    (hu : Upd b (.cells ((N, iv k (ss.set i z).flatten) :: r) t) L (.cells ((N, iv k ss.flatten) :: r) t) L') (ht : szB c.P T s = true) : Eff c S L (.store T x y) ty (fun u M => u = undef ∧ M = L') := fun a w st => by
  have e1 := st.sl.ev hx; have e2 := st.sl.ev hy
  obtain ⟨hf, hb⟩ := st.hp.held _ hu.mem
  have hl := flatten_len hss
  have hle : i * s + s ≤ ss.flatten.length := by
    rw [hl, ← Nat.succ_mul]; exact Nat.mul_le_mul_right _ hi
  have hn : (flat [(s, iv k z)]).length = s := by simp [flat, iv_len, hz]
  have h1 : ∀ v ∈ flat [(s, iv k z)], one v = true := ones_cons iv_one ones_nil
  obtain ⟨w', e, p1, p2, p3, p4, p5, p6⟩ := run_storeCells (P := c.P) (i * s) (flat [(s, iv k z)]) 0 (flat ((N, iv k ss.flatten) :: r)) w hb h1 (by rw [hn, flat_cons, List.length_append, iv_len]; omega)
  obtain ⟨hfl, hfr⟩ := hf.cons
  refine ⟨undef, w', L', .inr ⟨?_, rfl⟩, st.hp.upd hu p1 p2 p3 p4 p5 ⟨Fit.mk ?_ hfr, ?_⟩, rfl, rfl⟩
  · simp only [ex, execOp, e1, e2, Instr.storeAt, Instr.sureAddr, storeVar, AG, Value.cells]
    simp [run_sizeOf_sz ht, e, hn]
  · rw [iv_len] at hfl ⊢
    rw [← hfl, ← flatten_set hss hi]
    simp only [List.length_append, List.length_take, List.length_drop, hz]; omega
  · rw [p6, hn, ← flatten_set hss hi, flat_cons, flat_cons]
    congr 2
    rw [Nat.add_zero, List.take_append_of_le_length (by rw [iv_len]; omega), List.drop_append_of_le_length (by rw [iv_len]; omega), iv_take, iv_drop]
    simp [flat, iv]
theorem dstSec {b q N : Nat} {k : IntKind} {ss : List (List Int)} {z : List Int} {r : List Seg} {t : TypeId} (s : Nat) (hss : ∀ l ∈ ss, l.length = s) (ho : ops[i]? = some ⟨none, .store T x y, ty, pos, af, g⟩) (K : WD c ops Q Lr p S L') (hg : Gd ops S g := by exact trivial) (hz : z.length = s := by exact sc) (hx : ev S x = some (.pointer (some ⟨b, q * s, none⟩)) := by exact rfl) (hy : ev S y = some (AG [(s, iv k z)]) := by exact rfl) (hi : q < ss.length := by omega)
    (hu : Upd b (.cells ((N, iv k (ss.set q z).flatten) :: r) t) L (.cells ((N, iv k ss.flatten) :: r) t) L' := by exact upd) (ht : szB c.P T s = true := by kernel_rfl) (hsl : Lr.Sublist L := by exact subl) (hmm : ∀ p ∈ Lr, p ∈ L' := by simp) : WO c ops Q Lr i p S L :=
  WO.effG ho hg (d := none) rfl hsl (E_storeSec hss hz hx hy hi hu ht) fun v M ⟨_, hM⟩ => by subst hM; exact ⟨hmm, K⟩
/-- t is a slice of e, whose elements have s cells, all v. -/
def slEs (P : Program) (t e s by' : Nat) (v : Value) : Prop := P.underlying t = some (.slice e) ∧ ∃ i z, P.info? e = some i ∧ i.size = s ∧ i.bytes = by' ∧ i.zero = some z ∧ z.cells = Array.replicate s v
theorem E_makeSec {n s by' : Nat} {k k' k2 : IntKind} {q1 q2 : Int} {e : TypeId} (h0 : 0 < s) (ht : slEs c.P T e s by' (.int k2 0)) (hx : ev S x = some (.int k q1)) (hy : ev S y = some (.int k' q2)) (hq1 : q1 = (n : Int)) (hq2 : q2 = (n : Int)) (hb : n * by' ≤ 281474976710656) (hl : n ≤ 9223372036854775807) :
    Eff c S L (.makeSlice T x y) ty fun v M => ∃ b, v = .slice (some ⟨b, 0, none⟩) n n ∧ M = (b, .cells [(n * s, iv k2 (List.replicate n (List.replicate s 0)).flatten)] e) :: L := fun a w st => by
  subst hq1; subst hq2
  obtain ⟨hu, i, z, hi, h1, h2, hz', h3⟩ := ht
  have e1 := st.sl.ev hx; have e2 := st.sl.ev hy
  have hr := run_make (P := c.P) w T e i z hu hi hz' k k' n n (by omega) (by omega) (by rw [h2]; have : ((by' * n : Nat) : Int) ≤ 281474976710656 := by rw [Nat.mul_comm]; omega
                                                                                        rwa [Int.natCast_mul] at this) (by omega)
  have hfl : (List.replicate n (List.replicate s (0 : Int))).flatten = List.replicate (n * s) 0 := by simp
  refine ⟨_, w.alloc (.cells (madeCells z.cells ((n : Int).toNat * i.size)) e), _, .inl ?_, ?_, w.heap.size, rfl, rfl⟩
  · simp only [ex, execOp, e1, e2, Sem.run_bind, hr, Result.andThen_ok]
    simp
  · refine st.hp.alloc ⟨Fit.mk (by rw [hfl, iv_len]; simp) Fit.nil, ?_⟩
    congr 1
    rw [h1, h3, hfl]
    congr 1
    rw [← Array.toList_inj]
    apply List.ext_getElem
    · simp [madeCells, flat, iv_len]
    · intro j hj1 hj2
      have : j % s < s := Nat.mod_lt _ h0
      simp [madeCells, flat, iv, this]
theorem omkSec {n s by' : Nat} {k k' k2 : IntKind} {q1 q2 : Int} {e : TypeId} (ht : slEs c.P T e s by' (.int k2 0)) (K : ∀ b, WL c ops Q rest ((t, .slice (some ⟨b, 0, none⟩) n n) :: S) ((b, .cells [(n * s, iv k2 (List.replicate n (List.replicate s 0)).flatten)] e) :: L)) (h0 : 0 < s := by decide) (hx : ev S x = some (.int k q1) := by exact rfl) (hy : ev S y = some (.int k' q2) := by exact rfl)
    (hq1 : q1 = (n : Int) := by first | rfl | omega) (hq2 : q2 = (n : Int) := by first | rfl | omega) (hb : n * by' ≤ 281474976710656 := by omega) (hl : n ≤ 9223372036854775807 := by omega) (hd : Nat.blt t c.n = true := by exact rfl) : WL c ops Q (⟨some t, .makeSlice T x y, ty, pos, af, none⟩ :: rest) S L :=
  WL.eff (d := some t) hd (E_makeSec h0 ht hx hy hq1 hq2 hb hl) fun v M ⟨b, hv, hM⟩ => by subst hv; subst hM; exact K b
/-! ### slices of bools -/
theorem viB {ix : Operand} {b i len cap : Nat} {k : IntKind} (hx : ev S x = some (.slice (some ⟨b, 0, none⟩) len cap) := by exact rfl) (hi : ev S ix = some (.int k (i : Int)) := by exact rfl) (h1 : i < len := by omega) (ht : slB c.P T 1 = true := by kernel_rfl) : Val c S L (.indexAddr T x ix) ty (.pointer (some ⟨b, i, none⟩)) := by
  have := V_indexAddrS (c := c) (L := L) (ty := ty) 1 ht hx hi (by omega) (by omega); simpa using this
/-! ### ranges over maps -/
theorem run_getMap {P : Program} {w : World} {b : Nat} {k : IntKind} {m : List Ent} {ck : Nat} (h : w.heap[b]? = some (mapO k m ck)) : (getObj b).run P w = .ok (mapO k m ck) w := by
  simp [getObj, Sem.run, h, mapO]
theorem E_range {b ck : Nat} {k : IntKind} {m : List Ent} (hx : ev S x = some (.map (some b))) (hb : (b, Blk.obj (mapO k m ck)) ∈ L) (ht : (mapT c.P T k).isSome = true) :
    Eff c S L (.range T x) ty fun v M => ∃ r, v = .pointer (some ⟨r, 0, none⟩) ∧ M = (r, .obj (.mapIter (some b) ck #[] ck)) :: L := fun a w st => by
  have e1 := st.sl.ev hx
  obtain ⟨e, he⟩ := Option.isSome_iff_exists.1 ht
  obtain ⟨kt, hu, hk⟩ := mapT_open he
  have hh : w.heap[b]? = some (mapO k m ck) := obj_at hb st
  refine ⟨_, w.alloc (.mapIter (some b) ck #[] ck), _, .inl ?_, st.hp.alloc (k := .obj (.mapIter (some b) ck #[] ck)) ⟨fun _ _ _ h => (by cases h), rfl⟩, w.heap.size, rfl, rfl⟩
  have hg := run_getMap (P := c.P) hh
  unfold mapO at hg
  simp [ex, execOp, e1, Instr.range, run_underlying hu, hg]
theorem orng {b ck : Nat} {k : IntKind} {m : List Ent} (K : ∀ r, WL c ops Q rest ((t, .pointer (some ⟨r, 0, none⟩)) :: S) ((r, .obj (.mapIter (some b) ck #[] ck)) :: L)) (hx : ev S x = some (.map (some b)) := by exact rfl) (hb : (b, Blk.obj (mapO k m ck)) ∈ L := by exact mm) (ht : (mapT c.P T k).isSome = true := by kernel_rfl) (hd : Nat.blt t c.n = true := by exact rfl) :
    WL c ops Q (⟨some t, .range T x, ty, pos, af, none⟩ :: rest) S L :=
  WL.eff (d := some t) hd (E_range hx hb ht) fun v M ⟨r, hv, hM⟩ => by subst hv; subst hM; exact K r
theorem entL_mem {k : IntKind} {m : List Ent} {e : MapEntry} (h : e ∈ entL k m) : ∃ e' ∈ m, e = ⟨.int k e'.1, e'.2.1, e'.2.2⟩ := by
  obtain ⟨e', h1, h2⟩ := List.mem_map.1 h; exact ⟨e', h1, h2.symm⟩
theorem onext {b r ck : Nat} {k : IntKind} {m : List Ent} {seen : Array Nat} {Lf : Nat → List (Nat × Blk)}
    (K0 : (∀ e ∈ m, seen.contains e.2.2 = true) → WL c ops Q rest ((t, .tuple #[.bool false]) :: S) L)
    (K1 : ∀ e ∈ m, seen.contains e.2.2 = false → WL c ops Q rest ((t, .tuple #[.bool true, .int k e.1, e.2.1]) :: S) (Lf e.2.2))
    (hold : ∀ e ∈ m, e.2.2 < ck := by exact sc) (hx : ev S x = some (.pointer (some ⟨r, 0, none⟩)) := by exact rfl) (hb : (b, Blk.obj (mapO k m ck)) ∈ L := by exact mm)
    (hu : ∀ n, Upd r (.obj (.mapIter (some b) ck (seen.push n) ck)) L (.obj (.mapIter (some b) ck seen ck)) (Lf n) := by intro n; exact upd) (hd : Nat.blt t c.n = true := by exact rfl) :
    WL c ops Q (⟨some t, .next x false, ty, pos, af, none⟩ :: rest) S L := by
  refine WL.eff (d := some t) hd (R := fun v M => (v = .tuple #[.bool false] ∧ M = L ∧ ∀ e ∈ m, seen.contains e.2.2 = true) ∨ ∃ e ∈ m, seen.contains e.2.2 = false ∧ v = .tuple #[.bool true, .int k e.1, e.2.1] ∧ M = Lf e.2.2) ?_ ?_
  · intro a w st
    have e1 := st.sl.ev hx
    have hr : w.heap[r]? = some (.mapIter (some b) ck seen ck) := obj_at (hu 0).mem st
    have hh : w.heap[b]? = some (.map (entL k m).toArray ck) := obj_at hb st
    rcases run_next_at (P := c.P) w ty r b ck ck seen (entL k m).toArray ck hr hh (fun x hx => by obtain ⟨e', h1, rfl⟩ := entL_mem (by simpa using hx); exact hold e' h1) (Nat.le_refl _) with ⟨h0, hrun⟩ | ⟨e, he, w1, hw1, hrun⟩
    · refine ⟨_, w, L, .inl (by simp [ex, execOp, e1, hrun]), st.hp, .inl ⟨rfl, rfl, fun e he => ?_⟩⟩
      have hem : (⟨.int k e.1, e.2.1, e.2.2⟩ : MapEntry) ∈ (entL k m).toArray := by simp [entL]; exact ⟨_, _, _, he, rfl, rfl, rfl⟩
      have h1 := Array.eq_empty_of_size_eq_zero h0
      unfold leftOf at h1
      rw [Array.filter_eq_empty_iff] at h1
      have := h1 _ hem
      simpa using this
    · unfold leftOf at he
      simp only [Array.toList_filter, List.mem_filter] at he
      obtain ⟨e', h1, rfl⟩ := entL_mem he.1
      have hs : seen.contains e'.2.2 = false := by simpa using he.2
      have hp1 : HP c.w0 w1 c.O L := by rcases hw1 with rfl | rfl; exact st.hp; exact st.hp.drew _
      have hr1 : w1.heap[r]? = some (.mapIter (some b) ck seen ck) := by rcases hw1 with rfl | rfl <;> exact hr
      have hlt : r < w1.heap.size := (Array.getElem?_eq_some_iff.1 hr1).1
      refine ⟨_, _, _, .inl (by simp [ex, execOp, e1, hrun]), hp1.upd (w' := Go.ChangeMaps.setBlock w1 r (.mapIter (some b) ck (seen.push e'.2.2) ck)) (hu e'.2.2) rfl rfl rfl (by simp [Go.ChangeMaps.setBlock]) (fun i hi => by simp [Go.ChangeMaps.setBlock, Array.getElem?_setIfInBounds_ne (Ne.symm hi)]) ⟨fun _ _ _ h => (by cases h), by simp [Go.ChangeMaps.setBlock, hlt]⟩, .inr ⟨e', h1, hs, rfl, rfl⟩⟩
  · rintro v M (⟨rfl, rfl, h⟩ | ⟨e, he, hs, rfl, rfl⟩)
    · exact K0 h
    · exact K1 e he hs
theorem vent {b r ck : Nat} {k : IntKind} {m : List Ent} {seen : Array Nat} {e : Ent} (he : e ∈ m) (hn : (m.map (·.2.2)).Nodup := by exact sc) (hx : ev S x = some (.pointer (some ⟨r, 0, none⟩)) := by exact rfl) (hb : (b, Blk.obj (mapO k m ck)) ∈ L := by exact mm) (hr : (r, Blk.obj (.mapIter (some b) ck (seen.push e.2.2) ck)) ∈ L := by exact mm) :
    Val c S L (.entry x) ty (.tuple #[.int k e.1, e.2.1]) := fun a w st => by
  have e1 := st.sl.ev hx
  have h1 : w.heap[r]? = some (.mapIter (some b) ck (seen.push e.2.2) ck) := obj_at hr st
  have h2 : w.heap[b]? = some (.map (entL k m).toArray ck) := obj_at hb st
  have := run_entry_at (P := c.P) w r b ck seen (entL k m).toArray ck ⟨.int k e.1, e.2.1, e.2.2⟩ h1 h2 (by simp [entL]; exact ⟨_, _, _, he, rfl, rfl, rfl⟩) (by simpa [entL, List.map_map, Function.comp_def] using hn)
  simp [ex, execOp, e1, this]
/-! ### clear -/
theorem E_clear {b ck : Nat} {k : IntKind} {m : List Ent} (hx : ev S x = some (.map (some b))) (hu : Upd b (.obj (mapO k [] ck)) L (.obj (mapO k m ck)) L') (ht : (mapT c.P T k).isSome = true) :
    Eff c S L (.call ⟨.builtin .clear, #[x], #[T]⟩) ty fun u M => u = .tuple #[] ∧ M = L' := fun a w st => by
  have e1 := st.sl.ev hx
  obtain ⟨e, he⟩ := Option.isSome_iff_exists.1 ht
  obtain ⟨kt, hun, hk⟩ := mapT_open he
  have hh : w.heap[b]? = some (.map (entL k m).toArray ck) := obj_at hu.mem st
  have hg := Go.MapKept.run_getObj_map (P := c.P) hh
  have hlt : b < w.heap.size := (Array.getElem?_eq_some_iff.1 hh).1
  refine ⟨_, { w with heap := w.heap.setIfInBounds b (mapO k [] ck) }, L', .inl ?_, st.hp.upd hu rfl rfl rfl (by simp) (fun i hi => by simp [Array.getElem?_setIfInBounds_ne (Ne.symm hi)]) ⟨fun _ _ _ h => by simp [mapO] at h, by simp [hlt]⟩, rfl, rfl⟩
  simp [ex, execOp, e1, resolve, Deferred.ofValue, invoke, builtin, Builtin.clear_, run_underlying hun, hg, Go.MapKept.run_setObj_map (P := c.P) _ hh, mapO, entL]
theorem oclr {b ck : Nat} {k : IntKind} {m : List Ent} (K : WL c ops Q rest (putS d (.tuple #[]) S) L') (hx : ev S x = some (.map (some b)) := by exact rfl) (hu : Upd b (.obj (mapO k [] ck)) L (.obj (mapO k m ck)) L' := by exact upd) (ht : (mapT c.P T k).isSome = true := by kernel_rfl) (hd : inB c.n d = true := by exact rfl) :
    WL c ops Q (⟨d, .call ⟨.builtin .clear, #[x], #[T]⟩, ty, pos, af, none⟩ :: rest) S L :=
  WL.eff (d := d) hd (E_clear hx hu ht) fun v M ⟨hv, hM⟩ => by subst hv; subst hM; exact K
end
end Go.X

/- Slices of structs, and of bools, that came in. -/
namespace Go.X
open Go.RowKit Go.WideShapes Go.ChangeShapes
theorem flatten_at {α : Type} {s : Nat} : ∀ {ss : List (List α)} {i k : Nat}, (∀ l ∈ ss, l.length = s) → (h : i < ss.length) → k < s → ss.flatten[i * s + k]? = ss[i][k]?
  | [], i, k, _, h, _ => by simp at h
  | l :: ss, 0, k, h, _, hk => by
    have hl := h l List.mem_cons_self
    simp [List.getElem?_append_left (show k < l.length by omega)]
  | l :: ss, i + 1, k, h, hi, hk => by
    have hl := h l List.mem_cons_self
    have ih := flatten_at (ss := ss) (i := i) (k := k) (fun x hx => h x (List.mem_cons_of_mem _ hx)) (by simpa using hi) hk
    rw [List.flatten_cons, show (i + 1) * s + k = l.length + (i * s + k) by rw [Nat.succ_mul]; omega, List.getElem?_append_right (by omega), Nat.add_sub_cancel_left, ih]; rfl
section
variable {c : Cx} {S : Slots} {L : List (Nat × Blk)} {ty T : TypeId} {x y : Operand} {v : Value}
/-- An element's address, of a slice that came in. -/
theorem viO {ix : Operand} {b o i len cap : Nat} {k : IntKind} (s : Nat) (hx : ev S x = some (.slice (some ⟨b, o, none⟩) len cap) := by exact rfl) (hi : ev S ix = some (.int k (i : Int)) := by exact rfl) (h1 : i < len := by omega) (ht : slB c.P T s = true := by kernel_rfl) : Val c S L (.indexAddr T x ix) ty (.pointer (some ⟨b, o + i * s, none⟩)) := by
  have := V_indexAddrS (c := c) (L := L) (ty := ty) s ht hx hi (by omega) (by omega); simpa using this
end
section
variable {c : Cx} {Q : Post} {S : Slots} {L Lr Lx : List (Nat × Blk)} {ops : Array Oper} {d : Option Tmp} {ty : TypeId} {pos : String} {af : Array Edge} {rest : List Oper} {g : Option (Nat × Bool)} {i : Nat} {p : Plan}
/-- A call that changes some tracked blocks, and yields others, laid behind the rest. -/
theorem cgX {ι : Type} {f : FuncId} {xs : Array Operand} {ats : Array TypeId} {vs : List Value} {bs : List Nat} {V : ι → Value} {M G : ι → List (Nat × Blk)} {A : ι → Prop} (ha : evs S xs.toList = some vs)
    (hc : ∀ w, HP c.w0 w c.O L → Calls c.P f vs.toArray w fun e w' => ∃ r, A r ∧ e = .returned (V r) ∧ HP w w' bs (M r ++ G r)) (k : ∀ r, A r → WL c ops Q rest (putS d (V r) S) (M r ++ (Lr ++ G r)))
    (hdel : Dels bs L Lr := by exact dels) (hf : fnB c.P f = true := by kernel_rfl) (hd : inB c.n d = true := by exact rfl) : WL c ops Q (⟨d, .call ⟨.value (.func f), xs, ats⟩, ty, pos, af, none⟩ :: rest) S L :=
  WL.call bs V (fun r => M r ++ G r) A hd hf ha hdel hc fun r hr a w st => k r hr a w ⟨st.sl, st.hp.perm (by
    rw [List.append_assoc]; exact List.Perm.append_left _ List.perm_append_comm)⟩
end
end Go.X

/- Ranges over functions: rounds, iterators, the statement. -/
namespace Go.X
open Go.RowKit
def Wd (r : Option Nat) : Fence := { Fence.wide with round := r }
def adD (ds : List Deferred) (a : Act) : Act := { a with defers := a.defers ++ ds }
theorem adD_put {ds : List Deferred} {a : Act} {d : Option Tmp} {v : Value} : (adD ds a).put d v = adD ds (a.put d v) := by cases d <;> rfl
theorem adD_nil {a : Act} : adD [] a = a := by simp [adD]
theorem calls_Wd {r : Option Nat} {n : Nat} {P : Program} {f : FuncId} {args : Array Value} {w : World} {R : Ending → World → Prop} (h : Calls P f args w R) : CallsIn (Wd r) n P f args w R :=
  (callsIn_wide (n := n)).2 h
theorem rows_Wd {r : Option Nat} {n : Nat} {P : Program} {row : String} {args : Array Value} {w : World} {R : Value → World → Prop} (h : Rows P row args w R) : RowsIn (Wd r) n P row args w R := fun c cs _ => by
  obtain ⟨v, w', hR, hs⟩ := h c cs
  exact ⟨v, w', hR, stepsIn_wide.2 hs⟩
def noDef (ops : Array Oper) : Bool := ops.all fun o => match o.op with
  | .defer _ => false
  | _ => true
theorem noDef_at {ops : Array Oper} (h : noDef ops = true) {i : Nat} {o : Oper} (ho : ops[i]? = some o) : ∀ c, o.op ≠ .defer c := fun c e => by
  obtain ⟨hi, he⟩ := Array.getElem?_eq_some_iff.1 ho
  have := (Array.all_eq_true.1 h) i hi
  rw [he, e] at this
  cases this
theorem bridge {P : Program} {ops : Array Oper} {r : Option Nat} {n : Nat} {Q1 Q : Post} {ds : List Deferred} {il2 : List Nat} (hnd : noDef ops = true) (hno : ¬ LetsOut Q1)
    (hk : ∀ a w, Q1 .normal a w → wpOpsIn (Wd r) n P ops Q il2 (adD ds a) w) (hp : ∀ ch a w, Q1 (.panic ch) a w → Q (.panic ch) (adD ds a) w) :
    ∀ (il : List Nat) (a : Act) (w : World), wpOps P ops Q1 il a w → wpOpsIn (Wd r) n P ops Q (il ++ il2) (adD ds a) w
  | [], a, w, h => hk a w h
  | i :: il, a, w, h => by
    have ih := bridge (r := r) (n := n) (ds := ds) (il2 := il2) hnd hno hk hp il
    simp only [List.cons_append, wpOps, wpOpsIn] at h ⊢
    cases ho : ops[i]? with
    | none => simp only [ho] at h ⊢; exact ih a w h
    | some o =>
      simp only [ho] at h ⊢
      by_cases hw : Region.wanted o (yielded ops a.tmps) = true
      · rw [if_pos hw] at h
        rw [if_pos (show Region.wanted o (yielded ops (adD ds a).tmps) = true from hw)]
        have h := h.resolve_right fun h => hno h.2
        refine ⟨fun f _ => trivial, ?_⟩
        have hs : Oper.semAt (Wd r).round (adD ds a).eval o = execOp a.eval o := Oper.semAt_eq _ _ _ (noDef_at hnd ho)
        rw [hs]
        unfold Oper.wp at h
        generalize (execOp a.eval o).run P w = res at h ⊢
        cases res with
        | ok x w' =>
          cases x <;> simp only [Oper.upon] at h <;> simp only [Oper.uponIn]
          all_goals first
            | (rw [adD_put]; exact ih _ _ h)
            | exact h.elim
            | (have := ih _ _ h; rw [← adD_put] at this; exact this)
            | (refine ⟨(fun h => by cases h), calls_Wd (Calls.mono h ?_)⟩
               intro e w'' he
               cases e <;> first | (have he := ih _ _ he; rw [← adD_put] at he; exact he) | exact hp _ _ _ he | exact (hno he).elim)
            | (refine ⟨(fun h => by cases h), rows_Wd (Rows.mono h ?_)⟩
               intro v w'' he
               rw [adD_put]; exact ih _ _ he)
        | halt x w' =>
          cases x <;> simp only [Oper.upon] at h <;> simp only [Oper.uponIn]
          all_goals first | exact hp _ _ _ h | exact h.elim
      · rw [if_neg hw] at h
        rw [if_neg (show ¬ Region.wanted o (yielded ops (adD ds a).tmps) = true from hw)]
        refine ⟨fun f _ => trivial, ?_⟩
        rw [adD_put]
        exact ih _ _ h
/-- What is asked behind a region: K at its end; nothing else comes. -/
def QK (ds : List Deferred) (K : Act → World → Prop) : Post := fun e a w => match e with
  | .normal => K (adD ds a) w
  | _ => False
theorem QK_no {ds : List Deferred} {K : Act → World → Prop} : ¬ LetsOut (QK ds K) := fun ⟨_, _, h⟩ => h
theorem QK_calm {ds : List Deferred} {K : Act → World → Prop} : Calm (QK ds K) := fun _ _ _ _ _ h => h
def WI (c : Cx) (r : Option Nat) (ds : List Deferred) (x : Code) (Q : Post) (S : Slots) (L : List (Nat × Blk)) : Prop := ∀ a w, St c S L a w → x.wpIn (Wd r) 0 c.P Q (adD ds a) w
def WIQ (c : Cx) (ds : List Deferred) (Q : Post) (e : Exit) (S : Slots) (L : List (Nat × Blk)) : Prop := ∀ a w, St c S L a w → Q e (adD ds a) w
def WK (c : Cx) (ops : Array Oper) (Q : Post) (il : List Nat) (S : Slots) (L : List (Nat × Blk)) : Prop := ∀ a w, St c S L a w → wpOpsIn (Wd none) 0 c.P ops Q il a w
theorem ops_of_list {P : Program} {ops : Array Oper} {Q : Post} : ∀ (l : List Oper) (k : Nat), (∀ j, j < l.length → l[j]? = ops[k + j]?) → wpOps P ops Q (List.range' k l.length) = wpList P ops Q l
  | [], k, _ => by funext a w; simp [wpOps, wpList]
  | o :: l, k, h => by
    have h0 : ops[k]? = some o := by simpa using (h 0 (by simp)).symm
    have ih' := ops_of_list (Q := Q) (P := P) l (k + 1) (fun j hj => by have := h (j + 1) (by simpa using hj); simpa [Nat.add_assoc, Nat.add_comm 1 j] using this)
    funext a w
    simp only [List.length_cons, List.range'_succ, wpOps, h0, wpList, ih']
theorem pre_at {l1 l2 : List Oper} {j : Nat} (hj : j < l1.length) : l1[j]? = (l1 ++ l2).toArray[0 + j]? := by
  simp [List.getElem?_append_left hj]
theorem suf_at {l1 l2 : List Oper} {j : Nat} : l2[j]? = (l1 ++ l2).toArray[l1.length + j]? := by
  rw [List.getElem?_toArray, List.getElem?_append_right (by omega), Nat.add_sub_cancel_left]
section
variable {c : Cx} {r : Option Nat} {ds : List Deferred} {Q : Post} {S S' : Slots} {L L' L1 Lr : List (Nat × Blk)} {ops : Array Oper} {X Y : Code} {K : Act → World → Prop} {t : Operand}
theorem ireg {id : Nat} {l : List Oper} (h : WL c l.toArray (QK ds (Q .normal)) l S L) (hn : noDef l.toArray = true := by kernel_rfl) : WI c r ds (.region id l.toArray false) Q S L := fun a w st => wpIn_region (by
  have e : List.range l.toArray.size = List.range' 0 l.length ++ [] := by simp [List.range_eq_range']
  rw [e]
  refine bridge (P := c.P) (r := r) (n := 0) (Q := Q) (ds := ds) (il2 := []) (Q1 := QK ds (Q .normal)) hn QK_no (fun a w h => h) (fun _ _ _ h => h.elim) _ a w ?_
  rw [ops_of_list l 0 (fun j _ => by simp)]
  exact h a w st)
theorem inl (h : WIQ c ds Q .normal S L) : WL c ops (QK ds (Q .normal)) [] S L := WL.nil h
theorem WI.seq (h : WI c r ds X (Exit.then (Y.wpIn (Wd r) 0 c.P Q) Q) S L) : WI c r ds (.seq X Y) Q S L := fun a w st => wpIn_seq (h a w st)
theorem WI.skip (h : WIQ c ds Q .normal S L) : WI c r ds .skip Q S L := fun a w st => wpIn_skip (h a w st)
theorem WI.ret (h : WIQ c ds Q .ret S L) : WI c r ds .ret Q S L := fun a w st => wpIn_ret (h a w st)
theorem WI.exit {id : Nat} (h : WIQ c ds Q (.exit id) S L) : WI c r ds (.exit id) Q S L := fun a w st => wpIn_exit (h a w st)
theorem WI.block {id : Nat} (h : WI c r ds X (Exit.inBlock id Q) S L) : WI c r ds (.block id X) Q S L := fun a w st => wpIn_block (h a w st)
theorem WI.cond {b : Bool} (hc : ev S t = some (.bool b)) (h1 : b = true → WI c r ds X Q S L) (h2 : b = false → WI c r ds Y Q S L) : WI c r ds (.cond t X Y) Q S L :=
  fun a w st => wpIn_cond_split (show (adD ds a).eval t = _ from st.sl.ev hc) (fun e => h1 e a w st) (fun e => h2 e a w st)
theorem WI.cond_dec {p : Prop} [Decidable p] (hc : ev S t = some (.bool (decide p))) (h1 : p → WI c r ds X Q S L) (h2 : ¬ p → WI c r ds Y Q S L) : WI c r ds (.cond t X Y) Q S L :=
  WI.cond hc (fun e => h1 (of_decide_eq_true e)) (fun e => h2 (of_decide_eq_false e))
theorem WI.pick (ks : List Nat) (hS : Go.X.pick S ks = S') (h : WI c r ds X Q S' L) : WI c r ds X Q S L :=
  fun a w st => h a w ⟨st.sl.sub (hS ▸ pick_sub S ks), st.hp⟩
theorem WI.sub (hL : L'.Sublist L) (h : WI c r ds X Q S L') : WI c r ds X Q S L := fun a w st => h a w ⟨st.sl, st.hp.sub hL⟩
theorem WI.perm (hL : L'.Perm L) (h : WI c r ds X Q S L') : WI c r ds X Q S L := fun a w st => h a w ⟨st.sl, st.hp.perm hL⟩
theorem WIQ.sub {e : Exit} (hL : L'.Sublist L) (h : WIQ c ds Q e S L') : WIQ c ds Q e S L := fun a w st => h a w ⟨st.sl, st.hp.sub hL⟩
theorem WIQ.perm {e : Exit} (hL : L'.Perm L) (h : WIQ c ds Q e S L') : WIQ c ds Q e S L := fun a w st => h a w ⟨st.sl, st.hp.perm hL⟩
theorem WIQ.then (h : WI c r ds Y Q S L) : WIQ c ds (Exit.then (Y.wpIn (Wd r) 0 c.P Q) Q) .normal S L := h
theorem WIQ.then_ret (h : WIQ c ds Q .ret S L) : WIQ c ds (Exit.then K Q) .ret S L := h
theorem WIQ.block_normal {id : Nat} (h : WIQ c ds Q .normal S L) : WIQ c ds (Exit.inBlock id Q) .normal S L := h
theorem WIQ.block_ret {id : Nat} (h : WIQ c ds Q .ret S L) : WIQ c ds (Exit.inBlock id Q) .ret S L := h
theorem WIQ.block_hit {id : Nat} (h : WIQ c ds Q .normal S L) : WIQ c ds (Exit.inBlock id Q) (.exit id) S L := fun a w st => by
  simp only [Exit.inBlock, if_true]; exact h a w st
theorem W.ofWI (h : WI c none [] X Q S L) : W c X Q S L := fun a w st => (wpIn_wide (n := 0)).1 (by have := h a w st; rwa [adD_nil] at this)
/-- A region with a call of yield in it. -/
theorem W.split {id : Nat} (l1 : List Oper) (o : Oper) (l2 : List Oper) (h : WL c (l1 ++ o :: l2).toArray (QK [] fun a w => wpOpsIn (Wd none) 0 c.P (l1 ++ o :: l2).toArray Q (l1.length :: List.range' (l1.length + 1) l2.length) a w) l1 S L)
    (hn : noDef (l1 ++ o :: l2).toArray = true := by kernel_rfl) : W c (.region id (l1 ++ o :: l2).toArray false) Q S L := W.ofWI fun a w st => wpIn_region (by
  have e : List.range (l1 ++ o :: l2).toArray.size = List.range' 0 l1.length ++ (l1.length :: List.range' (l1.length + 1) l2.length) := by
    simp only [List.size_toArray, List.length_append, List.length_cons, List.range_eq_range']
    rw [← List.range'_append_1, Nat.zero_add]
    rfl
  rw [e]
  refine bridge (Q1 := QK [] fun a w => wpOpsIn (Wd none) 0 c.P (l1 ++ o :: l2).toArray Q (l1.length :: List.range' (l1.length + 1) l2.length) a w) (P := c.P) (r := none) (n := 0) (Q := Q) (il2 := l1.length :: List.range' (l1.length + 1) l2.length) (ds := []) hn QK_no (fun a w h => h) (fun _ _ _ h => h.elim) _ a w ?_
  rw [ops_of_list l1 0 (fun j hj => pre_at hj)]
  exact h a w st)
theorem WL.toK {il : List Nat} (h : WK c ops Q il S L) : WL c ops (QK [] fun a w => wpOpsIn (Wd none) 0 c.P ops Q il a w) [] S L := WL.nil fun a w st => by
  show wpOpsIn _ _ _ _ _ _ (adD [] a) w
  rw [adD_nil]; exact h a w st
theorem WK.rest (l1 : List Oper) (o : Oper) (l2 : List Oper) (h : WL c (l1 ++ o :: l2).toArray (QK [] (Q .normal)) l2 S L) (hn : noDef (l1 ++ o :: l2).toArray = true := by kernel_rfl) : WK c (l1 ++ o :: l2).toArray Q (List.range' (l1.length + 1) l2.length) S L := fun a w st => by
  have := bridge (P := c.P) (ops := (l1 ++ o :: l2).toArray) (r := none) (n := 0) (Q1 := QK [] (Q .normal)) (Q := Q) (ds := []) (il2 := []) hn QK_no (fun a w h => h) (fun _ _ _ h => h.elim) (List.range' (l1.length + 1) l2.length) a w ?_
  · rwa [List.append_nil, adD_nil] at this
  · rw [ops_of_list l2 (l1.length + 1) (fun j _ => ?_)]
    · exact h a w st
    · have := suf_at (l1 := l1 ++ [o]) (l2 := l2) (j := j)
      simpa using this
theorem WL.endK (h : WQ c Q .normal S L) : WL c ops (QK [] (Q .normal)) [] S L := WL.nil fun a w st => by
  show Q .normal (adD [] a) w
  rw [adD_nil]; exact h a w st
/-- What a round does. -/
def Rd (c : Cx) (l : Nat) (rec : Loop) (vs : List Value) (L : List (Nat × Blk)) (R : Bool → List (Nat × Blk) → Prop) : Prop :=
  ∀ w, HP c.w0 w c.O L → RoundIn (Wd none) 0 c.P l rec.fn ((rec.params.zip vs.toArray).foldl (fun tmps (t, a) => tmps.setIfInBounds t a) rec.tmps) rec.assign rec.body w fun e w' => ∃ b L', e = .returned (.bool b) ∧ HP c.w0 w' c.O L' ∧ R b L'
theorem wy_core {i : Nat} {rest : List Nat} {d : Option Tmp} {x : Operand} {xs : Array Operand} {ats : Array TypeId} {ty : TypeId} {pos : String} {af : Array Edge} {g : Option (Nat × Bool)} {l : Nat} {rec : Loop} {vs : List Value} {R : Bool → List (Nat × Blk) → Prop}
    (ho : ops[i]? = some ⟨d, .call ⟨.value x, xs, ats⟩, ty, pos, af, g⟩) (hw : ∀ a w, St c S L a w → Region.wanted ⟨d, .call ⟨.value x, xs, ats⟩, ty, pos, af, g⟩ (yielded ops a.tmps) = true)
    (hx : ev S x = some (.func (.yield l) #[] #[])) (ha : evs S xs.toList = some vs) (hl : (l, .obj (.loop rec)) ∈ L) (hs : vs.length = rec.params.size) (hd : inB c.n d = true)
    (hr : Rd c l rec vs L R) (k : ∀ b L', R b L' → WK c ops Q rest (putS d (.bool b) S) L') : WK c ops Q (i :: rest) S L := fun a w st => by
  have e1 := st.sl.ev hx
  have e2 := evs_eq st.sl ha
  have e : xs.map a.eval = vs.toArray := by
    rw [← e2, ← Array.toList_inj]; simp
  have hh : w.heap[l]? = some (.loop rec) := (st.hp.held _ hl).2
  have hy := run_yield (P := c.P) (args := vs.toArray) hh (by simpa using hs)
  have h : (execOp a.eval ⟨d, .call ⟨.value x, xs, ats⟩, ty, pos, af, g⟩).run c.P w = .ok (.round l rec.fn ((rec.params.zip vs.toArray).foldl (fun tmps (t, a) => tmps.setIfInBounds t a) rec.tmps) rec.assign rec.body) w := by
    rw [← hy]
    simp [execOp, resolve, e, e1, Deferred.ofValue, invoke]
  simp only [wpOpsIn, ho]
  rw [if_pos (hw a w st)]
  refine ⟨fun f _ => trivial, ?_⟩
  have hs' : Oper.semAt (Wd none).round a.eval ⟨d, .call ⟨.value x, xs, ats⟩, ty, pos, af, g⟩ = execOp a.eval ⟨d, .call ⟨.value x, xs, ats⟩, ty, pos, af, g⟩ := rfl
  rw [hs', h]
  refine ⟨(fun h => by cases h), RoundIn.mono (hr w st.hp) ?_⟩
  rintro e w' ⟨b, L', rfl, hp, hR⟩
  exact k b L' hR _ w' ⟨st.sl.putS hd _, hp⟩
end
end Go.X

/- Ranges over functions: a round, the statement, the way out. -/
namespace Go.X
open Go.RowKit
section
variable {c : Cx} {r : Option Nat} {ds : List Deferred} {Q : Post} {S S' : Slots} {L L' L1 Lr : List (Nat × Blk)} {ops : Array Oper} {X Y : Code} {K : Act → World → Prop} {t : Operand}
/-- The record of a loop. -/
abbrev lrec (st : LoopState) (pe : Option Code) (fn : FuncId) (tm : Array Value) (ps : Array Tmp) (as bo : Code) (D : Nat) : Blk := .obj (.loop ⟨st, pe, fn, tm, ps, as, bo, D⟩)
theorem lrec_is {st : LoopState} {pe : Option Code} {fn : FuncId} {tm : Array Value} {ps : Array Tmp} {as bo : Code} {D : Nat} : (lrec st pe fn tm ps as bo D).Is (some (.loop ⟨st, pe, fn, tm, ps, as, bo, D⟩)) :=
  ⟨(fun _ _ _ h => by cases h), rfl⟩
theorem HP.putO {w0 w : World} {O : List Nat} (h : HP w0 w O L) {b : Nat} {o o0 : Obj} (hu : Upd b (.obj o) L (.obj o0) L') (hne : ∀ c t f, o ≠ .cells c t f) : HP w0 (w.putObj b o) O L' :=
  h.upd hu rfl rfl rfl World.putObj_size (fun i hi => World.putObj_heap_other hi) ⟨hne, World.putObj_heap_same (h.lt hu.mem)⟩
/-- What is asked when the loop's variables are laid: the round begins. -/
def QA (c : Cx) (l : Nat) (bo : Code) (R : Ending → World → Prop) : Post :=
  Exit.then (fun a w => ∃ w2, (Instr.beginRound l).run c.P w = .ok () w2 ∧ bo.wpIn (Wd (some l)) 0 c.P (roundPost c.P l R) a w2) (fun _ _ _ => False)
theorem rd2 {l : Nat} {fn : FuncId} {tm : Array Value} {p1 p2 : Tmp} {as bo : Code} {D : Nat} {v1 v2 : Value} {R : Bool → List (Nat × Blk) → Prop} (hsl : Sl c.n ⟨tm, []⟩ S) (hd1 : Nat.blt p1 c.n = true) (hd2 : Nat.blt p2 c.n = true)
    (h : WI c (some l) [] as (QA c l bo fun e w' => ∃ b L', e = .returned (.bool b) ∧ HP c.w0 w' c.O L' ∧ R b L') ((p2, v2) :: (p1, v1) :: S) L) : Rd c l ⟨.ready, none, fn, tm, #[p1, p2], as, bo, D⟩ [v1, v2] L R := fun w hp => by
  refine roundIn_of_wpIn trivial ?_
  have := h _ w ⟨(hsl.put (blt_lt hd1) v1).put (blt_lt hd2) v2, hp⟩
  rw [adD_nil] at this
  have e : (#[p1, p2].zip [v1, v2].toArray).foldl (fun tmps (t, a) => tmps.setIfInBounds t a) tm = (tm.setIfInBounds p1 v1).setIfInBounds p2 v2 := by simp
  show as.wpIn (Wd (some l)) 0 c.P _ { tmps := (#[p1, p2].zip [v1, v2].toArray).foldl (fun tmps (t, a) => tmps.setIfInBounds t a) tm, defers := [] } w
  rw [e]
  exact this
theorem begins {l : Nat} {pe : Option Code} {fn : FuncId} {tm : Array Value} {ps : Array Tmp} {as bo : Code} {D : Nat} {R : Ending → World → Prop} (k : WI c (some l) [] bo (roundPost c.P l R) S L') (hu : Upd l (lrec .busy pe fn tm ps as bo D) L (lrec .ready pe fn tm ps as bo D) L' := by repeat (first | exact Upd.here _ _ | apply Upd.there)) :
    WIQ c [] (QA c l bo R) .normal S L := fun a w st => by
  have hh : w.heap[l]? = some (.loop ⟨.ready, pe, fn, tm, ps, as, bo, D⟩) := (st.hp.held _ hu.mem).2
  exact ⟨_, run_beginRound hh rfl, k a _ ⟨st.sl, st.hp.putO hu (fun _ _ _ h => by cases h)⟩⟩
theorem endsN {l : Nat} {pe : Option Code} {fn : FuncId} {tm : Array Value} {ps : Array Tmp} {as bo : Code} {D : Nat} {R : Bool → List (Nat × Blk) → Prop} (k : R true L') (hu : Upd l (lrec .ready none fn tm ps as bo D) L (lrec .busy pe fn tm ps as bo D) L' := by repeat (first | exact Upd.here _ _ | apply Upd.there)) :
    WIQ c [] (roundPost c.P l fun e w' => ∃ b L', e = .returned (.bool b) ∧ HP c.w0 w' c.O L' ∧ R b L') .normal S L := fun a w st => by
  have hh : w.heap[l]? = some (.loop ⟨.busy, pe, fn, tm, ps, as, bo, D⟩) := (st.hp.held _ hu.mem).2
  exact ⟨_, _, run_endRound none hh, true, L', rfl, st.hp.putO hu (fun _ _ _ h => by cases h), k⟩
abbrev mark (D : Nat) : List Deferred := [{ target := .collected D, args := #[] }]
abbrev dref (d : Option (List Deferred)) : Blk := .obj (.deferred d)
/-- What an iterator tells of its caller's loop when it has ended. -/
def Itd (c : Cx) (l D : Nat) (fn : FuncId) (tm : Array Value) (ps : Array Tmp) (as bo : Code) (R : Option Code → List (Nat × Blk) → Prop) : Ending → World → Prop := fun e w' =>
  ∃ v st pe L', e = .returned v ∧ st ≠ .busy ∧ HP c.w0 w' c.O ((l, lrec st pe fn tm ps as bo D) :: (D, dref (some [])) :: L') ∧ R pe L'
theorem WI.range {g : Operand} {ps : Array Tmp} {as bo : Code} {gf : Nat} {lb : List Value} {R : Option Code → List (Nat × Blk) → Prop} (hg : ev S g = some (.func (.func gf) #[] lb.toArray)) (hf : fnB c.P gf = true)
    (h : ∀ fn l D tm, Sl c.n ⟨tm, []⟩ S → ∀ w, HP c.w0 w c.O ((l, lrec .ready none fn tm ps as bo D) :: (D, dref (some [])) :: L) → Calls c.P gf (.func (.yield l) #[] #[] :: lb).toArray w (Itd c l D fn tm ps as bo R))
    (k1 : ∀ D L', R none L' → WIQ c (mark D) Q .normal S ((D, dref (some [])) :: L'))
    (k2 : ∀ D cd L', R (some cd) L' → WI c none (mark D) cd Q S ((D, dref (some [])) :: L')) : WI c none [] (.rangeFunc g ps as bo) Q S L := fun a w st => by
  rw [adD_nil]
  refine wpIn_rangeFunc ?_
  intro fn _
  have e1 := st.sl.ev hg
  have hp1 : HP c.w0 (w.alloc (.deferred (some []))) c.O ((w.heap.size, dref (some [])) :: L) := st.hp.alloc ⟨(fun _ _ _ h => by cases h), rfl⟩
  have hp2 := hp1.alloc (o := .loop ⟨.ready, none, fn, a.tmps, ps, as, bo, w.heap.size⟩) (k := lrec .ready none fn a.tmps ps as bo w.heap.size) lrec_is
  rw [World.size_alloc] at hp2
  have he := run_enterLoop_outer (P := c.P) (w := w) fn a.tmps ps as bo
  generalize ((w.alloc (.deferred (some []))).alloc (.loop ⟨.ready, none, fn, a.tmps, ps, as, bo, w.heap.size⟩)) = W1 at hp2 he
  have hsl : Sl c.n ⟨a.tmps, []⟩ S := ⟨st.sl.size, rfl, st.sl.get⟩
  refine ⟨w.heap.size + 1, mark w.heap.size, W1, { target := .fn (.func gf) lb.toArray, args := #[.func (.yield (w.heap.size + 1)) #[] #[]] }, W1, gf, (.func (.yield (w.heap.size + 1)) #[] #[] :: lb).toArray, W1, he, ?_, ?_, ?_, (fun h => by cases h), calls_Wd ((h fn _ _ _ hsl _ hp2).mono ?_)⟩
  · simp only [resolve, e1]
    simp [go_sem]
  · intro f' _; trivial
  · simp [invoke, go_sem, run_callFunc hf]
  · rintro e w' ⟨v, s, pe, L', rfl, hb, hp, hR⟩
    have hh : w'.heap[w.heap.size + 1]? = some (.loop ⟨s, pe, fn, a.tmps, ps, as, bo, w.heap.size⟩) := (hp.held _ List.mem_cons_self).2
    refine ⟨pe, _, run_endLoop hh hb, ?_⟩
    have hp3 : HP c.w0 (w'.putObj (w.heap.size + 1) (.loop ⟨.exhausted, pe, fn, a.tmps, ps, as, bo, w.heap.size⟩)) c.O ((w.heap.size, dref (some [])) :: L') :=
      (hp.putO (Upd.here _ _) (fun _ _ _ h => by cases h)).sub (List.sublist_cons_self _ _)
    have ea : ({ a with defers := mark w.heap.size ++ a.defers } : Act) = adD (mark w.heap.size) a := by
      unfold adD; rw [st.sl.defers]; rfl
    rw [ea]
    cases pe with
    | none => exact k1 _ _ hR a _ ⟨st.sl, hp3⟩
    | some cd => exact k2 _ _ _ hR a _ ⟨st.sl, hp3⟩
variable {fn : Func} {R : Ending → World → Prop} {r1 r2 : ResultVar} {v1 v2 : Value}
theorem WIQ.leave2 {D : Nat} (hr : fn.results = #[r1, r2]) (h1 : Res c S ((D, dref none) :: L) r1 v1) (h2 : Res c S ((D, dref none) :: L) r2 v2) (h : ∀ w, HP c.w0 w c.O L → R (.returned (.tuple #[v1, v2])) w) : WIQ c (mark D) (bodyPostM (Wd none) 0 c.P fn R) .ret S ((D, dref (some [])) :: L) := fun a w st => by
  show LeavesInM (Wd none) 0 c.P fn a.tmps R (a.defers ++ mark D) .returning w
  rw [st.sl.defers]
  have hh : w.heap[D]? = some (.deferred (some [])) := (st.hp.held _ List.mem_cons_self).2
  have st' : St c S ((D, dref none) :: L) a (w.putObj D (.deferred none)) := ⟨st.sl, st.hp.putO (Upd.here _ _) (fun _ _ _ h => by cases h)⟩
  have e1 := h1.run st'
  have e2 := h2.run st'
  exact ⟨by simp, .inl ⟨D, _, rfl, run_takeDeferred hh, _, by rw [run_results2 hr, e1, Result.andThen_ok, e2]; rfl, h _ (st'.hp.sub (List.sublist_cons_self _ _))⟩⟩
end
theorem calls_of_W0 {P : Program} {f : FuncId} {fn : Func} {x : Code} {args : List Value} {w0 w : World} {R : Ending → World → Prop} {n : Nat} {O : List Nat} {S : Slots} {L : List (Nat × Blk)}
    (hf : P.funcs[f]? = some fn) (hb : fn.body = some x) (hn : fn.ntmps = n) (hle : Nat.ble args.length n = true) (hS : slotsFrom 0 args = S) (hL : HP w0 w O L)
    (h : W ⟨P, n, w0, O⟩ x (bodyPost P fn R) S L) : Calls P f args.toArray w R := by
  refine calls_of_wp hf hb (h _ _ ⟨⟨?_, rfl, fun t v ht => ?_⟩, hL⟩)
  · have := Nat.le_of_ble_eq_true hle
    simp [hn]; omega
  · rw [← hS] at ht
    obtain ⟨_, h2⟩ := slotsFrom_get args 0 t v ht
    simp only [Nat.sub_zero] at h2
    have hlt : t < args.length := (List.getElem?_eq_some_iff.1 h2).1
    simp only [Array.getElem?_append, List.size_toArray, List.getElem?_toArray, hlt, if_true]
    exact h2
theorem calls_of_WM {P : Program} {f : FuncId} {fn : Func} {x : Code} {args : List Value} {w : World} {R : Ending → World → Prop} {n : Nat} {O : List Nat} {S : Slots} {L : List (Nat × Blk)}
    (hf : P.funcs[f]? = some fn) (hb : fn.body = some x) (hn : fn.ntmps = n) (hle : Nat.ble args.length n = true) (hS : slotsFrom 0 args = S) (hL : HP w w O L)
    (h : W ⟨P, n, w, O⟩ x (bodyPostM (Wd none) 0 P fn R) S L) : Calls P f args.toArray w R := by
  refine (callsIn_wide (n := 0)).1 (callsIn_of_wp_marks hf hb trivial ((wpIn_wide (n := 0)).2 (h _ _ ⟨⟨?_, rfl, fun t v ht => ?_⟩, hL⟩)))
  · have := Nat.le_of_ble_eq_true hle
    simp [hn]; omega
  · rw [← hS] at ht
    obtain ⟨_, h2⟩ := slotsFrom_get args 0 t v ht
    simp only [Nat.sub_zero] at h2
    have hlt : t < args.length := (List.getElem?_eq_some_iff.1 h2).1
    simp only [Array.getElem?_append, List.size_toArray, List.getElem?_toArray, hlt, if_true]
    exact h2
end Go.X

/- Rows that grow, in regions that draw; calls that change what a list of blocks holds. -/
namespace Go.X
open Go.RowKit
theorem HP.transP {w0 w w' : World} {O : List Nat} {L Lr M M0 : List (Nat × Blk)} (h : HP w0 w O L) (hp : L.Perm (M0 ++ Lr)) (h' : HP w w' (M0.map (·.1)) M) : HP w0 w' O (M ++ Lr) := by
  have hbs : ∀ b ∈ M0.map (·.1), b ∈ O ∨ w0.heap.size ≤ b := fun b hb => by
    obtain ⟨p, hpD, he⟩ := List.mem_map.1 hb
    have := h.own p (hp.symm.subset (List.mem_append_left _ hpD))
    rw [he] at this; exact this
  have hnd : ((M0 ++ Lr).map (·.1)).Nodup := (hp.map _).nodup_iff.1 h.nodup
  rw [List.map_append, List.nodup_append] at hnd
  have hsub : ∀ p ∈ Lr, p ∈ L := fun p hpL => hp.symm.subset (List.mem_append_right _ hpL)
  have hlt : ∀ p ∈ Lr, p.1 < w.heap.size := fun p hpL => h.lt (hsub p hpL)
  have hnb : ∀ p ∈ Lr, p.1 ∉ M0.map (·.1) := fun p hpL hm => hnd.2.2 _ hm _ (List.mem_map.2 ⟨p, hpL, rfl⟩) rfl
  refine ⟨h'.os.trans h.os, h'.tape.trans h.tape, h'.output.trans h.output, Nat.le_trans h.size h'.size, ?_, ?_, ?_, ?_⟩
  · intro b hb hO
    rw [h'.keep b (Nat.lt_of_lt_of_le hb h.size) (fun hm => by
      rcases hbs b hm with h1 | h1
      · exact hO h1
      · omega)]
    exact h.keep b hb hO
  · intro p hpm
    rcases List.mem_append.1 hpm with h1 | h1
    · exact h'.held p h1
    · rw [h'.keep p.1 (hlt p h1) (hnb p h1)]
      exact h.held p (hsub p h1)
  · intro p hpm
    rcases List.mem_append.1 hpm with h1 | h1
    · rcases h'.own p h1 with h2 | h2
      · exact hbs _ h2
      · exact .inr (Nat.le_trans h.size h2)
    · exact h.own p (hsub p h1)
  · rw [List.map_append, List.nodup_append]
    refine ⟨h'.nodup, hnd.2.1, fun a ha b hb e => ?_⟩
    subst e
    obtain ⟨p, hpM, rfl⟩ := List.mem_map.1 ha
    obtain ⟨q, hqL, he⟩ := List.mem_map.1 hb
    rcases h'.own p hpM with h2 | h2
    · exact hnb q hqL (he ▸ h2)
    · have := hlt q hqL
      omega
/-- The blocks M, taken out of L, leave R. -/
def PR (M L R : List (Nat × Blk)) : Prop := L.Perm (M ++ R)
theorem PR.nil {L : List (Nat × Blk)} : PR [] L L := .refl _
theorem PR.cons {b : Nat} {k : Blk} {M L L1 R : List (Nat × Blk)} (h : DelE b k L L1) (t : PR M L1 R) : PR ((b, k) :: M) L R := h.perm.trans (List.Perm.cons _ t)
theorem PR.seg {N M L L1 R : List (Nat × Blk)} (h : DelL N L L1) (t : PR M L1 R) : PR (N ++ M) L R := by
  unfold PR; rw [List.append_assoc]; exact h.perm.trans (List.Perm.append_left _ t)
theorem PR.last {N L R : List (Nat × Blk)} (h : DelL N L R) : PR N L R := h.perm
theorem pr {M L R : List (Nat × Blk)} (h : PR M L R := by repeat (first | exact PR.nil | apply PR.cons (by repeat (first | exact DelE.here rfl _ | apply DelE.there)) | exact PR.last dell | apply PR.seg dell)) : PR M L R := h
section
variable {c : Cx} {Q : Post} {S S1 : Slots} {L L1 L2 L' Lr Lx : List (Nat × Blk)} {ops : Array Oper} {d : Option Tmp} {t : Tmp} {ty T T' : TypeId} {pos : String} {af : Array Edge} {rest : List Oper} {op : Op} {x y : Operand} {i j : Nat} {p : Plan} {g' : Option (Nat × Bool)}
theorem E_appR {g : GR} {r : RowB} {A : Option Addr} {cap2 : Nat} (T1 E by' : Nat)
    (ht : slE c.P T E by' = true) (hx : ev S x = some (.slice (gA g.o) g.rs.length (gC g.o))) (hy : ev S y = some (.slice A 1 cap2)) (hD : DelL (gRL T1 E g) L L1) (hE : DelE r.b (r.blk T1).2 L1 L2) (hg : g.OK)
    (hr : r.l.length = r.n ∧ r.n ≤ r.cap ∧ ∀ x ∈ r.l, 0 ≤ x ∧ x ≤ 255) (hs : Sr c L 1 A 1 [r.v]) (hb : (g.rs.length + 1) * by' ≤ 140737488355328) (hl : g.rs.length + 1 ≤ 9223372036854775807) :
    Eff c S L (.call ⟨.builtin .append, #[x, y], #[T, T]⟩) ty fun v M => ∃ o', GR.OK ⟨o', g.rs ++ [r]⟩ ∧ v = .slice (gA o') (g.rs ++ [r]).length (gC o') ∧ M = L2 ++ gRL T1 E ⟨o', g.rs ++ [r]⟩ := fun a w st => by
  have hp1 : L.Perm (gL g.o g.rs.length (g.rs.map RowB.v) E ++ (g.rs.map (RowB.blk T1) ++ L1)) := by
    have := hD.perm; unfold gRL at this; rwa [List.append_assoc] at this
  have hs' : Sr c (gL g.o g.rs.length (g.rs.map RowB.v) E ++ (g.rs.map (RowB.blk T1) ++ L1)) 1 A 1 [r.v] := fun w hp => hs w (hp.perm hp1)
  obtain ⟨v, w', M, hrun, hp, o', h1, _, hv, hM⟩ := ((E_appG (Lr := g.rs.map (RowB.blk T1) ++ L1) E by' ht hx hy (by simp) hg.1 (.here _) hs' hb hl).perm hp1) a w st
  have hok : GR.OK ⟨o', g.rs ++ [r]⟩ := ⟨by simpa using h1, fun q hq => by
    rcases List.mem_append.1 hq with hq | hq
    · exact hg.2 q hq
    · rw [List.mem_singleton.1 hq]; exact hr⟩
  have hp2 : (g.rs.map (RowB.blk T1) ++ L1 ++ gL o' (g.rs.length + 1) (g.rs.map RowB.v ++ [r.v]) E).Perm (L2 ++ gRL T1 E ⟨o', g.rs ++ [r]⟩) := by
    have e1 : gRL T1 E ⟨o', g.rs ++ [r]⟩ = gL o' (g.rs.length + 1) (g.rs.map RowB.v ++ [r.v]) E ++ (g.rs.map (RowB.blk T1) ++ [r.blk T1]) := by
      unfold gRL; simp
    rw [e1]
    have e2 := hE.perm
    have e3 : (g.rs.map (RowB.blk T1) ++ L1).Perm (L2 ++ (g.rs.map (RowB.blk T1) ++ [r.blk T1])) := by
      refine (List.Perm.append_left _ e2).trans ?_
      refine List.perm_append_comm.trans ?_
      show (r.blk T1 :: L2 ++ g.rs.map (RowB.blk T1)).Perm _
      refine (List.perm_append_comm (l₁ := [r.blk T1]) (l₂ := L2 ++ g.rs.map (RowB.blk T1))).trans ?_
      rw [List.append_assoc]
    refine (List.Perm.append_right _ e3).trans ?_
    rw [List.append_assoc]
    exact List.Perm.append_left _ List.perm_append_comm
  subst hM
  refine ⟨v, w', _, hrun, hp.perm hp2.symm, o', hok, ?_, rfl⟩
  rw [hv, List.length_append, List.length_singleton]
theorem dapR {g : GR} {r : RowB} {A : Option Addr} {cap2 : Nat} (ho : ops[i]? = some ⟨some t, .call ⟨.builtin .append, #[x, y], #[T, T]⟩, ty, pos, af, g'⟩) (T1 E by' : Nat)
    (K : ∀ o', GR.OK ⟨o', g.rs ++ [r]⟩ → WD c ops Q Lr p ((t, .slice (gA o') (g.rs ++ [r]).length (gC o')) :: S) (L2 ++ gRL T1 E ⟨o', g.rs ++ [r]⟩))
    (hgd : Gd ops S g' := by exact trivial) (ht : slE c.P T E by' = true := by kernel_rfl) (hx : ev S x = some (.slice (gA g.o) g.rs.length (gC g.o)) := by exact rfl) (hy : ev S y = some (.slice A 1 cap2) := by exact rfl) (hD : DelL (gRL T1 E g) L L1 := by exact dell) (hE : DelE r.b (r.blk T1).2 L1 L2 := by repeat (first | exact DelE.here rfl _ | apply DelE.there)) (hg : g.OK := by assumption)
    (hr : r.l.length = r.n ∧ r.n ≤ r.cap ∧ ∀ x ∈ r.l, 0 ≤ x ∧ x ≤ 255)
    (hs : Sr c L 1 A 1 [r.v] := by intro w hp; exact sw) (hb : (g.rs.length + 1) * by' ≤ 140737488355328 := by omega) (hl : g.rs.length + 1 ≤ 9223372036854775807 := by omega) (hd : Nat.blt t c.n = true := by exact rfl) (hLr : Lr.Sublist L := by exact subl) (hm : ∀ p ∈ Lr, p ∈ L2 := by simp) : WO c ops Q Lr i p S L :=
  WO.effG (d := some t) ho hgd hd hLr (E_appR T1 E by' ht hx hy hD hE hg hr hs hb hl) fun v M ⟨o', h1, hv, hM⟩ => by
    subst hv; subst hM
    exact ⟨fun q hq => List.mem_append_left _ (hm q hq), K o' h1⟩
/-- A call that changes what a list of blocks holds. -/
theorem cgP {ι : Type} (M0 : List (Nat × Blk)) {f : FuncId} {xs : Array Operand} {ats : Array TypeId} {vs : List Value} {V : ι → Value} {M : ι → List (Nat × Blk)} {A : ι → Prop} (ha : evs S xs.toList = some vs)
    (hc : ∀ w, HP c.w0 w c.O L → Calls c.P f vs.toArray w fun e w' => ∃ r, A r ∧ e = .returned (V r) ∧ HP w w' (M0.map (·.1)) (M r)) (k : ∀ r, A r → WL c ops Q rest (putS d (V r) S) (M r ++ Lr))
    (hdel : PR M0 L Lr := by exact pr) (hf : fnB c.P f = true := by kernel_rfl) (hd : inB c.n d = true := by exact rfl) : WL c ops Q (⟨d, .call ⟨.value (.func f), xs, ats⟩, ty, pos, af, none⟩ :: rest) S L :=
  WL.cal hd (C_fn (R := fun u N => ∃ r, A r ∧ u = V r ∧ N = M r ++ Lr) hf ha fun w hp => (hc w hp).mono fun _ _ ⟨r, hr, he, hp'⟩ => ⟨V r, M r ++ Lr, he, hp.transP hdel hp', r, hr, rfl, rfl⟩) fun u N ⟨r, hr, h1, h2⟩ => by subst h1; subst h2; exact k r hr
end
section
variable {c : Cx} {Q : Post} {S : Slots} {L L' M : List (Nat × Blk)} {ops : Array Oper}
theorem take_drop {l : List Oper} {k : Nat} (hk : k < l.length) : l = l.take k ++ l[k] :: l.drop (k + 1) := by
  rw [← List.drop_eq_getElem_cons hk, List.take_append_drop]
/-- A region with a call of yield in it, at place k. -/
theorem W.splitAt {id : Nat} {l : List Oper} (k : Nat) (h : WL c l.toArray (QK [] fun a w => wpOpsIn (Wd none) 0 c.P l.toArray Q (k :: List.range' (k + 1) (l.length - (k + 1))) a w) (l.take k) S L) (hk : k < l.length := by decide)
    (hn : noDef l.toArray = true := by kernel_rfl) : W c (.region id l.toArray false) Q S L := by
  have e := take_drop hk
  have e1 : (l.take k).length = k := by rw [List.length_take]; omega
  have e2 : (l.drop (k + 1)).length = l.length - (k + 1) := List.length_drop
  have hn' : noDef (l.take k ++ l[k] :: l.drop (k + 1)).toArray = true := by rw [← e]; exact hn
  have := W.split (c := c) (Q := Q) (S := S) (L := L) (id := id) (l.take k) l[k] (l.drop (k + 1)) (by rw [← e, e1, e2]; exact h) hn'
  rwa [← e] at this
theorem WK.restAt {l : List Oper} (k : Nat) (h : WL c l.toArray (QK [] (Q .normal)) (l.drop (k + 1)) S L) (hk : k < l.length := by decide) (hn : noDef l.toArray = true := by kernel_rfl) : WK c l.toArray Q (List.range' (k + 1) (l.length - (k + 1))) S L := by
  have e := take_drop hk
  have e1 : (l.take k).length = k := by rw [List.length_take]; omega
  have e2 : (l.drop (k + 1)).length = l.length - (k + 1) := List.length_drop
  have hn' : noDef (l.take k ++ l[k] :: l.drop (k + 1)).toArray = true := by rw [← e]; exact hn
  have := WK.rest (c := c) (Q := Q) (S := S) (L := L) (l.take k) l[k] (l.drop (k + 1)) (by rw [← e]; exact h) hn'
  rwa [← e, e1, e2] at this
theorem Rd.cov {l : Nat} {rec : Loop} {vs : List Value} {R : Bool → List (Nat × Blk) → Prop} (h : Rd c l rec vs M R) (hc : Cov M L := by exact cov) : Rd c l rec vs L R := fun w hp => h w (hp.cov hc)
theorem wy {i : Nat} {rest : List Nat} {d : Option Tmp} {x : Operand} {xs : Array Operand} {ats : Array TypeId} {ty : TypeId} {pos : String} {af : Array Edge} {l : Nat} {rec : Loop} {vs : List Value} {R : Bool → List (Nat × Blk) → Prop}
    (hr : Rd c l rec vs L R) (k : ∀ b L', R b L' → WK c ops Q rest (putS d (.bool b) S) L') (hs : vs.length = rec.params.size := by rfl) (ho : ops[i]? = some ⟨d, .call ⟨.value x, xs, ats⟩, ty, pos, af, none⟩ := by rfl)
    (hx : ev S x = some (.func (.yield l) #[] #[]) := by exact rfl) (ha : evs S xs.toList = some vs := by exact rfl) (hl : (l, .obj (.loop rec)) ∈ L := by exact mm) (hd : inB c.n d = true := by exact rfl) : WK c ops Q (i :: rest) S L :=
  wy_core ho (fun _ _ _ => by simp [Region.wanted]) hx ha hl hs hd hr k
theorem wyG {i j : Nat} {t b' : Bool} {rest : List Nat} {d : Option Tmp} {x : Operand} {xs : Array Operand} {ats : Array TypeId} {ty : TypeId} {pos : String} {af : Array Edge} {l : Nat} {rec : Loop} {vs : List Value} {R : Bool → List (Nat × Blk) → Prop}
    (hr : Rd c l rec vs L R) (k : ∀ b L', R b L' → WK c ops Q rest (putS d (.bool b) S) L') (hg : guardOf ops S j = some (.bool b')) (ht : b' = t) (hs : vs.length = rec.params.size := by rfl) (ho : ops[i]? = some ⟨d, .call ⟨.value x, xs, ats⟩, ty, pos, af, some (j, t)⟩ := by rfl)
    (hx : ev S x = some (.func (.yield l) #[] #[]) := by exact rfl) (ha : evs S xs.toList = some vs := by exact rfl) (hl : (l, .obj (.loop rec)) ∈ L := by exact mm) (hd : inB c.n d = true := by exact rfl) : WK c ops Q (i :: rest) S L :=
  wy_core ho (fun a w st => by
    have := yielded_of st.sl hg
    subst ht
    cases b' <;> simp [Region.wanted, this]) hx ha hl hs hd hr k
end
end Go.X

/- Ranges over functions: more rules. -/
namespace Go.X
open Go.RowKit
section
variable {c : Cx} {r : Option Nat} {ds : List Deferred} {Q : Post} {S S' : Slots} {L L' M Lr : List (Nat × Blk)} {ops : Array Oper} {X Y : Code} {K : Act → World → Prop} {t : Operand}
theorem idr {id : Nat} (p : Plan) (Lr : List (Nat × Blk)) (h : WD c ops (QK ds (Q .normal)) Lr p S L) (hm : c.P.follows .mixedOrders = true := by kernel_rfl) (hB : planOK ops p = true := by kernel_rfl) (hs : Lr.Sublist L := by exact subl) (hn : noDef ops = true := by kernel_rfl) :
    WI c r ds (.region id ops true) Q S L := fun a w st => wpIn_region_draw fun t => by
  simp only [planOK, Bool.and_eq_true] at hB
  have hp : HP c.w0 { w with drawn := w.drawn + 1 } c.O L := st.hp.drew _
  have h1 := wpAny_sound (P := c.P) ops.size t _ _ _ (wpAny_of_held _ _ _ _ (plan_sound hB.1 QK_calm p _ _ a _ hB.2 (hp.sub hs) (h a _ ⟨st.sl, hp⟩)))
  simp only [Region.schedule, hm, Bool.true_or, if_true]
  have := bridge (r := r) (n := 0) (Q := Q) (il2 := []) hn QK_no (fun a w h => h) (fun _ _ _ h => h.elim) _ a _ h1
  rwa [List.append_nil] at this
theorem idone (h : WIQ c ds Q .normal S L) : WD c ops (QK ds (Q .normal)) Lr .done S L := WD.done h
theorem WI.cond_true {b : Bool} (hc : ev S t = some (.bool b)) (hb : b = true) (h1 : WI c r ds X Q S L) : WI c r ds (.cond t X Y) Q S L :=
  WI.cond hc (fun _ => h1) (fun e => by rw [hb] at e; cases e)
theorem WI.cond_false {b : Bool} (hc : ev S t = some (.bool b)) (hb : b = false) (h1 : WI c r ds Y Q S L) : WI c r ds (.cond t X Y) Q S L :=
  WI.cond hc (fun e => by rw [hb] at e; cases e) (fun _ => h1)
theorem WIQ.cov {e : Exit} (M : List (Nat × Blk)) (h : WIQ c ds Q e S M) (hc : Cov M L := by exact cov) : WIQ c ds Q e S L := fun a w st => h a w ⟨st.sl, st.hp.cov hc⟩
theorem WI.cov (M : List (Nat × Blk)) (h : WI c r ds X Q S M) (hc : Cov M L := by exact cov) : WI c r ds X Q S L := fun a w st => h a w ⟨st.sl, st.hp.cov hc⟩
/-- A round hangs on no number of slots. -/
theorem Rd.n {P : Program} {n n' : Nat} {w0 : World} {O : List Nat} {l : Nat} {rec : Loop} {vs : List Value} {R : Bool → List (Nat × Blk) → Prop} (h : Rd ⟨P, n, w0, O⟩ l rec vs L R) : Rd ⟨P, n', w0, O⟩ l rec vs L R := h
end
section
variable {c : Cx} {Q : Post} {S : Slots} {L Lr : List (Nat × Blk)} {ops : Array Oper} {t : Tmp} {ty T : TypeId} {pos : String} {af : Array Edge} {rest : List Oper} {x y : Operand}
end
end Go.X

/- A list of blocks moved to the end. -/
namespace Go.X
open Go.RowKit
section
variable {c : Cx} {Q : Post} {S : Slots} {L L1 Lr : List (Nat × Blk)} {ops : Array Oper} {l : List Oper} {p : Plan} {x : Code}
theorem WL.back (N : List (Nat × Blk)) (k : WL c ops Q l S (L1 ++ N)) (h : DelL N L L1 := by exact dell) : WL c ops Q l S L := fun a w st => k a w ⟨st.sl, st.hp.perm (List.perm_append_comm.trans h.perm.symm)⟩
theorem WD.back (N : List (Nat × Blk)) (k : WD c ops Q Lr p S (L1 ++ N)) (h : DelL N L L1 := by exact dell) : WD c ops Q Lr p S L := fun a w st => k a w ⟨st.sl, st.hp.perm (List.perm_append_comm.trans h.perm.symm)⟩
theorem W.back (N : List (Nat × Blk)) (k : W c x Q S (L1 ++ N)) (h : DelL N L L1 := by exact dell) : W c x Q S L := fun a w st => k a w ⟨st.sl, st.hp.perm (List.perm_append_comm.trans h.perm.symm)⟩
end
end Go.X

/- Maps of integers to values of a kind. -/
namespace Go.X
open Go.RowKit
abbrev KEnt (α : Type) := Int × α × Nat
def gE {α : Type} (f : α → Value) (e : KEnt α) : Ent := (e.1, f e.2.1, e.2.2)
def kget {α : Type} : List (KEnt α) → Int → Option α
  | [], _ => none
  | e :: m, i => if e.1 = i then some e.2.1 else kget m i
def kput {α : Type} : List (KEnt α) → Nat → Int → α → List (KEnt α)
  | [], ck, i, s => [(i, s, ck)]
  | e :: m, ck, i, s => if e.1 = i then (e.1, s, e.2.2) :: m else e :: kput m ck i s
def kck {α : Type} (m : List (KEnt α)) (ck : Nat) (i : Int) : Nat := if (kget m i).isSome then ck else ck + 1
theorem kget_cons {α : Type} {e : KEnt α} {m : List (KEnt α)} {i : Int} : kget (e :: m) i = if e.1 = i then some e.2.1 else kget m i := rfl
theorem kput_cons {α : Type} {e : KEnt α} {m : List (KEnt α)} {ck : Nat} {i : Int} {s : α} : kput (e :: m) ck i s = if e.1 = i then (e.1, s, e.2.2) :: m else e :: kput m ck i s := rfl
theorem mget_gE {α : Type} {f : α → Value} {i : Int} : ∀ {m : List (KEnt α)}, mget (m.map (gE f)) i = (kget m i).map f
  | [] => rfl
  | e :: m => by
    rw [List.map_cons, mget_cons, mget_gE, kget_cons]
    by_cases h : e.1 = i
    · rw [if_pos h, if_pos (show (gE f e).1 = i from h)]; rfl
    · rw [if_neg h, if_neg (show ¬ (gE f e).1 = i from h)]
theorem mput_gE {α : Type} {f : α → Value} {ck : Nat} {i : Int} {s : α} : ∀ {m : List (KEnt α)}, mput (m.map (gE f)) ck i (f s) = (kput m ck i s).map (gE f)
  | [] => rfl
  | e :: m => by
    rw [List.map_cons, mput_cons, mput_gE, kput_cons]
    by_cases h : e.1 = i
    · rw [if_pos h, if_pos (show (gE f e).1 = i from h)]; rfl
    · rw [if_neg h, if_neg (show ¬ (gE f e).1 = i from h)]; rfl
theorem mfind_get {x : Int} {m : List Ent} : (mfind m x 0).isSome = (mget m x).isSome := by
  unfold mget; cases mfind m x 0 <;> rfl
theorem mclk_gE {α : Type} {f : α → Value} {ck : Nat} {i : Int} {m : List (KEnt α)} : mclk (m.map (gE f)) ck i = kck m ck i := by
  have h : (mfind (m.map (gE f)) i 0).isSome = (kget m i).isSome := by rw [mfind_get, mget_gE]; cases kget m i <;> rfl
  unfold mclk kck
  cases hq : mfind (m.map (gE f)) i 0 <;> rw [hq] at h <;> rw [← h] <;> rfl
theorem kget_put {α : Type} {i j : Int} {s : α} {ck : Nat} : ∀ {m : List (KEnt α)}, kget (kput m ck i s) j = if i = j then some s else kget m j
  | [] => by simp [kput, kget]
  | e :: m => by
    unfold kput
    by_cases h : e.1 = i
    · rw [if_pos h]; unfold kget
      by_cases h2 : e.1 = j
      · rw [if_pos h2, if_pos (by omega)]
      · rw [if_neg h2, if_neg h2, if_neg (by omega)]
    · rw [if_neg h]; unfold kget
      rw [kget_put]
      by_cases h2 : e.1 = j
      · rw [if_pos h2, if_pos h2, if_neg (by omega)]
      · rw [if_neg h2, if_neg h2]
theorem kget_mem {α : Type} {i : Int} {s : α} : ∀ {m : List (KEnt α)}, kget m i = some s → ∃ n, (i, s, n) ∈ m
  | [], h => by cases h
  | e :: m, h => by
    unfold kget at h
    split at h
    · rename_i he; cases h; exact ⟨e.2.2, by rw [← he]; exact List.mem_cons_self⟩
    · obtain ⟨n, hn⟩ := kget_mem h; exact ⟨n, List.mem_cons_of_mem _ hn⟩
theorem kget_none {α : Type} {i : Int} : ∀ {m : List (KEnt α)}, kget m i = none → ∀ e ∈ m, e.1 ≠ i
  | [], _, e, he => by cases he
  | a :: m, h, e, he => by
    unfold kget at h
    split at h
    · cases h
    · rename_i hn
      rcases List.mem_cons.1 he with rfl | he
      · exact hn
      · exact kget_none h e he
theorem kput_mem {α : Type} {i : Int} {s : α} {ck : Nat} : ∀ {m : List (KEnt α)} {e : KEnt α}, e ∈ kput m ck i s → e ∈ m ∨ (e.1 = i ∧ e.2.1 = s ∧ (e.2.2 = ck ∨ ∃ e' ∈ m, e'.2.2 = e.2.2))
  | [], e, h => by
    rw [List.mem_singleton.1 h]; exact .inr ⟨rfl, rfl, .inl rfl⟩
  | a :: m, e, h => by
    unfold kput at h
    split at h
    · rename_i ha
      rcases List.mem_cons.1 h with rfl | h
      · exact .inr ⟨ha, rfl, .inr ⟨a, List.mem_cons_self, rfl⟩⟩
      · exact .inl (List.mem_cons_of_mem _ h)
    · rcases List.mem_cons.1 h with rfl | h
      · exact .inl List.mem_cons_self
      · rcases kput_mem h with h | ⟨h1, h2, h3⟩
        · exact .inl (List.mem_cons_of_mem _ h)
        · refine .inr ⟨h1, h2, h3.imp id ?_⟩
          rintro ⟨e', he', h4⟩; exact ⟨e', List.mem_cons_of_mem _ he', h4⟩
theorem kput_keys {α : Type} {i : Int} {s : α} {ck : Nat} : ∀ {m : List (KEnt α)}, (kput m ck i s).map (·.1) = if (kget m i).isSome then m.map (·.1) else m.map (·.1) ++ [i]
  | [] => rfl
  | a :: m => by
    unfold kput kget
    by_cases h : a.1 = i
    · simp [h]
    · rw [if_neg h, if_neg h, List.map_cons, kput_keys]
      split <;> simp
theorem kput_born {α : Type} {i : Int} {s : α} {ck : Nat} : ∀ {m : List (KEnt α)}, (kput m ck i s).map (·.2.2) = if (kget m i).isSome then m.map (·.2.2) else m.map (·.2.2) ++ [ck]
  | [] => rfl
  | a :: m => by
    unfold kput kget
    by_cases h : a.1 = i
    · simp [h]
    · rw [if_neg h, if_neg h, List.map_cons, kput_born]
      split <;> simp
theorem kput_len {α : Type} {m : List (KEnt α)} {ck : Nat} {i : Int} {s : α} : (kput m ck i s).length = if (kget m i).isSome then m.length else m.length + 1 := by
  have := congrArg List.length (kput_keys (m := m) (ck := ck) (i := i) (s := s))
  rw [List.length_map] at this
  rw [this]; split <;> simp
/-- A map as it may be. -/
structure KOK {α : Type} (m : List (KEnt α)) (ck : Nat) : Prop where
  keys : (m.map (·.1)).Nodup
  borns : (m.map (·.2.2)).Nodup
  old : ∀ e ∈ m, e.2.2 < ck
theorem KOK.nil {α : Type} {ck : Nat} : KOK ([] : List (KEnt α)) ck := ⟨List.nodup_nil, List.nodup_nil, fun e h => by cases h⟩
theorem KOK.put {α : Type} {m : List (KEnt α)} {ck : Nat} {i : Int} {s : α} (h : KOK m ck) : KOK (kput m ck i s) (kck m ck i) := by
  refine ⟨?_, ?_, fun e he => ?_⟩
  · rw [kput_keys]; split
    · exact h.keys
    · rename_i hn
      refine List.nodup_append.2 ⟨h.keys, by simp, fun a ha b hb => ?_⟩
      rw [List.mem_singleton.1 hb]
      obtain ⟨e, he, rfl⟩ := List.mem_map.1 ha
      exact kget_none (by simpa using hn) e he
  · rw [kput_born]; split
    · exact h.borns
    · refine List.nodup_append.2 ⟨h.borns, by simp, fun a ha b hb => ?_⟩
      rw [List.mem_singleton.1 hb]
      obtain ⟨e, he, rfl⟩ := List.mem_map.1 ha
      exact Nat.ne_of_lt (h.old e he)
  · unfold kck
    rcases kput_mem he with he | ⟨h1, h2, h3⟩
    · have := h.old e he
      split <;> omega
    · split
      · rename_i hs
        rcases h3 with h3 | ⟨e', he', h4⟩
        · have hb : e.2.2 ∈ (kput m ck i s).map (·.2.2) := List.mem_map.2 ⟨e, he, rfl⟩
          rw [kput_born, if_pos hs] at hb
          obtain ⟨e', he', h4⟩ := List.mem_map.1 hb
          rw [← h4]; exact h.old e' he'
        · rw [← h4]; exact h.old e' he'
      · rcases h3 with h3 | ⟨e', he', h4⟩
        · omega
        · have := h.old e' he'; omega
theorem seenK_push {α : Type} {f : α → Value} {dn : List (KEnt α)} {e : KEnt α} : ((dn.map (·.2.2)).toArray.push (gE f e).2.2) = ((dn ++ [e]).map (·.2.2)).toArray := by simp [gE]
theorem filter_less {α : Type} {p q : α → Bool} : ∀ {m : List α} {e : α}, (∀ x, q x = true → p x = true) → e ∈ m → p e = true → q e = false → (m.filter q).length < (m.filter p).length
  | a :: m, e, h, he, hp, hq => by
    have hle : ∀ l : List α, (l.filter q).length ≤ (l.filter p).length := fun l => by
      induction l with
      | nil => simp
      | cons b l ih =>
        by_cases hb : q b = true
        · rw [List.filter_cons_of_pos hb, List.filter_cons_of_pos (h b hb)]; simpa using ih
        · rw [List.filter_cons_of_neg hb]
          by_cases hb2 : p b = true
          · rw [List.filter_cons_of_pos hb2]; simp; omega
          · rw [List.filter_cons_of_neg hb2]; exact ih
    rcases List.mem_cons.1 he with rfl | he
    · rw [List.filter_cons_of_pos hp, List.filter_cons_of_neg (by simp [hq])]
      have := hle m
      simp; omega
    · have ih := filter_less h he hp hq
      by_cases hb : q a = true
      · rw [List.filter_cons_of_pos hb, List.filter_cons_of_pos (h a hb)]; simpa using ih
      · rw [List.filter_cons_of_neg hb]
        by_cases hb2 : p a = true
        · rw [List.filter_cons_of_pos hb2]; simp; omega
        · rw [List.filter_cons_of_neg hb2]; exact ih
/-- How many entries have not come yet. -/
def leftK {α : Type} (m dn : List (KEnt α)) : Nat := (m.filter fun e => !((dn.map (·.2.2)).toArray.contains e.2.2)).length
theorem leftK_less {α : Type} {m dn : List (KEnt α)} {e : KEnt α} (he : e ∈ m) (hs : (dn.map (·.2.2)).toArray.contains e.2.2 = false) : leftK m (dn ++ [e]) < leftK m dn := by
  unfold leftK
  refine filter_less (e := e) (fun x hx => ?_) he (by rw [hs]; rfl) (by simp)
  simp only [Bool.not_eq_true', List.contains_toArray] at hx ⊢
  simp at hx ⊢
  exact hx.1
theorem allK_seen {α : Type} {f : α → Value} {m dn : List (KEnt α)} (hb : (m.map (·.2.2)).Nodup) (h1 : ∀ e ∈ dn, e ∈ m) (h : ∀ e ∈ m.map (gE f), (dn.map (·.2.2)).toArray.contains e.2.2 = true) : ∀ e ∈ m, e ∈ dn := fun e he => by
  have := h (gE f e) (List.mem_map.2 ⟨e, he, rfl⟩)
  simp only [List.contains_toArray, List.contains_iff_mem] at this
  obtain ⟨e', he', hq⟩ := List.mem_map.1 this
  have hq2 : e'.2.2 = e.2.2 := hq
  have heq : e' = e := by
    have key : ∀ {m : List (KEnt α)}, (m.map (·.2.2)).Nodup → ∀ a ∈ m, ∀ b ∈ m, a.2.2 = b.2.2 → a = b := by
      intro m
      induction m with
      | nil => intro _ a ha; cases ha
      | cons x m ih =>
        intro hn a ha b hb hab
        simp only [List.map_cons, List.nodup_cons] at hn
        rcases List.mem_cons.1 ha with h1 | h1 <;> rcases List.mem_cons.1 hb with h2 | h2
        · rw [h1, h2]
        · rw [h1] at hab; exact (hn.1 (List.mem_map.2 ⟨b, h2, hab.symm⟩)).elim
        · rw [h2] at hab; exact (hn.1 (List.mem_map.2 ⟨a, h1, hab⟩)).elim
        · exact ih hn.2 a h1 b h2 hab
    exact key hb e' (h1 e' he') e he hq2
  rwa [← heq]
theorem perm_of {α : Type} : ∀ {l m : List α}, l.Nodup → m.Nodup → (∀ x, x ∈ l ↔ x ∈ m) → l.Perm m
  | [], m, _, _, h => by
    cases m with
    | nil => exact .refl _
    | cons a m => exact absurd ((h a).2 List.mem_cons_self) (by simp)
  | a :: l, m, hl, hm, h => by
    obtain ⟨s, t, rfl⟩ := List.append_of_mem ((h a).1 List.mem_cons_self)
    have hl' := List.nodup_cons.1 hl
    have hm' := List.nodup_cons.1 ((List.perm_middle).nodup_iff.1 hm)
    refine (List.Perm.cons a (perm_of hl'.2 hm'.2 fun x => ?_)).trans List.perm_middle.symm
    have hx := h x
    constructor
    · intro hxl
      have hxa : x ≠ a := fun e => hl'.1 (e ▸ hxl)
      have := hx.1 (List.mem_cons_of_mem _ hxl)
      rcases List.mem_append.1 this with h1 | h1
      · exact List.mem_append_left _ h1
      · rcases List.mem_cons.1 h1 with h1 | h1
        · exact absurd h1 hxa
        · exact List.mem_append_right _ h1
    · intro hxm
      have hxa : x ≠ a := fun e => hm'.1 (e ▸ hxm)
      have : x ∈ s ++ a :: t := by
        rcases List.mem_append.1 hxm with h1 | h1
        · exact List.mem_append_left _ h1
        · exact List.mem_append_right _ (List.mem_cons_of_mem _ h1)
      rcases List.mem_cons.1 (hx.2 this) with h1 | h1
      · exact absurd h1 hxa
      · exact h1
theorem nodup_map_of {α β : Type} {f : α → β} : ∀ {l : List α}, (l.map f).Nodup → l.Nodup
  | [], _ => List.nodup_nil
  | a :: l, h => by
    rw [List.map_cons, List.nodup_cons] at h
    exact List.nodup_cons.2 ⟨fun ha => h.1 (List.mem_map.2 ⟨a, ha, rfl⟩), nodup_map_of h.2⟩
/-- All were seen, each once. -/
theorem seen_perm {α : Type} {m dn : List (KEnt α)} (hm : (m.map (·.2.2)).Nodup) (hd : (dn.map (·.2.2)).Nodup) (h1 : ∀ e ∈ dn, e ∈ m) (h2 : ∀ e ∈ m, e ∈ dn) : dn.Perm m :=
  perm_of (nodup_map_of hd) (nodup_map_of hm) fun x => ⟨h1 x, h2 x⟩
theorem seen_nodup {α : Type} {dn : List (KEnt α)} {e : KEnt α} (hd : (dn.map (·.2.2)).Nodup) (hs : (dn.map (·.2.2)).toArray.contains e.2.2 = false) : ((dn ++ [e]).map (·.2.2)).Nodup := by
  rw [List.map_append]
  refine List.nodup_append.2 ⟨hd, by simp, fun a ha b hb => ?_⟩
  rw [List.map_singleton, List.mem_singleton] at hb
  rintro rfl
  subst hb
  rw [List.contains_toArray] at hs
  rw [List.contains_iff_mem.2 ha] at hs; cases hs
end Go.X

/- Maps: how many; what is at a key, without ok. -/
namespace Go.X
open Go.RowKit
section
variable {c : Cx} {S : Slots} {L : List (Nat × Blk)} {ty T T' : TypeId} {x y : Operand} {v : Value}
theorem vlenM {b : Nat} {k : IntKind} {m : List Ent} {ck : Nat} {xs : Array Operand} {t : TypeId} (ht : (mapT c.P t k).isSome = true := by kernel_rfl) (ha : evs S xs.toList = some [.map (some b)] := by exact rfl) (hb : (b, Blk.obj (mapO k m ck)) ∈ L := by exact mm) : Val c S L (.call ⟨.builtin .len, xs, #[t]⟩) ty (.int .i64 (m.length : Nat)) := fun a w st =>
  run_builtin st ha fun cs => by
    obtain ⟨e, he⟩ := Option.isSome_iff_exists.1 ht
    obtain ⟨kt, hu, hk⟩ := mapT_open he
    have hh : w.heap[b]? = some (.map (entL k m).toArray ck) := obj_at hb st
    have hg := Go.MapKept.run_getObj_map (P := c.P) hh
    simp [builtin, Builtin.len_, run_underlying hu, goInt, hg, entL]
theorem vlkZ {b : Nat} {k : IntKind} {q : Int} {m : List Ent} {clock : Nat} (e : TypeId) (zv v : Value) (hm : (mget m q).getD zv = v) (hx : ev S x = some (.map (some b)) := by exact rfl) (hy : ev S y = some (.int k q) := by exact rfl) (hb : (b, Blk.obj (mapO k m clock)) ∈ L := by exact mm) (ht : mapT c.P T k = some e := by kernel_rfl) (hz : (c.P.info? e).bind (·.zero) = some zv := by kernel_rfl) : Val c S L (.lookup T x y false) ty v := by
  subst hm; exact V_lookup1 zv hx hy hb ht hz
end
end Go.X

/- Slices of structures that grow. -/
namespace Go.X
open Go.RowKit
/-- t is a slice of e, whose elements have s cells. -/
def slM (P : Program) (t e s by' : Nat) : Bool := match P.underlying t, P.info? e with
  | some (.slice e'), some i => e' == e && i.size == s && i.bytes == by' && (match i.zero with | some z => z.cells.size == s | none => false)
  | _, _ => false
theorem slM_open {P : Program} {t e s by' : Nat} (h : slM P t e s by' = true) : P.underlying t = some (.slice e) ∧ ∃ i z, P.info? e = some i ∧ i.size = s ∧ i.bytes = by' ∧ i.zero = some z ∧ z.cells.size = s := by
  unfold slM at h
  split at h <;> try (cases h; done)
  rename_i e' i hu hi
  simp only [Bool.and_eq_true, beq_iff_eq] at h
  obtain ⟨⟨⟨rfl, h1⟩, h2⟩, h3⟩ := h
  split at h3 <;> try (cases h3; done)
  rename_i z hz
  exact ⟨hu, i, z, hi, h1, h2, hz, by simpa using h3⟩
def gLM (s : Nat) (o : Gr) (n : Nat) (xs : List Value) (e : TypeId) : List (Nat × Blk) := match o with
  | none => []
  | some (b, cap, rs) => [(b, .cells [(n * s, xs), ((cap - n) * s, rs)] e)]
section
variable {c : Cx} {Q : Post} {S : Slots} {L L' Lr : List (Nat × Blk)} {ops : Array Oper} {t : Tmp} {ty T : TypeId} {pos : String} {af : Array Edge} {rest : List Oper} {x y : Operand} {w0 w : World} {O : List Nat}
theorem SrW.mul {s n : Nat} {A : Option Addr} {xs : List Value} (h : SrW w 1 A (n * s) xs) : SrW w s A n xs := ⟨by have := h.1; omega, h.2⟩
theorem HP.sgrM {o : Gr} {s n : Nat} {xs : List Value} {e : TypeId} (hp : HP w0 w O L) (hd : DelL (gLM s o n xs e) L L') (hn : xs.length = n * s) (ho : GrOK o n) (h1 : ∀ v ∈ xs, one v = true) : SrW w s (gA o) n xs := by
  have hp2 := hp.perm hd.perm.symm
  cases o with
  | none =>
    have hn0 : n = 0 := ho
    subst hn0
    have : xs = [] := List.length_eq_zero_iff.1 (by rw [hn]; simp)
    subst this; exact SrW.nil
  | some q => exact (hp2.sown (b := q.1) (List.mem_append_left _ List.mem_cons_self) h1).mul
theorem E_appendM {s n m cap cap2 b : Nat} {xs rest ys : List Value} {A : Option Addr} (e by' : Nat) (ht : slM c.P T e s by' = true) (hx : ev S x = some (.slice (some ⟨b, 0, none⟩) n cap)) (hy : ev S y = some (.slice A m cap2)) (h0s : 0 < s)
    (hn : n ≤ cap) (hD : Del b (.cells [(n * s, xs), ((cap - n) * s, rest)] e) L Lr) (hs : Sr c L s A m ys) (hb : (n + m) * by' ≤ 140737488355328) (hl : n + m ≤ 9223372036854775807) :
    Eff c S L (.call ⟨.builtin .append, #[x, y], #[T, T]⟩) ty fun v M => ∃ b' cap' rest', n + m ≤ cap' ∧ v = .slice (some ⟨b', 0, none⟩) (n + m) cap' ∧ M = (b', .cells [((n + m) * s, xs ++ ys), ((cap' - (n + m)) * s, rest')] e) :: Lr := fun a w st => by
  obtain ⟨hu, i, z, hi, h1, h2, hz, h3⟩ := slM_open ht
  obtain ⟨hf, hh⟩ := st.hp.held _ hD.mem
  obtain ⟨hxl, hf2⟩ := hf.cons
  obtain ⟨hrl, _⟩ := hf2.cons
  have hw := hs w st.hp
  have hyl : ys.length = m * s := hw.1
  have ha : evs S (#[x, y] : Array Operand).toList = some [.slice (some ⟨b, 0, none⟩) n cap, .slice A m cap2] := by simp [evs, hx, hy]
  have hflat : flat [(n * s, xs), ((cap - n) * s, rest)] = xs ++ rest := by simp [flat]
  rw [hflat] at hh
  have hcs : n * s ≤ cap * s := Nat.mul_le_mul_right _ hn
  have hsub : (cap - n) * s = cap * s - n * s := Nat.sub_mul ..
  have hadd0 : (n + m) * s = n * s + m * s := Nat.add_mul ..
  by_cases hg : n + m ≤ cap
  · have hgs : (n + m) * s ≤ cap * s := Nat.mul_le_mul_right _ hg
    have hst := run_storeCells (P := c.P) (n * s) ys 0 (xs ++ rest) w hh hw.2.1 (by rw [List.length_append]; omega)
    obtain ⟨w', e', p1, p2, p3, p4, p5, p6⟩ := hst
    have hsub2 : (cap - (n + m)) * s = cap * s - (n + m) * s := Nat.sub_mul ..
    refine ⟨.slice (some ⟨b, 0, none⟩) (n + m) cap, w', _, .inl (run_builtin st ha fun cs => ?_), ?_, b, cap, rest.drop (m * s), hg, rfl, rfl⟩
    · have hfc := hw.first (P := c.P) (a := m) (b := cap2)
      have hadd : ({ block := b, off := 0 } : Addr).add (n * s) = ⟨b, n * s, none⟩ := by rw [add_none]; simp
      simp [builtin, Builtin.append_, run_underlying hu, sizeOf, typeInfo, hi, h1, Builtin.lenOf, hg, hfc, hadd, e']
    · refine HP.front hD fun A' B' hL _ => ?_
      subst hL
      refine st.hp.upd (Upd.mid A' B') p1 p2 p3 p4 p5 ⟨Fit.mk (by rw [List.length_append]; omega) (Fit.mk (by rw [List.length_drop]; omega) Fit.nil), ?_⟩
      rw [p6]
      congr 2
      simp only [flat, List.flatMap_cons, List.flatMap_nil, List.append_nil, Nat.add_zero]
      rw [List.take_append_of_le_length (by omega), List.take_of_length_le (by omega), List.drop_append, List.drop_eq_nil_of_le (by omega)]
      simp [hxl, hyl]
  · have h0 : 0 < ys.length := by rw [hyl]; exact Nat.mul_pos (by omega) h0s
    obtain ⟨b2, o2, hA⟩ := hw.has h0
    subst hA
    have hr := run_append_grow (P := c.P) w T ty e i z hu hi hz ⟨b, 0, none⟩ n cap xs (by rw [h1]; omega) (fun j v hv => by
        rw [add_none, Nat.zero_add, cell_of_heap hh, List.getElem?_append_left (List.getElem?_eq_some_iff.1 hv).1]; exact hv)
      ⟨b2, o2, none⟩ m cap2 ys (by rw [h1]; omega) (fun j v hv => by
        obtain ⟨b3, o3, e3, hc⟩ := hw.2.2 j v hv
        injection e3 with e3; injection e3 with e4 e5; subst e4; subst e5
        rw [add_none]; exact hc) (by omega) (by omega) (growslice_fits (by omega) (by rw [h2]; exact hb))
    have hge := grownCap_ge w (n + m) cap e
    refine ⟨_, w.drew.alloc (.cells (xs.toArray ++ ys.toArray ++ Builtin.zeroCells z.cells (grownCap w (n + m) cap e - (n + m))) e), _, .inl (run_builtin st ha fun cs => ?_), ?_, w.heap.size, grownCap w (n + m) cap e, (Builtin.zeroCells z.cells (grownCap w (n + m) cap e - (n + m))).toList, hge, rfl, rfl⟩
    · simp [builtin, hr]
    · refine ((st.hp.sub hD.sub).drew _).alloc ⟨Fit.mk (by rw [List.length_append]; omega) (Fit.mk (by simp [size_zeroCells, h3, Nat.mul_comm]) Fit.nil), ?_⟩
      simp [flat]
theorem E_appendMN {s m cap2 : Nat} {ys : List Value} {A : Option Addr} (e by' : Nat) (ht : slM c.P T e s by' = true) (hx : ev S x = some (.slice none 0 0)) (hy : ev S y = some (.slice A m cap2)) (h0s : 0 < s)
    (hs : Sr c L s A m ys) (h0 : 0 < m) (hb : m * by' ≤ 140737488355328) (hl : m ≤ 9223372036854775807) :
    Eff c S L (.call ⟨.builtin .append, #[x, y], #[T, T]⟩) ty fun v M => ∃ b' cap' rest', m ≤ cap' ∧ v = .slice (some ⟨b', 0, none⟩) m cap' ∧ M = (b', .cells [(m * s, ys), ((cap' - m) * s, rest')] e) :: L := fun a w st => by
  obtain ⟨hu, i, z, hi, h1, h2, hz, h3⟩ := slM_open ht
  have hw := hs w st.hp
  have hyl : ys.length = m * s := hw.1
  have ha : evs S (#[x, y] : Array Operand).toList = some [.slice none 0 0, .slice A m cap2] := by simp [evs, hx, hy]
  obtain ⟨b2, o2, hA⟩ := hw.has (by rw [hyl]; exact Nat.mul_pos h0 h0s)
  subst hA
  have hr := run_append_nil (P := c.P) w T ty e i z hu hi hz ⟨b2, o2, none⟩ m cap2 ys (by rw [h1]; omega) (fun j v hv => by
        obtain ⟨b3, o3, e3, hc⟩ := hw.2.2 j v hv
        injection e3 with e3; injection e3 with e4 e5; subst e4; subst e5
        rw [add_none]; exact hc) h0 (by omega) (by rw [h2]; omega)
  have hge := grownCap_ge w m 0 e
  refine ⟨_, w.drew.alloc (.cells (ys.toArray ++ Builtin.zeroCells z.cells (grownCap w m 0 e - m)) e), _, .inl (run_builtin st ha fun cs => ?_), ?_, w.heap.size, grownCap w m 0 e, (Builtin.zeroCells z.cells (grownCap w m 0 e - m)).toList, hge, rfl, rfl⟩
  · simp [builtin, hr]
  · refine (st.hp.drew _).alloc ⟨Fit.mk (by omega) (Fit.mk (by simp [size_zeroCells, h3, Nat.mul_comm]) Fit.nil), ?_⟩
    simp [flat]
theorem E_appM {o : Gr} {s n m cap2 : Nat} {xs ys : List Value} {A : Option Addr} (e by' : Nat) (ht : slM c.P T e s by' = true) (h0s : 0 < s) (hx : ev S x = some (.slice (gA o) n (gC o))) (hy : ev S y = some (.slice A m cap2)) (hn : xs.length = n * s) (ho : GrOK o n) (hD : DelL (gLM s o n xs e) L Lr)
    (hs : Sr c L s A m ys) (hb : (n + m) * by' ≤ 140737488355328) (hl : n + m ≤ 9223372036854775807) (h0 : 0 < m) :
    Eff c S L (.call ⟨.builtin .append, #[x, y], #[T, T]⟩) ty fun v M => ∃ o', GrOK o' (n + m) ∧ o' ≠ none ∧ v = .slice (gA o') (n + m) (gC o') ∧ M = Lr ++ gLM s o' (n + m) (xs ++ ys) e := by
  have hpm := hD.perm
  cases o with
  | none =>
    have hn0 : n = 0 := ho
    subst hn0
    have hx0 : xs = [] := List.length_eq_zero_iff.1 (by rw [hn]; simp)
    subst hx0
    intro a w st
    refine (Eff.post (E_appendMN (c := c) (S := S) (L := L) (ty := ty) e by' ht hx hy h0s hs h0 (by simpa using hb) (by omega)) fun v M ⟨b', cap', rs', h1, h2, h3⟩ => ?_) a w st
    subst h2; subst h3
    refine ⟨Lr ++ gLM s (some (b', cap', rs')) (0 + m) ([] ++ ys) e, ?_, some (b', cap', rs'), by simpa [GrOK] using h1, by simp, by simp [gA, gC], rfl⟩
    simp only [gLM, List.nil_append, Nat.zero_add]
    exact (List.Perm.cons _ hpm).trans (List.perm_append_comm (l₁ := [(b', Blk.cells [(m * s, ys), ((cap' - m) * s, rs')] e)]) (l₂ := Lr))
  | some q =>
    obtain ⟨b, cap, rs⟩ := q
    intro a w st
    refine (Eff.perm (Eff.post (E_appendM (c := c) (S := S) (Lr := Lr) (ty := ty) e by' ht hx hy h0s ho (.here _) (fun w hp => hs w (hp.perm hpm)) hb hl) fun v M ⟨b', cap', rs', h1, h2, h3⟩ => ?_) hpm) a w st
    subst h2; subst h3
    refine ⟨Lr ++ gLM s (some (b', cap', rs')) (n + m) (xs ++ ys) e, ?_, some (b', cap', rs'), h1, by simp, rfl, rfl⟩
    simp only [gLM]
    exact (List.perm_append_comm (l₁ := [(b', Blk.cells [((n + m) * s, xs ++ ys), ((cap' - (n + m)) * s, rs')] e)]) (l₂ := Lr))
/-- One structure, as a slice. -/
theorem E_bsliceM {s : Nat} {sg : List Seg} {q : Operand} (e by' : Nat) (ht : slM c.P T e s by' = true) (h0s : 0 < s) (hv : ev S q = some (AG sg)) (h1 : ∀ v ∈ flat sg, one v = true) (hl : (flat sg).length = s) (h24 : s ≤ 1000) :
    Eff c S L (.buildSlice T 1 #[(0, q)]) ty fun v M => ∃ b, v = .slice (some ⟨b, 0, none⟩) 1 1 ∧ M = (b, .cells [(1 * s, flat sg), ((1 - 1) * s, [])] e) :: L := fun a w st => by
  obtain ⟨hu, i, z, hinf, hs1, h2, hz', h3⟩ := slM_open ht
  have e1 := st.sl.ev hv
  refine ⟨_, w.alloc (.cells (flat sg).toArray e), _, .inl ?_, ?_, w.heap.size, rfl, rfl⟩
  rotate_left
  · exact st.hp.alloc ⟨Fit.mk (by omega) (Fit.mk (by simp) Fit.nil), by simp [flat]⟩
  have hag : (AG sg).cells = (flat sg).toArray := rfl
  have hsz : (AG sg).cells.size = s := by rw [hag]; simpa using hl
  have hf : Array.foldl (fun cs (x : Value × Nat) => cs.setIfInBounds x.2 x.1) ((Array.range s).map fun x => z.cells[x % z.cells.size]!) (AG sg).cells.zipIdx 0 (AG sg).cells.size = (flat sg).toArray := by
    have hl2 : ((Array.range s).map fun x => z.cells[x % z.cells.size]!).toList.length = s := by simp
    have := foldl_set_flat 0 0 (flat sg) 0 ((Array.range s).map fun x => z.cells[x % z.cells.size]!).toList (by rw [hl2]; omega)
    rw [Nat.add_zero, List.take_zero, List.nil_append, Nat.zero_add, List.drop_of_length_le (by rw [hl2]; omega), List.append_nil] at this
    rw [← this, hag]
    simp
    congr 1
    rw [← Array.toList_inj]; simp [Array.toList_range]
  simp only [ex, execOp, Instr.buildSlice, Sem.run_bind, run_underlying hu, Result.andThen_ok, sizeOf, typeInfo, hinf, hs1, run_program, Sem.run_pure]
  simp [Instr.fill, newRow, zeroValue, typeInfo, hinf, hz', e1, hsz, show ¬ 16777216 < s from by omega, show ¬ s = 0 from by omega]
  rw [hsz] at hf
  simp [hf]
end
section
variable {c : Cx} {Q : Post} {S S1 : Slots} {L L' Lr Lx : List (Nat × Blk)} {ops : Array Oper} {d : Option Tmp} {t : Tmp} {ty T : TypeId} {pos : String} {af : Array Edge} {rest : List Oper} {x y : Operand} {v : Value} {i : Nat} {p : Plan} {g' : Option (Nat × Bool)}
/-- One structure, as a slice. -/
theorem dbsM {sg : List Seg} {q : Operand} (ho : ops[i]? = some ⟨some t, .buildSlice T 1 #[(0, q)], ty, pos, af, g'⟩) (e s by' : Nat) (K : ∀ b, WD c ops Q Lr p ((t, .slice (some ⟨b, 0, none⟩) 1 1) :: S) ((b, .cells [(1 * s, flat sg), ((1 - 1) * s, [])] e) :: L))
    (hgd : Gd ops S g' := by exact trivial) (ht : slM c.P T e s by' = true := by kernel_rfl) (hv : ev S q = some (AG sg) := by exact rfl) (h1 : ∀ v ∈ flat sg, one v = true := by simp [flat, Go.X.one]) (hl : (flat sg).length = s := by rfl) (h0s : 0 < s := by decide) (h24 : s ≤ 1000 := by decide) (hd : Nat.blt t c.n = true := by exact rfl) (hLr : Lr.Sublist L := by exact subl) : WO c ops Q Lr i p S L :=
  WO.effG (d := some t) ho hgd hd hLr (E_bsliceM e by' ht h0s hv h1 hl h24) fun v M ⟨b, hv, hM⟩ => by
    subst hv; subst hM
    exact ⟨fun q hq => List.mem_cons_of_mem _ (hLr.subset hq), K b⟩
end
end Go.X

/- Ways that meet again. -/
namespace Go.X
open Go.RowKit
end Go.X

/- Slices of structures: elements of one size among those that are there; more rules. -/
namespace Go.X
open Go.RowKit
theorem flatMap_at' {α : Type} {f : α → List Value} {s : Nat} {l : List α} (hf : ∀ x ∈ l, (f x).length = s) {i k : Nat} {a : α} (hi : l[i]? = some a) (hk : k < s) : (l.flatMap f)[i * s + k]? = (f a)[k]? := by
  obtain ⟨h1, h2⟩ := List.getElem?_eq_some_iff.1 hi
  rw [List.flatMap_def, flatten_at (ss := l.map f) (i := i) (k := k) (fun e he => by obtain ⟨a, ha, rfl⟩ := List.mem_map.1 he; exact hf a ha) (by simpa using h1) hk, List.getElem_map, h2]
theorem flatMap_len' {α : Type} {f : α → List Value} {s : Nat} {l : List α} (hf : ∀ x ∈ l, (f x).length = s) : (l.flatMap f).length = l.length * s := by
  rw [List.flatMap_def, flatten_len (s := s) (fun e he => by obtain ⟨a, ha, rfl⟩ := List.mem_map.1 he; exact hf a ha), List.length_map]
theorem flatMap_take' {α : Type} {f : α → List Value} {s : Nat} : ∀ {l : List α} {i : Nat}, (∀ x ∈ l, (f x).length = s) → (l.flatMap f).take (i * s) = (l.take i).flatMap f
  | [], i, _ => by simp
  | x :: l, 0, _ => by simp
  | x :: l, i + 1, h => by
    have hx := h x List.mem_cons_self
    have ih := flatMap_take' (l := l) (i := i) fun y hy => h y (List.mem_cons_of_mem _ hy)
    rw [List.flatMap_cons, List.take_succ_cons, List.flatMap_cons, Nat.succ_mul, show i * s + s = (f x).length + i * s by omega, List.take_append, List.take_of_length_le (by omega), Nat.add_sub_cancel_left, ih]
theorem flatMap_drop' {α : Type} {f : α → List Value} {s : Nat} : ∀ {l : List α} {i : Nat}, (∀ x ∈ l, (f x).length = s) → (l.flatMap f).drop (i * s) = (l.drop i).flatMap f
  | [], i, _ => by simp
  | x :: l, 0, _ => by simp
  | x :: l, i + 1, h => by
    have hx := h x List.mem_cons_self
    have ih := flatMap_drop' (l := l) (i := i) fun y hy => h y (List.mem_cons_of_mem _ hy)
    rw [List.flatMap_cons, List.drop_succ_cons, Nat.succ_mul, show i * s + s = (f x).length + i * s by omega, List.drop_append, List.drop_of_length_le (by omega), List.nil_append, Nat.add_sub_cancel_left, ih]
section
variable {c : Cx} {Q : Post} {S S1 : Slots} {L L' Lr Lx : List (Nat × Blk)} {ops : Array Oper} {d : Option Tmp} {t : Tmp} {ty T : TypeId} {pos : String} {af : Array Edge} {rest : List Oper} {x y : Operand} {v : Value} {i : Nat} {p : Plan} {g' : Option (Nat × Bool)}
theorem vldOAs' {α : Type} {b o q n : Nat} {l : List α} {a : α} {f : α → List Value} {ds : List Seg} (s j : Nat) (hf : ∀ x ∈ l, (f x).length = s) (hs : Sr c L s (some ⟨b, o, none⟩) n (l.flatMap f)) (ha : l[j]? = some a) (hd : flat ds = f a) (ht : agB c.P T s = true := by kernel_rfl) (hx : ev S x = some (.pointer (some ⟨b, q, none⟩)) := by exact rfl)
    (hq : q = o + j * s := by omega) : Val c S L (.load T x) ty (AG ds) := fun A w st => by
  have hw := hs w st.hp
  have e1 := st.sl.ev hx
  have hfi : (f a).length = s := hf _ (List.mem_of_getElem? ha)
  have hcells : ∀ (m k : Nat) (acc : Array Value), k + m ≤ s → (loadCellsFrom ⟨b, q, none⟩ k m acc).run c.P w = .ok (acc ++ (((f a).drop k).take m).toArray) w := by
    intro m
    induction m with
    | zero => intro k acc _; simp [loadCellsFrom]
    | succ m ih =>
      intro k acc hle
      have h2 : (l.flatMap f)[j * s + k]? = some ((f a)[k]'(by omega)) := by
        rw [flatMap_at' hf ha (by omega), List.getElem?_eq_getElem (by omega)]
      obtain ⟨b2, o2, e2, hcell⟩ := hw.2.2 _ _ h2
      injection e2 with e2; injection e2 with e3 e4; subst e3; subst e4
      have hcell' : w.cell? ((⟨b, q, none⟩ : Addr).add k) = some ((f a)[k]'(by omega)) := by rw [add_none, ← hcell, hq]; congr 2; omega
      simp only [loadCellsFrom, Sem.run_bind, load, Sem.run, hcell', Result.andThen_ok]
      rw [ih (k + 1) _ (by omega)]
      congr 1
      rw [List.drop_eq_getElem_cons (show k < (f a).length by omega), List.take_succ_cons]
      simp
  have hL := hcells s 0 #[] (by omega)
  rw [List.drop_zero, List.take_of_length_le (by omega), ← hd] at hL
  simp [ex, execOp, e1, Instr.loadAt, Instr.sureAddr, loadVar, run_isAgg_ag ht, run_sizeOf_sz (sz_of_ag ht), loadCells, hL, AG]
theorem dapMG {o : Gr} {s n m cap2 : Nat} {xs ys : List Value} {A : Option Addr} (ho' : ops[i]? = some ⟨some t, .call ⟨.builtin .append, #[x, y], #[T, T]⟩, ty, pos, af, g'⟩) (e by' : Nat) (K : ∀ o', GrOK o' (n + m) → o' ≠ none → WD c ops Q Lr p ((t, .slice (gA o') (n + m) (gC o')) :: S) (Lx ++ gLM s o' (n + m) (xs ++ ys) e)) (hs : Sr c L s A m ys) (hn : xs.length = n * s) (ho : GrOK o n) (h0 : 0 < m := by decide)
    (hgd : Gd ops S g' := by exact trivial) (ht : slM c.P T e s by' = true := by kernel_rfl) (h0s : 0 < s := by decide) (hx : ev S x = some (.slice (gA o) n (gC o)) := by exact rfl) (hy : ev S y = some (.slice A m cap2) := by exact rfl) (hD : DelL (gLM s o n xs e) L Lx := by exact dell) (hb : (n + m) * by' ≤ 140737488355328 := by omega) (hl : n + m ≤ 9223372036854775807 := by omega) (hd : Nat.blt t c.n = true := by exact rfl) (hLr : Lr.Sublist L := by exact subl) (hm : ∀ p ∈ Lr, p ∈ Lx := by simp) : WO c ops Q Lr i p S L :=
  WO.effG (d := some t) ho' hgd hd hLr (E_appM e by' ht h0s hx hy hn ho hD hs hb hl h0) fun v M ⟨o', h1, h2, hv, hM⟩ => by
    subst hv; subst hM; exact ⟨fun q hq => List.mem_append_left _ (hm q hq), K o' h1 h2⟩
end
theorem HP.reseg {w0 w : World} {O : List Nat} {L Lr : List (Nat × Blk)} {b : Nat} {cs cs' : List Seg} {t : TypeId} (hp : HP w0 w O L) (hD : Del b (.cells cs t) L Lr) (hf : flat cs' = flat cs) (hfit : Fit cs') : HP w0 w O ((b, .cells cs' t) :: Lr) := by
  have h1 := hp.perm (show ((b, Blk.cells cs t) :: Lr).Perm L from by
    obtain ⟨A, B, rfl, rfl⟩ := hD.split
    exact List.perm_middle.symm)
  have h2 : (Blk.cells cs' t).Is w.heap[b]? := by
    obtain ⟨_, hh⟩ := h1.held _ List.mem_cons_self
    exact ⟨hfit, by rw [hf]; exact hh⟩
  refine ⟨h1.os, h1.tape, h1.output, h1.size, h1.keep, fun p hp => ?_, fun p hp => ?_, h1.nodup⟩
  · rcases List.mem_cons.1 hp with rfl | hp
    · exact h2
    · exact h1.held p (List.mem_cons_of_mem _ hp)
  · rcases List.mem_cons.1 hp with rfl | hp
    · exact h1.own (b, .cells cs t) List.mem_cons_self
    · exact h1.own p (List.mem_cons_of_mem _ hp)
/-- The zero value's cells are no aggregates. -/
def zOne (P : Program) (e : TypeId) : Bool := match P.info? e with
  | some i => match i.zero with
    | some z => z.cells.toList.all one
    | none => false
  | none => false
section
variable {c : Cx} {Q : Post} {S : Slots} {L Lr : List (Nat × Blk)} {ops : Array Oper} {d : Option Tmp} {ty T : TypeId} {pos : String} {af : Array Edge} {rest : List Oper} {x : Operand}
theorem WL.reseg {b : Nat} {cs cs' : List Seg} {t : TypeId} {l : List Oper} (k : WL c ops Q l S ((b, .cells cs' t) :: Lr)) (hD : Del b (.cells cs t) L Lr) (hf : flat cs' = flat cs) (hfit : Fit cs') : WL c ops Q l S L := fun a w st => k a w ⟨st.sl, st.hp.reseg hD hf hfit⟩
theorem E_clearM {s k m cap b R : Nat} {ys rs : List Value} {e t by' : Nat} (ht : slM c.P T e s by' = true) (hz1 : zOne c.P e = true) (hx : ev S x = some (.slice (some ⟨b, k * s, none⟩) m cap)) (h0 : 0 < m) (hR : m * s ≤ R) (hD : Del b (.cells [(k * s, ys), (R, rs)] t) L Lr) :
    Eff c S L (.call ⟨.builtin .clear, #[x], #[T]⟩) ty fun v M => v = .tuple #[] ∧ ∃ rs', M = (b, .cells [(k * s, ys), (R, rs')] t) :: Lr := fun a w st => by
  obtain ⟨hu, i, z, hi, h1, h2, hz, h3⟩ := slM_open ht
  have e1 := st.sl.ev hx
  obtain ⟨hf, hh⟩ := st.hp.held _ hD.mem
  obtain ⟨hyl, hf2⟩ := hf.cons
  obtain ⟨hrl, _⟩ := hf2.cons
  have hflat : flat [(k * s, ys), (R, rs)] = ys ++ rs := by simp [flat]
  rw [hflat] at hh
  have hzl : (Builtin.zeroCells z.cells m).toList.length = m * s := by simp [size_zeroCells, h3, Nat.mul_comm]
  have hzo : ∀ v ∈ (Builtin.zeroCells z.cells m).toList, one v = true := by
    intro v hv
    unfold zOne at hz1
    rw [hi] at hz1
    simp only [hz, List.all_eq_true] at hz1
    simp only [Builtin.zeroCells, Array.toList_map, List.mem_map] at hv
    obtain ⟨q, hq, rfl⟩ := hv
    have hq2 : q < m * z.cells.size := by simpa using hq
    have hlt : q % z.cells.size < z.cells.size := Nat.mod_lt _ (by
      rcases Nat.eq_zero_or_pos z.cells.size with h | h
      · rw [h] at hq2; omega
      · exact h)
    refine hz1 _ ?_
    rw [getElem!_pos z.cells (q % z.cells.size) hlt]
    exact Array.getElem_mem_toList hlt
  obtain ⟨w', e', p1, p2, p3, p4, p5, p6⟩ := run_storeCells (P := c.P) (k * s) (Builtin.zeroCells z.cells m).toList 0 (ys ++ rs) w hh hzo (by rw [List.length_append, hzl]; omega)
  refine ⟨.tuple #[], w', (b, .cells [(k * s, ys), (R, (Builtin.zeroCells z.cells m).toList ++ rs.drop (m * s))] t) :: Lr, .inl ?_, ?_, rfl, _, rfl⟩
  · obtain ⟨m', rfl⟩ : ∃ m', m = m' + 1 := ⟨m - 1, by omega⟩
    simp [ex, execOp, e1, resolve, Deferred.ofValue, invoke, builtin, Builtin.clear_, run_underlying hu, zeroValue, typeInfo, hi, hz, e']
  · refine HP.front hD fun A' B' hL _ => ?_
    subst hL
    refine st.hp.upd (Upd.mid A' B') p1 p2 p3 p4 p5 ⟨Fit.mk (by omega) (Fit.mk (by rw [List.length_append, hzl, List.length_drop]; omega) Fit.nil), ?_⟩
    rw [p6]
    congr 2
    simp only [flat, List.flatMap_cons, List.flatMap_nil, List.append_nil, Nat.add_zero]
    rw [List.take_append_of_le_length (by omega), List.take_of_length_le (by omega), List.drop_append, List.drop_eq_nil_of_le (by omega), hzl]
    simp [hyl]
theorem oclrM {s k m cap b R : Nat} {ys rs : List Value} (e t by' : Nat) (K : ∀ rs', WL c ops Q rest (putS d (.tuple #[]) S) ((b, .cells [(k * s, ys), (R, rs')] t) :: Lr)) (h0 : 0 < m := by omega) (hR : m * s ≤ R := by omega) (ht : slM c.P T e s by' = true := by kernel_rfl) (hz1 : zOne c.P e = true := by kernel_rfl) (hx : ev S x = some (.slice (some ⟨b, k * s, none⟩) m cap) := by exact rfl)
    (hD : Del b (.cells [(k * s, ys), (R, rs)] t) L Lr := by repeat (first | exact Del.here _ | apply Del.there)) (hd : inB c.n d = true := by exact rfl) : WL c ops Q (⟨d, .call ⟨.builtin .clear, #[x], #[T]⟩, ty, pos, af, none⟩ :: rest) S L :=
  WL.eff (d := d) hd (E_clearM ht hz1 hx h0 hR hD) fun v M ⟨hv, rs', hM⟩ => by subst hv; subst hM; exact K rs'
end
theorem run_bounds3 {P : Program} {w : World} {q : Bool} {len cap : Nat} {k1 k2 k3 : IntKind} {l h m : Nat} (h1 : l ≤ h) (h2 : h ≤ m) (h3 : m ≤ cap) : (Instr.sliceBounds q len cap (some (.int k1 l)) (some (.int k2 h)) (some (.int k3 m))).run P w = .ok (l, h, m) w := by
  simp [Instr.sliceBounds, Instr.sliceBound, asIntOf, h1, h2, h3]
section
variable {c : Cx} {Q : Post} {S : Slots} {L Lr : List (Nat × Blk)} {ty T : TypeId} {x y z u : Operand}
theorem W.reseg {x : Code} {b : Nat} {cs : List Seg} (cs' : List Seg) {t : TypeId} (k : W c x Q S ((b, .cells cs' t) :: Lr)) (hf : flat cs' = flat cs) (hfit : Fit cs') (hD : Del b (.cells cs t) L Lr := by repeat (first | exact Del.here _ | apply Del.there)) : W c x Q S L := fun a w st => k a w ⟨st.sl, st.hp.reseg hD hf hfit⟩
theorem V_slice3 {A : Option Addr} {len cap l h m s : Nat} {k1 k2 k3 : IntKind} {p q r : Int} (hx : ev S x = some (.slice A len cap)) (hy : ev S y = some (.int k1 p)) (hz : ev S z = some (.int k2 q)) (hu : ev S u = some (.int k3 r)) (hp : p = l) (hq : q = h) (hr : r = m) (h1 : l ≤ h) (h2 : h ≤ m) (h3 : m ≤ cap) (ht : slB c.P T s = true := by kernel_rfl) :
    Val c S L (.slice T x (some y) (some z) (some u)) ty (.slice (cutA A l m s) (h - l) (m - l)) := fun a w st => by
  subst hp; subst hq; subst hr
  have e1 := st.sl.ev hx; have e2 := st.sl.ev hy; have e3 := st.sl.ev hz; have e4 := st.sl.ev hu
  have hb := run_bounds3 (P := c.P) (w := w) (q := true) (len := len) (k1 := k1) (k2 := k2) (k3 := k3) h1 h2 h3
  unfold slB at ht
  split at ht <;> try (cases ht; done)
  rename_i e' hu'
  simp only [ex, execOp, e1, e2, e3, e4, Instr.sliceAt, Sem.run_bind, run_underlying hu', Result.andThen_ok, Instr.slice, Option.map_some, hb, run_sizeOf_sz ht]
  simp [cutA]
/-- The first ones of a slice. -/
theorem vslT {b n cap h s : Nat} {k : IntKind} {p : Int} (s' : Nat) (hs : s' = s := by rfl) (hx : ev S x = some (.slice (some ⟨b, 0, none⟩) n cap) := by exact rfl) (hy : ev S y = some (.int k p) := by exact rfl) (hp : p = h := by first | rfl | omega) (h2 : h ≤ cap := by omega) (ht : slB c.P T s' = true := by kernel_rfl) :
    Val c S L (.slice T x none (some y) none) ty (.slice (some ⟨b, 0, none⟩) h cap) := by
  have := V_slice (c := c) (L := L) (ty := ty) (l := 0) (h := h) ht hx .no (.yes hy hp) (Nat.zero_le _) h2
  rwa [cutA_zero, Nat.sub_zero, Nat.sub_zero] at this
/-- Those from one on. -/
theorem vslFr {A : Option Addr} {n cap l : Nat} {k : IntKind} {p : Int} (s : Nat) (hx : ev S x = some (.slice A n cap) := by exact rfl) (hy : ev S y = some (.int k p) := by exact rfl) (hp : p = l := by first | rfl | omega) (h1 : l ≤ n := by omega) (h2 : n ≤ cap := by omega) (ht : slB c.P T s = true := by kernel_rfl) :
    Val c S L (.slice T x (some y) none none) ty (.slice (cutA A l cap s) (n - l) (cap - l)) := V_slice ht hx (.yes hy hp) .no h1 h2
theorem vslM {b n cap l h : Nat} {k k' : IntKind} {p q : Int} (s : Nat) (hx : ev S x = some (.slice (some ⟨b, 0, none⟩) n cap) := by exact rfl) (hy : ev S y = some (.int k p) := by exact rfl) (hz : ev S z = some (.int k' q) := by exact rfl) (hp : p = l := by first | rfl | omega) (hq : q = h := by first | rfl | omega) (h1 : l < h := by omega) (h2 : h ≤ cap := by omega) (ht : slB c.P T s = true := by kernel_rfl) :
    Val c S L (.slice T x (some y) (some z) none) ty (.slice (some ⟨b, l * s, none⟩) (h - l) (cap - l)) := by
  have := V_slice (c := c) (L := L) (ty := ty) (l := l) (h := h) ht hx (.yes hy hp) (.yes hz hq) (by omega) h2
  rwa [cutA_some (by omega), Nat.zero_add] at this
end
end Go.X

/- Structures appended in place; one taken out of a slice. -/
namespace Go.X
open Go.RowKit
/-- Hides what something is: rewriting shows it. -/
def hid {α : Type} (n : Nat) (x : α) : α := if n = 0 then x else hid (n - 1) x
  termination_by n
theorem hid0 {α : Type} {x : α} : hid 0 x = x := by unfold hid; rw [if_pos rfl]
section
variable {c : Cx} {Q : Post} {S : Slots} {L L' Lr Lx : List (Nat × Blk)} {ops : Array Oper} {t : Tmp} {ty T : TypeId} {pos : String} {af : Array Edge} {x y : Operand} {i : Nat} {p : Plan} {g' : Option (Nat × Bool)}
theorem E_appendIn {s n m N cap cap2 b : Nat} {xs rest ys : List Value} {A : Option Addr} (e by' : Nat) (ht : slM c.P T e s by' = true) (hx : ev S x = some (.slice (some ⟨b, 0, none⟩) n cap)) (hy : ev S y = some (.slice A m cap2))
    (hN : n + m = N) (hg : N ≤ cap) (hu' : Upd b (.cells [(N * s, xs ++ ys), ((cap - N) * s, rest.drop (m * s))] e) L (.cells [(n * s, xs), ((cap - n) * s, rest)] e) L') (hs : Sr c L s A m ys) :
    Eff c S L (.call ⟨.builtin .append, #[x, y], #[T, T]⟩) ty fun v M => v = .slice (some ⟨b, 0, none⟩) N cap ∧ M = L' := fun a w st => by
  subst hN
  obtain ⟨hu, i, z, hi, h1, h2, hz, h3⟩ := slM_open ht
  obtain ⟨hf, hh⟩ := st.hp.held _ hu'.mem
  obtain ⟨hxl, hf2⟩ := hf.cons
  obtain ⟨hrl, _⟩ := hf2.cons
  have hw := hs w st.hp
  have hyl : ys.length = m * s := hw.1
  have ha : evs S (#[x, y] : Array Operand).toList = some [.slice (some ⟨b, 0, none⟩) n cap, .slice A m cap2] := by simp [evs, hx, hy]
  have hflat : flat [(n * s, xs), ((cap - n) * s, rest)] = xs ++ rest := by simp [flat]
  rw [hflat] at hh
  have hcs : n * s ≤ cap * s := Nat.mul_le_mul_right _ (by omega)
  have hsub : (cap - n) * s = cap * s - n * s := Nat.sub_mul ..
  have hadd0 : (n + m) * s = n * s + m * s := Nat.add_mul ..
  have hgs : (n + m) * s ≤ cap * s := Nat.mul_le_mul_right _ hg
  have hst := run_storeCells (P := c.P) (n * s) ys 0 (xs ++ rest) w hh hw.2.1 (by rw [List.length_append]; omega)
  obtain ⟨w', e', p1, p2, p3, p4, p5, p6⟩ := hst
  have hsub2 : (cap - (n + m)) * s = cap * s - (n + m) * s := Nat.sub_mul ..
  refine ⟨.slice (some ⟨b, 0, none⟩) (n + m) cap, w', _, .inl (run_builtin st ha fun cs => ?_), ?_, rfl, rfl⟩
  · have hfc := hw.first (P := c.P) (a := m) (b := cap2)
    have hadd : ({ block := b, off := 0 } : Addr).add (n * s) = ⟨b, n * s, none⟩ := by rw [add_none]; simp
    simp [builtin, Builtin.append_, run_underlying hu, sizeOf, typeInfo, hi, h1, Builtin.lenOf, hg, hfc, hadd, e']
  · refine st.hp.upd hu' p1 p2 p3 p4 p5 ⟨Fit.mk (by rw [List.length_append]; omega) (Fit.mk (by rw [List.length_drop]; omega) Fit.nil), ?_⟩
    rw [p6]
    congr 2
    simp only [flat, List.flatMap_cons, List.flatMap_nil, List.append_nil, Nat.add_zero]
    rw [List.take_append_of_le_length (by omega), List.take_of_length_le (by omega), List.drop_append, List.drop_eq_nil_of_le (by omega)]
    simp [hxl, hyl]
theorem dapIn {s n m N cap cap2 b : Nat} {xs rest ys : List Value} {A : Option Addr} (ho : ops[i]? = some ⟨some t, .call ⟨.builtin .append, #[x, y], #[T, T]⟩, ty, pos, af, g'⟩) (e by' : Nat) (hs : Sr c L s A m ys) (hN : n + m = N)
    (hu' : Upd b (.cells [(N * s, xs ++ ys), ((cap - N) * s, rest.drop (m * s))] e) L (.cells [(n * s, xs), ((cap - n) * s, rest)] e) L') (K : WD c ops Q Lr p ((t, .slice (some ⟨b, 0, none⟩) N cap) :: S) L') (hg : N ≤ cap := by omega)
    (hgd : Gd ops S g' := by exact trivial) (ht : slM c.P T e s by' = true := by kernel_rfl) (hx : ev S x = some (.slice (some ⟨b, 0, none⟩) n cap) := by exact rfl) (hy : ev S y = some (.slice A m cap2) := by exact rfl) (hd : Nat.blt t c.n = true := by exact rfl) (hLr : Lr.Sublist L := by exact subl) (hm : ∀ p ∈ Lr, p ∈ L' := by simp) : WO c ops Q Lr i p S L :=
  WO.effG (d := some t) ho hgd hd hLr (E_appendIn e by' ht hx hy hN hg hu' hs) fun v M ⟨hv, hM⟩ => by
    subst hv; subst hM; exact ⟨hm, K⟩
end
theorem take_take_drop {s i n cap : Nat} {xs rs : List Value} (hi : i < n) (hn : n ≤ cap) (hxl : xs.length = n * s) : flat [(i * s, xs.take (i * s)), ((cap - i) * s, xs.drop (i * s) ++ rs)] = flat [(n * s, xs), ((cap - n) * s, rs)] := by
  simp only [flat, List.flatMap_cons, List.flatMap_nil, List.append_nil]
  rw [← List.append_assoc, List.take_append_drop]
theorem fit_cut {s i n cap : Nat} {xs rs : List Value} (hi : i < n) (hn : n ≤ cap) (hxl : xs.length = n * s) (hrl : rs.length = (cap - n) * s) : Fit [(i * s, xs.take (i * s)), ((cap - i) * s, xs.drop (i * s) ++ rs)] := by
  have h1 : i * s ≤ n * s := Nat.mul_le_mul_right _ (by omega)
  have h2 : n * s ≤ cap * s := Nat.mul_le_mul_right _ hn
  have h3 : (cap - i) * s = cap * s - i * s := Nat.sub_mul ..
  have h4 : (cap - n) * s = cap * s - n * s := Nat.sub_mul ..
  exact Fit.mk (by rw [List.length_take]; omega) (Fit.mk (by rw [List.length_append, List.length_drop]; omega) Fit.nil)
/-- Those behind one, in a block that was parted there. -/
theorem cut_sr {w0 w : World} {O : List Nat} {L Lr : List (Nat × Blk)} {s i n cap b : Nat} {xs rs : List Value} {t : TypeId} (hp : HP w0 w O L) (hD : Del b (.cells [(i * s, xs.take (i * s)), ((cap - i) * s, xs.drop (i * s) ++ rs)] t) L Lr) (hi : i < n) (hn : n ≤ cap) (hxl : xs.length = n * s) (hrl : rs.length = (cap - n) * s) (h1 : ∀ v ∈ xs, one v = true) :
    SrW w s (cutA (some ⟨b, 0, none⟩) (i + 1) cap s) (n - (i + 1)) (xs.drop ((i + 1) * s)) := by
  have hp2 := hp.reseg hD (take_take_drop hi hn hxl).symm (Fit.mk hxl (Fit.mk hrl Fit.nil))
  have hs := (HP.sown hp2 (b := b) List.mem_cons_self h1).mul
  have h3 := hs.cut (l := i + 1) (h := n) (m := cap) (by omega) (by omega) hn
  have e : ((xs.drop ((i + 1) * s)).take ((n - (i + 1)) * s)) = xs.drop ((i + 1) * s) := by
    have h5 : (n - (i + 1)) * s = n * s - (i + 1) * s := Nat.sub_mul ..
    rw [List.take_of_length_le]; rw [List.length_drop]; omega
  rwa [e] at h3
end Go.X

/- A part of a structure in a slice; bounds of what is masked. -/
namespace Go.X
open Go.RowKit
section
variable {c : Cx} {Q : Post} {S : Slots} {L Lr Lx : List (Nat × Blk)} {ops : Array Oper} {t : Tmp} {ty T : TypeId} {pos : String} {af : Array Edge} {x y : Operand} {i : Nat} {p : Plan} {g' : Option (Nat × Bool)}
end
end Go.X

/- Methods called by an interface's value. -/
namespace Go.X
open Go.RowKit
/-- A type's method of a name is this function, of the value itself. -/
def metB (P : Program) (t : TypeId) (name : String) (f : FuncId) : Bool := match P.info? t, P.underlying t with
  | some i, some u => (match i.methods.find? (·.name == name) with
    | some m => m.path.isEmpty && m.func == some (f, false)
    | none => false) && (match u with | .pointer _ => false | _ => true)
  | _, _ => false
theorem metB_open {P : Program} {t : TypeId} {name : String} {f : FuncId} (h : metB P t name f = true) : ∃ i m u, P.info? t = some i ∧ i.methods.find? (·.name == name) = some m ∧ m.path = #[] ∧ m.func = some (f, false) ∧ P.underlying t = some u ∧ ∀ e, u ≠ .pointer e := by
  unfold metB at h
  split at h <;> try (cases h; done)
  rename_i i u hi hu
  rw [Bool.and_eq_true] at h
  obtain ⟨h1, h2⟩ := h
  split at h1 <;> try (cases h1; done)
  rename_i m hm
  rw [Bool.and_eq_true] at h1
  refine ⟨i, m, u, hi, hm, by simpa using h1.1, by simpa using h1.2, hu, fun e he => ?_⟩
  subst he; cases h2
section
variable {P : Program} {w : World}
theorem run_method {t : TypeId} {name : String} {f : FuncId} {v : Value} {n : Nat} (h : metB P t name f = true) : (method (n + 1) t v name).run P w = .ok (f, v) w := by
  obtain ⟨i, m, u, hi, hm, hp, hf, hu, hn⟩ := metB_open h
  unfold method
  simp only [Sem.run_bind, run_typeInfo _ hi, Result.andThen_ok, hm, hp, hf]
  simp only [Array.toList_empty, follow, Sem.run_pure, Result.andThen_ok, receiverAt, Sem.run_bind, run_underlying hu]
  cases u <;> first | exact absurd rfl (hn _) | simp [Place.get]
theorem run_nilAhead {t : TypeId} {name : String} {f : FuncId} {v : Value} {n : Nat} (h : metB P t name f = true) : (nilAhead (n + 1) t v name).run P w = .ok (some false) w := by
  obtain ⟨i, m, u, hi, hm, hp, hf, hu, hn⟩ := metB_open h
  unfold nilAhead
  simp only [Sem.run_bind, run_typeInfo _ hi, Result.andThen_ok, hm, hp, hf]
  simp only [Array.toList_empty, followBlind, Sem.run_pure, Result.andThen_ok, Sem.run_bind, run_underlying hu]
  cases u <;> first | exact absurd rfl (hn _) | simp
end
section
variable {c : Cx} {Q : Post} {S : Slots} {L L' Lr Lx : List (Nat × Blk)} {ops : Array Oper} {d : Option Tmp} {ty T : TypeId} {pos : String} {af : Array Edge} {rest : List Oper} {x : Operand} {i : Nat} {p : Plan} {g : Option (Nat × Bool)}
theorem V_nilM {name : String} {t : TypeId} {v : Value} {cs : Array Value} (f : FuncId) (hx : ev S x = some (.func (.method name) #[.iface t v] cs) := by exact rfl) (h : metB c.P t name f = true := by kernel_rfl) : Val c S L (.nilCheck x) ty (.func (.method name) #[.iface t v] cs) := fun a w st => by
  have e1 := st.sl.ev hx
  have h2 : (nilAhead (c.P.types.size + Made.depth) t v name).run c.P w = .ok (some false) w := run_nilAhead (n := c.P.types.size + 99) h
  simp [ex, execOp, e1, h2]
theorem C_inv {name : String} {t : TypeId} {v : Value} {f : FuncId} {xs : Array Operand} {ats : Array TypeId} {vs : List Value} {R : Value → List (Nat × Blk) → Prop} (hx : ev S x = some (.iface t v)) (ha : evs S xs.toList = some vs) (h : metB c.P t name f = true) (hf : fnB c.P f = true)
    (hc : ∀ w, HP c.w0 w c.O L → Calls c.P f (v :: vs).toArray w fun e w' => ∃ v L', e = .returned v ∧ HP c.w0 w' c.O L' ∧ R v L') : Cal c S L (.call ⟨.invoke x name, xs, ats⟩) ty R := fun a w st => by
  refine ⟨f, (v :: vs).toArray, ?_, hc w st.hp⟩
  have := evs_eq st.sl ha
  have e : xs.map a.eval = vs.toArray := by rw [← this, ← Array.toList_inj]; simp
  have e1 := st.sl.ev hx
  have h2 : (method (c.P.types.size + Made.depth) t v name).run c.P w = .ok (f, v) w := run_method (n := c.P.types.size + 99) h
  have e3 : (#[Value.iface t v] ++ vs.toArray).extract 1 (#[Value.iface t v] ++ vs.toArray).size = vs.toArray := by
    apply Array.ext'; simp
  have e4 : #[v] ++ vs.toArray = (v :: vs).toArray := by apply Array.ext'; simp
  have e5 : (#[Value.iface t v] ++ vs.toArray)[0]? = some (.iface t v) := by simp
  simp only [ex, execOp, resolve, e, e1, Sem.run_bind, Sem.run_pure, Result.andThen_ok, invoke, e5, e3, callMethod, run_program, h2, e4]
  exact run_callFunc hf
/-- A method of an interface's value that changes what a list of blocks holds, in a region that draws. -/
theorem dcgPI {ι : Type} (M0 : List (Nat × Blk)) {name : String} {t : TypeId} {v : Value} (f : FuncId) {xs : Array Operand} {ats : Array TypeId} {vs : List Value} {V : ι → Value} {M : ι → List (Nat × Blk)} {A : ι → Prop} (ho : ops[i]? = some ⟨d, .call ⟨.invoke x name, xs, ats⟩, ty, pos, af, g⟩) (hx : ev S x = some (.iface t v)) (ha : evs S xs.toList = some vs)
    (hc : ∀ w, HP c.w0 w c.O L → Calls c.P f (v :: vs).toArray w fun e w' => ∃ r, A r ∧ e = .returned (V r) ∧ HP w w' (M0.map (·.1)) (M r)) (k : ∀ r, A r → WD c ops Q Lr p (putS d (V r) S) (M r ++ Lx))
    (hg : Gd ops S g := by exact trivial) (hdel : PR M0 L Lx := by exact pr) (h : metB c.P t name f = true := by kernel_rfl) (hf : fnB c.P f = true := by kernel_rfl) (hd : inB c.n d = true := by exact rfl) (hs : Lr.Sublist L := by exact subl) (hm : ∀ p ∈ Lr, p ∈ Lx := by simp) : WO c ops Q Lr i p S L :=
  WO.calG ho hg hd hs (C_inv (R := fun u N => ∃ r, A r ∧ u = V r ∧ N = M r ++ Lx) hx ha h hf fun w hp => (hc w hp).mono fun _ _ ⟨r, hr, he, hp'⟩ => ⟨V r, M r ++ Lx, he, hp.transP hdel hp', r, hr, rfl, rfl⟩) fun u N ⟨r, hr, h1, h2⟩ => by subst h1; subst h2; exact ⟨fun q hq => List.mem_append_right _ (hm q hq), k r hr⟩
end
end Go.X
