/- Slices of arrays, of bools; ranges over maps; clear. -/
import Derived.Test.YtnpnnafcdnefiaaXB
import Derived.Maps.RangeRun
import Derived.MapKept
set_option linter.unusedVariables false
set_option linter.unusedSimpArgs false

namespace Go.X
open Go.RowKit
theorem flatten_get {α : Type} {s : Nat} : ∀ {ss : List (List α)} {i : Nat}, (∀ l ∈ ss, l.length = s) → i < ss.length → (ss.flatten.drop (i * s)).take s = ss.getD i []
  | [], i, _, h => by simp at h
  | l :: ss, 0, h, _ => by
    have hl := h l List.mem_cons_self
    simp [List.take_append_of_le_length (show s ≤ l.length by omega), ← hl]
  | l :: ss, i + 1, h, hi => by
    have hl := h l List.mem_cons_self
    have ih := flatten_get (ss := ss) (i := i) (fun x hx => h x (List.mem_cons_of_mem _ hx)) (by simpa using hi)
    rw [List.flatten_cons, show (i + 1) * s = l.length + i * s by rw [Nat.succ_mul, hl, Nat.add_comm], List.drop_append, List.drop_of_length_le (by omega), List.nil_append, show l.length + i * s - l.length = i * s by omega, ih]
    simp
theorem flatten_set {α : Type} {s : Nat} {z : List α} : ∀ {ss : List (List α)} {i : Nat}, (∀ l ∈ ss, l.length = s) → i < ss.length → ss.flatten.take (i * s) ++ z ++ ss.flatten.drop (i * s + s) = (ss.set i z).flatten
  | [], i, _, h => by simp at h
  | l :: ss, 0, h, _ => by
    have hl := h l List.mem_cons_self
    simp [List.drop_append, List.drop_of_length_le (show l.length ≤ s by omega), ← hl]
  | l :: ss, i + 1, h, hi => by
    have hl := h l List.mem_cons_self
    have ih := flatten_set (ss := ss) (i := i) (z := z) (fun x hx => h x (List.mem_cons_of_mem _ hx)) (by simpa using hi)
    rw [List.flatten_cons, show (i + 1) * s = l.length + i * s by rw [Nat.succ_mul, hl, Nat.add_comm], List.take_append, List.take_of_length_le (by omega), show l.length + i * s - l.length = i * s by omega, List.drop_append, List.drop_of_length_le (by omega), show l.length + i * s + s - l.length = i * s + s by omega, List.nil_append, List.append_assoc, List.append_assoc]
    rw [List.append_assoc] at ih
    rw [ih]; simp
theorem flatten_len {α : Type} {s : Nat} : ∀ {ss : List (List α)}, (∀ l ∈ ss, l.length = s) → ss.flatten.length = ss.length * s
  | [], _ => by simp
  | l :: ss, h => by
    have ih := flatten_len (ss := ss) (fun x hx => h x (List.mem_cons_of_mem _ hx))
    rw [List.flatten_cons, List.length_append, ih, h l List.mem_cons_self, List.length_cons, Nat.succ_mul, Nat.add_comm]
def bv (l : List Bool) : List Value := l.map .bool
@[simp] theorem bv_len {l : List Bool} : (bv l).length = l.length := by simp [bv]
theorem bv_set {l : List Bool} {i : Nat} {b : Bool} : (bv l).set i (.bool b) = bv (l.set i b) := by simp [bv, List.map_set]
theorem bv_get {l : List Bool} {i : Nat} (h : i < l.length) : (bv l)[i]? = some (.bool (l.getD i false)) := by
  simp [bv, List.getElem?_map, List.getElem?_eq_getElem h, List.getD_eq_getElem?_getD]
theorem bv_one {l : List Bool} : ∀ v ∈ bv l, one v = true := fun v hv => by
  obtain ⟨b, _, rfl⟩ := List.mem_map.1 hv; rfl
theorem bv_rep {n : Nat} {b : Bool} : bv (List.replicate n b) = List.replicate n (.bool b) := by simp [bv]
section
variable {c : Cx} {Q : Post} {S S1 : Slots} {L L1 L' Lr Lx : List (Nat × Blk)} {ops : Array Oper} {d : Option Tmp} {t : Tmp} {ty T T' : TypeId} {pos : String} {af : Array Edge} {rest : List Oper} {op : Op} {x y z : Operand} {v : Value} {g : Option (Nat × Bool)} {i j : Nat} {p : Plan}
/-! ### slices of arrays -/
theorem viSec {ix : Operand} {b i len cap : Nat} {k : IntKind} (s : Nat) (hx : ev S x = some (.slice (some ⟨b, 0, none⟩) len cap) := by exact rfl) (hi : ev S ix = some (.int k (i : Int)) := by exact rfl) (h1 : i < len := by omega) (ht : slB c.P T s = true := by kernel_rfl) : Val c S L (.indexAddr T x ix) ty (.pointer (some ⟨b, i * s, none⟩)) := by
  have := V_indexAddrS (c := c) (L := L) (ty := ty) s ht hx hi (by omega) (by omega); simpa using this
theorem viSecZ {ix : Operand} {b len cap : Nat} {q : Int} {k : IntKind} (s : Nat) (hx : ev S x = some (.slice (some ⟨b, 0, none⟩) len cap) := by exact rfl) (hi : ev S ix = some (.int k q) := by exact rfl) (h1 : 0 ≤ q ∧ q < len := by omega) (ht : slB c.P T s = true := by kernel_rfl) : Val c S L (.indexAddr T x ix) ty (.pointer (some ⟨b, q.toNat * s, none⟩)) := by
  have := V_indexAddrS (c := c) (L := L) (ty := ty) s ht hx hi h1.1 h1.2; simpa using this
theorem vldSec {b i N : Nat} {k : IntKind} {ss : List (List Int)} {r : List Seg} (s : Nat) (hss : ∀ l ∈ ss, l.length = s) (hx : ev S x = some (.pointer (some ⟨b, i * s, none⟩)) := by exact rfl) (hA : At c L b ((N, iv k ss.flatten) :: r) := by exact at_) (hi : i < ss.length := by omega) (ht : agB c.P T s = true := by kernel_rfl) :
    Val c S L (.load T x) ty (AG [(s, iv k (ss.getD i []))]) := by
  have hl := flatten_len hss
  have hle : i * s + s ≤ ss.flatten.length := by
    rw [hl, ← Nat.succ_mul]; exact Nat.mul_le_mul_right _ hi
  refine V_loadAF s ht hx hA ?_ ?_
  · rw [flat_cons, List.drop_append_of_le_length (by rw [iv_len]; omega), iv_drop, List.take_append_of_le_length (by rw [iv_len, List.length_drop]; omega), iv_take, flatten_get hss hi]; simp [flat]
  · rw [flat_cons, List.length_append, iv_len]; omega
theorem E_storeSec {b i N s : Nat} {k : IntKind} {ss : List (List Int)} {z : List Int} {r : List Seg} {t : TypeId} (hss : ∀ l ∈ ss, l.length = s) (hz : z.length = s) (hx : ev S x = some (.pointer (some ⟨b, i * s, none⟩))) (hy : ev S y = some (AG [(s, iv k z)])) (hi : i < ss.length)
    (hu : Upd b (.cells ((N, iv k (ss.set i z).flatten) :: r) t) L (.cells ((N, iv k ss.flatten) :: r) t) L') (ht : szB c.P T s = true) : Eff c S L (.store T x y) ty (fun u M => u = undef ∧ M = L') := fun a w st => by
  have e1 := st.sl.ev hx; have e2 := st.sl.ev hy
  obtain ⟨hf, hb⟩ := st.hp.held _ hu.mem
  have hl := flatten_len hss
  have hle : i * s + s ≤ ss.flatten.length := by
    rw [hl, ← Nat.succ_mul]; exact Nat.mul_le_mul_right _ hi
  have hn : (flat [(s, iv k z)]).length = s := by simp [flat, iv_len, hz]
  have h1 : ∀ v ∈ flat [(s, iv k z)], one v = true := ones_cons iv_one ones_nil
  obtain ⟨w', e, p1, p2, p3, p4, p5, p6⟩ := run_storeCells (P := c.P) (i * s) (flat [(s, iv k z)]) 0 (flat ((N, iv k ss.flatten) :: r)) w hb h1 (by rw [hn, flat_cons, List.length_append, iv_len]; omega)
  obtain ⟨hfl, hfr⟩ := hf.cons
  refine ⟨undef, w', L', .inr ⟨?_, rfl⟩, st.hp.upd hu p1 p2 p3 p4 p5 ⟨Fit.mk ?_ hfr, ?_⟩, rfl, rfl⟩
  · simp only [ex, execOp, e1, e2, Instr.storeAt, Instr.sureAddr, storeVar, AG, Value.cells]
    simp [run_sizeOf_sz ht, e, hn]
  · rw [iv_len] at hfl ⊢
    rw [← hfl, ← flatten_set hss hi]
    simp only [List.length_append, List.length_take, List.length_drop, hz]; omega
  · rw [p6, hn, ← flatten_set hss hi, flat_cons, flat_cons]
    congr 2
    rw [Nat.add_zero, List.take_append_of_le_length (by rw [iv_len]; omega), List.drop_append_of_le_length (by rw [iv_len]; omega), iv_take, iv_drop]
    simp [flat, iv]
theorem ostSec {b i N : Nat} {k : IntKind} {ss : List (List Int)} {z : List Int} {r : List Seg} {t : TypeId} (s : Nat) (hss : ∀ l ∈ ss, l.length = s) (K : WL c ops Q rest S L') (hz : z.length = s := by exact sc) (hx : ev S x = some (.pointer (some ⟨b, i * s, none⟩)) := by exact rfl) (hy : ev S y = some (AG [(s, iv k z)]) := by exact rfl) (hi : i < ss.length := by omega)
    (hu : Upd b (.cells ((N, iv k (ss.set i z).flatten) :: r) t) L (.cells ((N, iv k ss.flatten) :: r) t) L' := by exact upd) (ht : szB c.P T s = true := by kernel_rfl) : WL c ops Q (⟨none, .store T x y, ty, pos, af, none⟩ :: rest) S L :=
  WL.eff (d := none) rfl (E_storeSec hss hz hx hy hi hu ht) fun v M ⟨_, hM⟩ => by subst hM; exact K
theorem dstSec {b q N : Nat} {k : IntKind} {ss : List (List Int)} {z : List Int} {r : List Seg} {t : TypeId} (s : Nat) (hss : ∀ l ∈ ss, l.length = s) (ho : ops[i]? = some ⟨none, .store T x y, ty, pos, af, g⟩) (K : WD c ops Q Lr p S L') (hg : Gd ops S g := by exact trivial) (hz : z.length = s := by exact sc) (hx : ev S x = some (.pointer (some ⟨b, q * s, none⟩)) := by exact rfl) (hy : ev S y = some (AG [(s, iv k z)]) := by exact rfl) (hi : q < ss.length := by omega)
    (hu : Upd b (.cells ((N, iv k (ss.set q z).flatten) :: r) t) L (.cells ((N, iv k ss.flatten) :: r) t) L' := by exact upd) (ht : szB c.P T s = true := by kernel_rfl) (hsl : Lr.Sublist L := by exact subl) (hmm : ∀ p ∈ Lr, p ∈ L' := by simp) : WO c ops Q Lr i p S L :=
  WO.effG ho hg (d := none) rfl hsl (E_storeSec hss hz hx hy hi hu ht) fun v M ⟨_, hM⟩ => by subst hM; exact ⟨hmm, K⟩
/-- t is a slice of e, whose elements have s cells, all v. -/
def slEs (P : Program) (t e s by' : Nat) (v : Value) : Prop := P.underlying t = some (.slice e) ∧ ∃ i z, P.info? e = some i ∧ i.size = s ∧ i.bytes = by' ∧ i.zero = some z ∧ z.cells = Array.replicate s v
theorem E_makeSec {n s by' : Nat} {k k' k2 : IntKind} {q1 q2 : Int} {e : TypeId} (h0 : 0 < s) (ht : slEs c.P T e s by' (.int k2 0)) (hx : ev S x = some (.int k q1)) (hy : ev S y = some (.int k' q2)) (hq1 : q1 = (n : Int)) (hq2 : q2 = (n : Int)) (hb : n * by' ≤ 281474976710656) (hl : n ≤ 9223372036854775807) :
    Eff c S L (.makeSlice T x y) ty fun v M => ∃ b, v = .slice (some ⟨b, 0, none⟩) n n ∧ M = (b, .cells [(n * s, iv k2 (List.replicate n (List.replicate s 0)).flatten)] e) :: L := fun a w st => by
  subst hq1; subst hq2
  obtain ⟨hu, i, z, hi, h1, h2, hz', h3⟩ := ht
  have e1 := st.sl.ev hx; have e2 := st.sl.ev hy
  have hr := run_make (P := c.P) w T e i z hu hi hz' k k' n n (by omega) (by omega) (by rw [h2]; have : ((by' * n : Nat) : Int) ≤ 281474976710656 := by rw [Nat.mul_comm]; omega
                                                                                        rwa [Int.natCast_mul] at this) (by omega)
  have hfl : (List.replicate n (List.replicate s (0 : Int))).flatten = List.replicate (n * s) 0 := by simp
  refine ⟨_, w.alloc (.cells (madeCells z.cells ((n : Int).toNat * i.size)) e), _, .inl ?_, ?_, w.heap.size, rfl, rfl⟩
  · simp only [ex, execOp, e1, e2, Sem.run_bind, hr, Result.andThen_ok]
    simp
  · refine st.hp.alloc ⟨Fit.mk (by rw [hfl, iv_len]; simp) Fit.nil, ?_⟩
    congr 1
    rw [h1, h3, hfl]
    congr 1
    rw [← Array.toList_inj]
    apply List.ext_getElem
    · simp [madeCells, flat, iv_len]
    · intro j hj1 hj2
      have : j % s < s := Nat.mod_lt _ h0
      simp [madeCells, flat, iv, this]
theorem omkSec {n s by' : Nat} {k k' k2 : IntKind} {q1 q2 : Int} {e : TypeId} (ht : slEs c.P T e s by' (.int k2 0)) (K : ∀ b, WL c ops Q rest ((t, .slice (some ⟨b, 0, none⟩) n n) :: S) ((b, .cells [(n * s, iv k2 (List.replicate n (List.replicate s 0)).flatten)] e) :: L)) (h0 : 0 < s := by decide) (hx : ev S x = some (.int k q1) := by exact rfl) (hy : ev S y = some (.int k' q2) := by exact rfl)
    (hq1 : q1 = (n : Int) := by first | rfl | omega) (hq2 : q2 = (n : Int) := by first | rfl | omega) (hb : n * by' ≤ 281474976710656 := by omega) (hl : n ≤ 9223372036854775807 := by omega) (hd : Nat.blt t c.n = true := by exact rfl) : WL c ops Q (⟨some t, .makeSlice T x y, ty, pos, af, none⟩ :: rest) S L :=
  WL.eff (d := some t) hd (E_makeSec h0 ht hx hy hq1 hq2 hb hl) fun v M ⟨b, hv, hM⟩ => by subst hv; subst hM; exact K b
/-! ### slices of bools -/
theorem omkB {n : Nat} {k1 k2 : IntKind} {p q : Int} (e by' : Nat) (K : ∀ b, WL c ops Q rest ((t, .slice (some ⟨b, 0, none⟩) n n) :: S) ((b, .cells [(n, bv (List.replicate n false)), (n - n, [])] e) :: L))
    (hx : ev S x = some (.int k1 p) := by exact rfl) (hy : ev S y = some (.int k2 q) := by exact rfl) (hp : p = (n : Int) := by first | rfl | omega) (hq : q = (n : Int) := by first | rfl | omega) (ht : slE c.P T e by' = true := by kernel_rfl) (hz : zeroIs c.P e [(1, [.bool false])] := by exact zi) (hb : n * by' ≤ 281474976710656 := by omega) (hl : n ≤ 9223372036854775807 := by omega) (hd : Nat.blt t c.n = true := by exact rfl) :
    WL c ops Q (⟨some t, .makeSlice T x y, ty, pos, af, none⟩ :: rest) S L := by
  subst hp; subst hq
  refine WL.eff (d := some t) hd (E_make e by' (.bool false) ht hz hx hy hb hl) fun v M ⟨b, hv, hM⟩ => ?_
  subst hv; subst hM; rw [← bv_rep]; exact K b
theorem viB {ix : Operand} {b i len cap : Nat} {k : IntKind} (hx : ev S x = some (.slice (some ⟨b, 0, none⟩) len cap) := by exact rfl) (hi : ev S ix = some (.int k (i : Int)) := by exact rfl) (h1 : i < len := by omega) (ht : slB c.P T 1 = true := by kernel_rfl) : Val c S L (.indexAddr T x ix) ty (.pointer (some ⟨b, i, none⟩)) := by
  have := V_indexAddrS (c := c) (L := L) (ty := ty) 1 ht hx hi (by omega) (by omega); simpa using this
theorem viBZ {ix : Operand} {b len cap : Nat} {q : Int} {k : IntKind} (hx : ev S x = some (.slice (some ⟨b, 0, none⟩) len cap) := by exact rfl) (hi : ev S ix = some (.int k q) := by exact rfl) (h1 : 0 ≤ q ∧ q < len := by omega) (ht : slB c.P T 1 = true := by kernel_rfl) : Val c S L (.indexAddr T x ix) ty (.pointer (some ⟨b, q.toNat, none⟩)) := by
  have := V_indexAddrS (c := c) (L := L) (ty := ty) 1 ht hx hi h1.1 h1.2; simpa using this
theorem vldBo {b i N : Nat} {l : List Bool} {r : List Seg} (hx : ev S x = some (.pointer (some ⟨b, i, none⟩)) := by exact rfl) (hA : At c L b ((N, bv l) :: r) := by exact at_) (hi : i < l.length := by omega) (ht : scB c.P T = true := by kernel_rfl) : Val c S L (.load T x) ty (.bool (l.getD i false)) :=
  V_loadF ht hx hA (by rw [flat_cons, List.getElem?_append_left (by rw [bv_len]; exact hi)]; exact bv_get hi)
theorem E_storeBo {b i N : Nat} {l : List Bool} {u : Bool} {r : List Seg} {t : TypeId} (hx : ev S x = some (.pointer (some ⟨b, i, none⟩))) (hy : ev S y = some (.bool u)) (hi : i < l.length)
    (hu : Upd b (.cells ((N, bv (l.set i u)) :: r) t) L (.cells ((N, bv l) :: r) t) L') (ht : szB c.P T 1 = true) : Eff c S L (.store T x y) ty (fun u M => u = undef ∧ M = L') :=
  E_storeF ht hx hy rfl hu (by rw [flat_cons, List.length_append, bv_len]; omega) (fun hf => by obtain ⟨h1, h2⟩ := hf.cons; exact Fit.mk (by rw [bv_len, List.length_set]; rw [bv_len] at h1; exact h1) h2) (by rw [flat_cons, flat_cons, ← bv_set, List.set_append_left _ _ (by rw [bv_len]; exact hi)])
theorem ostBo {b i N : Nat} {l : List Bool} {u : Bool} {r : List Seg} {t : TypeId} (K : WL c ops Q rest S L') (hx : ev S x = some (.pointer (some ⟨b, i, none⟩)) := by exact rfl) (hy : ev S y = some (.bool u) := by exact rfl) (hi : i < l.length := by omega)
    (hu : Upd b (.cells ((N, bv (l.set i u)) :: r) t) L (.cells ((N, bv l) :: r) t) L' := by exact upd) (ht : szB c.P T 1 = true := by kernel_rfl) : WL c ops Q (⟨none, .store T x y, ty, pos, af, none⟩ :: rest) S L :=
  WL.eff (d := none) rfl (E_storeBo hx hy hi hu ht) fun v M ⟨_, hM⟩ => by subst hM; exact K
theorem dstBo {b q N : Nat} {l : List Bool} {u : Bool} {r : List Seg} {t : TypeId} (ho : ops[i]? = some ⟨none, .store T x y, ty, pos, af, g⟩) (K : WD c ops Q Lr p S L') (hg : Gd ops S g := by exact trivial) (hx : ev S x = some (.pointer (some ⟨b, q, none⟩)) := by exact rfl) (hy : ev S y = some (.bool u) := by exact rfl) (hi : q < l.length := by omega)
    (hu : Upd b (.cells ((N, bv (l.set q u)) :: r) t) L (.cells ((N, bv l) :: r) t) L' := by exact upd) (ht : szB c.P T 1 = true := by kernel_rfl) (hsl : Lr.Sublist L := by exact subl) (hmm : ∀ p ∈ Lr, p ∈ L' := by simp) : WO c ops Q Lr i p S L :=
  WO.effG ho hg (d := none) rfl hsl (E_storeBo hx hy hi hu ht) fun v M ⟨_, hM⟩ => by subst hM; exact ⟨hmm, K⟩
/-! ### ranges over maps -/
theorem run_getMap {P : Program} {w : World} {b : Nat} {k : IntKind} {m : List Ent} {ck : Nat} (h : w.heap[b]? = some (mapO k m ck)) : (getObj b).run P w = .ok (mapO k m ck) w := by
  simp [getObj, Sem.run, h, mapO]
theorem E_range {b ck : Nat} {k : IntKind} {m : List Ent} (hx : ev S x = some (.map (some b))) (hb : (b, Blk.obj (mapO k m ck)) ∈ L) (ht : (mapT c.P T k).isSome = true) :
    Eff c S L (.range T x) ty fun v M => ∃ r, v = .pointer (some ⟨r, 0, none⟩) ∧ M = (r, .obj (.mapIter (some b) ck #[] ck)) :: L := fun a w st => by
  have e1 := st.sl.ev hx
  obtain ⟨e, he⟩ := Option.isSome_iff_exists.1 ht
  obtain ⟨kt, hu, hk⟩ := mapT_open he
  have hh : w.heap[b]? = some (mapO k m ck) := obj_at hb st
  refine ⟨_, w.alloc (.mapIter (some b) ck #[] ck), _, .inl ?_, st.hp.alloc (k := .obj (.mapIter (some b) ck #[] ck)) ⟨fun _ _ _ h => (by cases h), rfl⟩, w.heap.size, rfl, rfl⟩
  have hg := run_getMap (P := c.P) hh
  unfold mapO at hg
  simp [ex, execOp, e1, Instr.range, run_underlying hu, hg]
theorem orng {b ck : Nat} {k : IntKind} {m : List Ent} (K : ∀ r, WL c ops Q rest ((t, .pointer (some ⟨r, 0, none⟩)) :: S) ((r, .obj (.mapIter (some b) ck #[] ck)) :: L)) (hx : ev S x = some (.map (some b)) := by exact rfl) (hb : (b, Blk.obj (mapO k m ck)) ∈ L := by exact mm) (ht : (mapT c.P T k).isSome = true := by kernel_rfl) (hd : Nat.blt t c.n = true := by exact rfl) :
    WL c ops Q (⟨some t, .range T x, ty, pos, af, none⟩ :: rest) S L :=
  WL.eff (d := some t) hd (E_range hx hb ht) fun v M ⟨r, hv, hM⟩ => by subst hv; subst hM; exact K r
theorem entL_mem {k : IntKind} {m : List Ent} {e : MapEntry} (h : e ∈ entL k m) : ∃ e' ∈ m, e = ⟨.int k e'.1, e'.2.1, e'.2.2⟩ := by
  obtain ⟨e', h1, h2⟩ := List.mem_map.1 h; exact ⟨e', h1, h2.symm⟩
theorem onext {b r ck : Nat} {k : IntKind} {m : List Ent} {seen : Array Nat} {Lf : Nat → List (Nat × Blk)}
    (K0 : (∀ e ∈ m, seen.contains e.2.2 = true) → WL c ops Q rest ((t, .tuple #[.bool false]) :: S) L)
    (K1 : ∀ e ∈ m, seen.contains e.2.2 = false → WL c ops Q rest ((t, .tuple #[.bool true, .int k e.1, e.2.1]) :: S) (Lf e.2.2))
    (hold : ∀ e ∈ m, e.2.2 < ck := by exact sc) (hx : ev S x = some (.pointer (some ⟨r, 0, none⟩)) := by exact rfl) (hb : (b, Blk.obj (mapO k m ck)) ∈ L := by exact mm)
    (hu : ∀ n, Upd r (.obj (.mapIter (some b) ck (seen.push n) ck)) L (.obj (.mapIter (some b) ck seen ck)) (Lf n) := by intro n; exact upd) (hd : Nat.blt t c.n = true := by exact rfl) :
    WL c ops Q (⟨some t, .next x false, ty, pos, af, none⟩ :: rest) S L := by
  refine WL.eff (d := some t) hd (R := fun v M => (v = .tuple #[.bool false] ∧ M = L ∧ ∀ e ∈ m, seen.contains e.2.2 = true) ∨ ∃ e ∈ m, seen.contains e.2.2 = false ∧ v = .tuple #[.bool true, .int k e.1, e.2.1] ∧ M = Lf e.2.2) ?_ ?_
  · intro a w st
    have e1 := st.sl.ev hx
    have hr : w.heap[r]? = some (.mapIter (some b) ck seen ck) := obj_at (hu 0).mem st
    have hh : w.heap[b]? = some (.map (entL k m).toArray ck) := obj_at hb st
    rcases run_next_at (P := c.P) w ty r b ck ck seen (entL k m).toArray ck hr hh (fun x hx => by obtain ⟨e', h1, rfl⟩ := entL_mem (by simpa using hx); exact hold e' h1) (Nat.le_refl _) with ⟨h0, hrun⟩ | ⟨e, he, w1, hw1, hrun⟩
    · refine ⟨_, w, L, .inl (by simp [ex, execOp, e1, hrun]), st.hp, .inl ⟨rfl, rfl, fun e he => ?_⟩⟩
      have hem : (⟨.int k e.1, e.2.1, e.2.2⟩ : MapEntry) ∈ (entL k m).toArray := by simp [entL]; exact ⟨_, _, _, he, rfl, rfl, rfl⟩
      have h1 := Array.eq_empty_of_size_eq_zero h0
      unfold leftOf at h1
      rw [Array.filter_eq_empty_iff] at h1
      have := h1 _ hem
      simpa using this
    · unfold leftOf at he
      simp only [Array.toList_filter, List.mem_filter] at he
      obtain ⟨e', h1, rfl⟩ := entL_mem he.1
      have hs : seen.contains e'.2.2 = false := by simpa using he.2
      have hp1 : HP c.w0 w1 c.O L := by rcases hw1 with rfl | rfl; exact st.hp; exact st.hp.drew _
      have hr1 : w1.heap[r]? = some (.mapIter (some b) ck seen ck) := by rcases hw1 with rfl | rfl <;> exact hr
      have hlt : r < w1.heap.size := (Array.getElem?_eq_some_iff.1 hr1).1
      refine ⟨_, _, _, .inl (by simp [ex, execOp, e1, hrun]), hp1.upd (w' := Go.ChangeMaps.setBlock w1 r (.mapIter (some b) ck (seen.push e'.2.2) ck)) (hu e'.2.2) rfl rfl rfl (by simp [Go.ChangeMaps.setBlock]) (fun i hi => by simp [Go.ChangeMaps.setBlock, Array.getElem?_setIfInBounds_ne (Ne.symm hi)]) ⟨fun _ _ _ h => (by cases h), by simp [Go.ChangeMaps.setBlock, hlt]⟩, .inr ⟨e', h1, hs, rfl, rfl⟩⟩
  · rintro v M (⟨rfl, rfl, h⟩ | ⟨e, he, hs, rfl, rfl⟩)
    · exact K0 h
    · exact K1 e he hs
theorem vent {b r ck : Nat} {k : IntKind} {m : List Ent} {seen : Array Nat} {e : Ent} (he : e ∈ m) (hn : (m.map (·.2.2)).Nodup := by exact sc) (hx : ev S x = some (.pointer (some ⟨r, 0, none⟩)) := by exact rfl) (hb : (b, Blk.obj (mapO k m ck)) ∈ L := by exact mm) (hr : (r, Blk.obj (.mapIter (some b) ck (seen.push e.2.2) ck)) ∈ L := by exact mm) :
    Val c S L (.entry x) ty (.tuple #[.int k e.1, e.2.1]) := fun a w st => by
  have e1 := st.sl.ev hx
  have h1 : w.heap[r]? = some (.mapIter (some b) ck (seen.push e.2.2) ck) := obj_at hr st
  have h2 : w.heap[b]? = some (.map (entL k m).toArray ck) := obj_at hb st
  have := run_entry_at (P := c.P) w r b ck seen (entL k m).toArray ck ⟨.int k e.1, e.2.1, e.2.2⟩ h1 h2 (by simp [entL]; exact ⟨_, _, _, he, rfl, rfl, rfl⟩) (by simpa [entL, List.map_map, Function.comp_def] using hn)
  simp [ex, execOp, e1, this]
/-! ### clear -/
theorem E_clear {b ck : Nat} {k : IntKind} {m : List Ent} (hx : ev S x = some (.map (some b))) (hu : Upd b (.obj (mapO k [] ck)) L (.obj (mapO k m ck)) L') (ht : (mapT c.P T k).isSome = true) :
    Eff c S L (.call ⟨.builtin .clear, #[x], #[T]⟩) ty fun u M => u = .tuple #[] ∧ M = L' := fun a w st => by
  have e1 := st.sl.ev hx
  obtain ⟨e, he⟩ := Option.isSome_iff_exists.1 ht
  obtain ⟨kt, hun, hk⟩ := mapT_open he
  have hh : w.heap[b]? = some (.map (entL k m).toArray ck) := obj_at hu.mem st
  have hg := Go.MapKept.run_getObj_map (P := c.P) hh
  have hlt : b < w.heap.size := (Array.getElem?_eq_some_iff.1 hh).1
  refine ⟨_, { w with heap := w.heap.setIfInBounds b (mapO k [] ck) }, L', .inl ?_, st.hp.upd hu rfl rfl rfl (by simp) (fun i hi => by simp [Array.getElem?_setIfInBounds_ne (Ne.symm hi)]) ⟨fun _ _ _ h => by simp [mapO] at h, by simp [hlt]⟩, rfl, rfl⟩
  simp [ex, execOp, e1, resolve, Deferred.ofValue, invoke, builtin, Builtin.clear_, run_underlying hun, hg, Go.MapKept.run_setObj_map (P := c.P) _ hh, mapO, entL]
theorem oclr {b ck : Nat} {k : IntKind} {m : List Ent} (K : WL c ops Q rest (putS d (.tuple #[]) S) L') (hx : ev S x = some (.map (some b)) := by exact rfl) (hu : Upd b (.obj (mapO k [] ck)) L (.obj (mapO k m ck)) L' := by exact upd) (ht : (mapT c.P T k).isSome = true := by kernel_rfl) (hd : inB c.n d = true := by exact rfl) :
    WL c ops Q (⟨d, .call ⟨.builtin .clear, #[x], #[T]⟩, ty, pos, af, none⟩ :: rest) S L :=
  WL.eff (d := d) hd (E_clear hx hu ht) fun v M ⟨hv, hM⟩ => by subst hv; subst hM; exact K
end
end Go.X

/- Slices of structs, and of bools, that came in. -/
namespace Go.X
open Go.RowKit Go.WideShapes Go.ChangeShapes
theorem okD_one {w : World} : ∀ {d : Ds} {cs : List Value}, okD w d cs → ∀ v ∈ cs, one v = true
  | .int k, cs, h, v, hv => by obtain ⟨n, rfl, _⟩ := h; rw [List.mem_singleton.1 hv]; rfl
  | .bool, cs, h, v, hv => by obtain ⟨b, rfl⟩ := h; rw [List.mem_singleton.1 hv]; rfl
  | .sl d, cs, h, v, hv => by obtain ⟨A, n, cap, rfl, _⟩ := h; rw [List.mem_singleton.1 hv]; rfl
  | .fnil, cs, h, v, hv => by rw [show cs = [] from h] at hv; cases hv
  | .fcons d r, cs, h, v, hv => by
    rw [← List.take_append_drop d.size cs] at hv
    rcases List.mem_append.1 hv with hv | hv
    · exact okD_one h.1 v hv
    · exact okD_one h.2 v hv
  | .arr n d, cs, h, v, hv => by
    obtain ⟨h1, h2⟩ := h
    obtain ⟨j, hj, rfl⟩ := List.getElem_of_mem hv
    have hs : 0 < d.size := by
      rcases Nat.eq_zero_or_pos d.size with h0 | h0
      · rw [h0, Nat.mul_zero] at h1; omega
      · exact h0
    have hin : j / d.size < n := Nat.div_lt_of_lt_mul (by rw [Nat.mul_comm, ← h1]; exact hj)
    refine okD_one (h2 _ hin) _ ?_
    have hm := Nat.mod_lt j hs
    have hdj : j / d.size * d.size + j % d.size = j := by rw [Nat.mul_comm]; exact Nat.div_add_mod j d.size
    have : ((cs.drop (j / d.size * d.size)).take d.size)[j % d.size]? = some cs[j] := by
      rw [List.getElem?_take_of_lt hm, List.getElem?_drop, hdj, List.getElem?_eq_getElem hj]
    exact List.mem_of_getElem? this
theorem flatten_at {α : Type} {s : Nat} : ∀ {ss : List (List α)} {i k : Nat}, (∀ l ∈ ss, l.length = s) → (h : i < ss.length) → k < s → ss.flatten[i * s + k]? = ss[i][k]?
  | [], i, k, _, h, _ => by simp at h
  | l :: ss, 0, k, h, _, hk => by
    have hl := h l List.mem_cons_self
    simp [List.getElem?_append_left (show k < l.length by omega)]
  | l :: ss, i + 1, k, h, hi, hk => by
    have hl := h l List.mem_cons_self
    have ih := flatten_at (ss := ss) (i := i) (k := k) (fun x hx => h x (List.mem_cons_of_mem _ hx)) (by simpa using hi) hk
    rw [List.flatten_cons, show (i + 1) * s + k = l.length + (i * s + k) by rw [Nat.succ_mul]; omega, List.getElem?_append_right (by omega), Nat.add_sub_cancel_left, ih]; rfl
/-- A slice's elements, as cells. -/
theorem okD_els {w : World} {d : Ds} {A : Option Addr} {n cap : Nat} (hd : 0 < d.size) (h : okD w (.sl d) [.slice A n cap]) :
    n ≤ cap ∧ cap ≤ maxLen ∧ ∃ es : List (List Value), es.length = n ∧ (∀ e ∈ es, okD w d e ∧ e.length = d.size) ∧ SrW w 1 A (n * d.size) es.flatten := by
  obtain ⟨A', n', cap', e, h1, h2, es, h3, h4⟩ := h
  simp only [List.cons.injEq, Value.slice.injEq, and_true] at e
  obtain ⟨rfl, rfl, rfl⟩ := e
  have hes : ∀ e ∈ es, okD w d e ∧ e.length = d.size := fun e he => by
    obtain ⟨i, hi⟩ := List.getElem?_of_mem he
    exact ⟨(h4 i e hi).1, (h4 i e hi).2.1⟩
  have hfl := flatten_len (ss := es) fun e he => (hes e he).2
  refine ⟨h1, h2, es, h3, hes, by rw [hfl, h3]; omega, fun v hv => ?_, fun j v hv => ?_⟩
  · obtain ⟨e, he, hve⟩ := List.mem_flatten.1 hv
    exact okD_one (hes e he).1 v hve
  · have hj : j < es.length * d.size := by have := (List.getElem?_eq_some_iff.1 hv).1; omega
    have hi : j / d.size < es.length := Nat.div_lt_of_lt_mul (by rw [Nat.mul_comm]; exact hj)
    have hm := Nat.mod_lt j hd
    have hdj : j / d.size * d.size + j % d.size = j := by rw [Nat.mul_comm]; exact Nat.div_add_mod j d.size
    have hat := flatten_at (ss := es) (i := j / d.size) (k := j % d.size) (fun e he => (hes e he).2) hi hm
    rw [hdj, hv] at hat
    obtain ⟨_, _, a, ha, hcell⟩ := h4 _ _ (List.getElem?_eq_getElem hi)
    have h0 := hcell (j % d.size) v hat.symm
    rw [hdj] at h0
    obtain ⟨e0, he0⟩ : ∃ e0, es[0]? = some e0 := ⟨_, List.getElem?_eq_getElem (Nat.lt_of_le_of_lt (Nat.zero_le _) hi)⟩
    obtain ⟨_, hl0, a', ha', hcell0⟩ := h4 0 e0 he0
    rw [ha] at ha'; injection ha' with ha'; subst ha'
    have h00 : 0 < e0.length := by rw [hl0]; exact hd
    have hsp := spot_none (hcell0 0 (e0[0]'h00) (List.getElem?_eq_getElem h00))
    obtain ⟨b, o, s⟩ := a
    simp only [Nat.zero_mul, Nat.zero_add, Addr.add, if_true] at hsp
    subst hsp
    refine ⟨b, o, ha, ?_⟩
    rw [add_none] at h0
    exact h0
theorem okD_bools {w : World} {A : Option Addr} {n cap : Nat} (h : okD w (.sl .bool) [.slice A n cap]) : n ≤ cap ∧ cap ≤ maxLen ∧ ∃ l : List Bool, l.length = n ∧ SrW w 1 A n (bv l) := by
  obtain ⟨h1, h2, es, h3, h4, h5⟩ := okD_els (d := .bool) (by decide) h
  refine ⟨h1, h2, es.map (fun e => match e with | [.bool b] => b | _ => false), by simp [h3], ?_⟩
  have : es.flatten = bv (es.map (fun e => match e with | [.bool b] => b | _ => false)) := by
    clear h5 h3
    induction es with
    | nil => rfl
    | cons e es ih =>
      obtain ⟨⟨b, rfl⟩, _⟩ := h4 e List.mem_cons_self
      rw [List.flatten_cons, ih fun x hx => h4 x (List.mem_cons_of_mem _ hx)]; rfl
  rw [← this]; simpa [Ds.size] using h5
section
variable {c : Cx} {S : Slots} {L : List (Nat × Blk)} {ty T : TypeId} {x y : Operand} {v : Value}
/-- An element's address, of a slice that came in. -/
theorem viO {ix : Operand} {b o i len cap : Nat} {k : IntKind} (s : Nat) (hx : ev S x = some (.slice (some ⟨b, o, none⟩) len cap) := by exact rfl) (hi : ev S ix = some (.int k (i : Int)) := by exact rfl) (h1 : i < len := by omega) (ht : slB c.P T s = true := by kernel_rfl) : Val c S L (.indexAddr T x ix) ty (.pointer (some ⟨b, o + i * s, none⟩)) := by
  have := V_indexAddrS (c := c) (L := L) (ty := ty) s ht hx hi (by omega) (by omega); simpa using this
/-- One of its fields. -/
theorem vldO {α : Type} [Inhabited α] {b o q N : Nat} {l : List α} {f : α → List Value} (s i k : Nat) (hf : ∀ x, (f x).length = s) (hs : SrW c.w0 1 (some ⟨b, o, none⟩) N (l.flatMap f)) (hO : b ∉ c.O := by simp) (ht : scB c.P T = true := by kernel_rfl) (hx : ev S x = some (.pointer (some ⟨b, q, none⟩)) := by exact rfl)
    (hi : i < l.length := by omega) (hk : k < s := by omega) (hq : q = o + (i * s + k) := by omega) (hv : (f (l.getD i default))[k]? = some v := by rfl) : Val c S L (.load T x) ty v := by
  have h2 : (l.flatMap f)[i * s + k]? = some v := by
    rw [List.flatMap_def, flatten_at (ss := l.map f) (i := i) (k := k) (fun e he => by obtain ⟨a, _, rfl⟩ := List.mem_map.1 he; exact hf a) (by simpa using hi) hk, ← hv, List.getElem_map, List.getD_eq_getElem?_getD, List.getElem?_eq_getElem hi]; rfl
  exact V_loadSr (fun w hp => hs.step hp (by rintro b' o' e hb; injection e with e; injection e with e1; subst e1; exact hO hb)) rfl ht hx hq h2
/-- An element, whole. -/
theorem vldOA {α : Type} [Inhabited α] {b o q N : Nat} {l : List α} {f : α → List Value} {ds : List Seg} (s i : Nat) (hf : ∀ x, (f x).length = s) (hs : SrW c.w0 1 (some ⟨b, o, none⟩) N (l.flatMap f)) (hd : flat ds = f (l.getD i default)) (hO : b ∉ c.O := by simp) (ht : agB c.P T s = true := by kernel_rfl) (hx : ev S x = some (.pointer (some ⟨b, q, none⟩)) := by exact rfl)
    (hi : i < l.length := by omega) (hq : q = o + i * s := by omega) : Val c S L (.load T x) ty (AG ds) := fun a w st => by
  have hw : SrW w 1 (some ⟨b, o, none⟩) N (l.flatMap f) := hs.step st.hp (by rintro b' o' e hb; injection e with e; injection e with e1; subst e1; exact hO hb)
  have e1 := st.sl.ev hx
  have hel : l.getD i default = l[i] := by rw [List.getD_eq_getElem?_getD, List.getElem?_eq_getElem hi]; rfl
  have hfi : (f l[i]).length = s := hf _
  have hcells : ∀ (j k : Nat) (acc : Array Value), k + j ≤ s → (loadCellsFrom ⟨b, q, none⟩ k j acc).run c.P w = .ok (acc ++ (((f l[i]).drop k).take j).toArray) w := by
    intro j
    induction j with
    | zero => intro k acc _; simp [loadCellsFrom]
    | succ j ih =>
      intro k acc hle
      have h2 : (l.flatMap f)[i * s + k]? = some ((f l[i])[k]'(by omega)) := by
        rw [List.flatMap_def, flatten_at (ss := l.map f) (i := i) (k := k) (fun e he => by obtain ⟨a, _, rfl⟩ := List.mem_map.1 he; exact hf a) (by simpa using hi) (by omega), List.getElem_map, List.getElem?_eq_getElem (by omega)]
      obtain ⟨b2, o2, e2, hcell⟩ := hw.2.2 _ _ h2
      injection e2 with e2; injection e2 with e3 e4; subst e3; subst e4
      have hcell' : w.cell? ((⟨b, q, none⟩ : Addr).add k) = some ((f l[i])[k]'(by omega)) := by rw [add_none, ← hcell, hq]; congr 2; omega
      simp only [loadCellsFrom, Sem.run_bind, load, Sem.run, hcell', Result.andThen_ok]
      rw [ih (k + 1) _ (by omega)]
      congr 1
      rw [List.drop_eq_getElem_cons (show k < (f l[i]).length by omega), List.take_succ_cons]
      simp
  have hL := hcells s 0 #[] (by omega)
  rw [List.drop_zero, List.take_of_length_le (by omega), ← hel, ← hd] at hL
  simp [ex, execOp, e1, Instr.loadAt, Instr.sureAddr, loadVar, run_isAgg_ag ht, run_sizeOf_sz (sz_of_ag ht), loadCells, hL, AG]
/-- An element of an array of arrays. -/
theorem viASec {ix : Operand} {b i : Nat} {k : IntKind} (n s : Nat) (hx : ev S x = some (.pointer (some ⟨b, 0, none⟩)) := by exact rfl) (hi : ev S ix = some (.int k (i : Int)) := by exact rfl) (h1 : i < n := by omega) (ht : arB c.P T n s = true := by kernel_rfl) : Val c S L (.indexAddr T x ix) ty (.pointer (some ⟨b, i * s, none⟩)) := by
  have := V_indexAddrA (c := c) (L := L) (ty := ty) n s ht hx hi (by omega) (by omega); simpa using this
theorem viASecZ {ix : Operand} {b : Nat} {q : Int} {k : IntKind} (n s : Nat) (hx : ev S x = some (.pointer (some ⟨b, 0, none⟩)) := by exact rfl) (hi : ev S ix = some (.int k q) := by exact rfl) (h1 : 0 ≤ q ∧ q < n := by omega) (ht : arB c.P T n s = true := by kernel_rfl) : Val c S L (.indexAddr T x ix) ty (.pointer (some ⟨b, q.toNat * s, none⟩)) := by
  have := V_indexAddrA (c := c) (L := L) (ty := ty) n s ht hx hi h1.1 h1.2; simpa using this
end
section
variable {c : Cx} {Q : Post} {S : Slots} {L Lr Lx : List (Nat × Blk)} {ops : Array Oper} {d : Option Tmp} {ty : TypeId} {pos : String} {af : Array Edge} {rest : List Oper} {g : Option (Nat × Bool)} {i : Nat} {p : Plan}
/-- A call that changes some tracked blocks, and yields others, laid behind the rest. -/
theorem cgX {ι : Type} {f : FuncId} {xs : Array Operand} {ats : Array TypeId} {vs : List Value} {bs : List Nat} {V : ι → Value} {M G : ι → List (Nat × Blk)} {A : ι → Prop} (ha : evs S xs.toList = some vs)
    (hc : ∀ w, HP c.w0 w c.O L → Calls c.P f vs.toArray w fun e w' => ∃ r, A r ∧ e = .returned (V r) ∧ HP w w' bs (M r ++ G r)) (k : ∀ r, A r → WL c ops Q rest (putS d (V r) S) (M r ++ (Lr ++ G r)))
    (hdel : Dels bs L Lr := by exact dels) (hf : fnB c.P f = true := by kernel_rfl) (hd : inB c.n d = true := by exact rfl) : WL c ops Q (⟨d, .call ⟨.value (.func f), xs, ats⟩, ty, pos, af, none⟩ :: rest) S L :=
  WL.call bs V (fun r => M r ++ G r) A hd hf ha hdel hc fun r hr a w st => k r hr a w ⟨st.sl, st.hp.perm (by
    rw [List.append_assoc]; exact List.Perm.append_left _ List.perm_append_comm)⟩
theorem dcgX {ι : Type} {f : FuncId} {xs : Array Operand} {ats : Array TypeId} {vs : List Value} {bs : List Nat} {V : ι → Value} {M G : ι → List (Nat × Blk)} {A : ι → Prop} (ho : ops[i]? = some ⟨d, .call ⟨.value (.func f), xs, ats⟩, ty, pos, af, g⟩) (ha : evs S xs.toList = some vs)
    (hc : ∀ w, HP c.w0 w c.O L → Calls c.P f vs.toArray w fun e w' => ∃ r, A r ∧ e = .returned (V r) ∧ HP w w' bs (M r ++ G r)) (k : ∀ r, A r → WD c ops Q Lr p (putS d (V r) S) (M r ++ (Lx ++ G r)))
    (hg : Gd ops S g := by exact trivial) (hdel : Dels bs L Lx := by exact dels) (hf : fnB c.P f = true := by kernel_rfl) (hd : inB c.n d = true := by exact rfl) (hs : Lr.Sublist L := by exact subl) (hm : ∀ p ∈ Lr, p ∈ Lx := by simp) : WO c ops Q Lr i p S L :=
  dcg (M := fun r => M r ++ G r) ho ha hc (fun r hr a w st => k r hr a w ⟨st.sl, st.hp.perm (by
    rw [List.append_assoc]; exact List.Perm.append_left _ List.perm_append_comm)⟩) hg hdel hf hd hs hm
end
end Go.X
