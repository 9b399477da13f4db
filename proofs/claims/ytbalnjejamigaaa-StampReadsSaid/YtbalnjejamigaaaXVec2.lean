/- Slices made, cut, copied; single cells by their place; strings. -/
import Derived.Test.YtbalnjejamigaaaXVec
set_option linter.unusedVariables false
set_option linter.unusedSimpArgs false
namespace Go.X
open Go.RowKit
section
variable {c : Cx} {S : Slots} {L L' Lr : List (Nat × Blk)} {ty : TypeId} {x y z : Operand} {T T' : TypeId}

/-! ### one cell by its place -/
theorem V_loadF {b o : Nat} {cs : List Seg} {v : Value} (ht : scB c.P T = true) (hx : ev S x = some (.pointer (some ⟨b, o, none⟩))) (hA : At c L b cs) (hv : (flat cs)[o]? = some v) : Val c S L (.load T x) ty v := V_load1 ht hx hA hv

theorem E_storeF {b o : Nat} {cs cs' : List Seg} {t : TypeId} {v : Value} (ht : szB c.P T 1 = true) (hx : ev S x = some (.pointer (some ⟨b, o, none⟩))) (hy : ev S y = some v) (h1 : one v = true)
    (hu : Upd b (.cells cs' t) L (.cells cs t) L') (hl : o < (flat cs).length) (hf' : Fit cs → Fit cs') (hs : flat cs' = (flat cs).set o v) : Eff c S L (.store T x y) ty (fun u M => u = undef ∧ M = L') := fun a w st => by
  have e1 := st.sl.ev hx; have e2 := st.sl.ev hy
  obtain ⟨hf, hb⟩ := st.hp.held _ hu.mem
  obtain ⟨w', e, p1, p2, p3, p4, p5, p6⟩ := run_storeCells (P := c.P) o [v] 0 (flat cs) w hb (by simpa using h1) (by simp; omega)
  refine ⟨undef, w', L', .inr ⟨?_, rfl⟩, st.hp.upd hu p1 p2 p3 p4 p5 ⟨hf' hf, ?_⟩, rfl, rfl⟩
  · have hcells : v.cells = #[v] := by cases v <;> first | rfl | (simp [one] at h1; done)
    simp only [ex, execOp, e1, e2, Instr.storeAt, Instr.sureAddr, storeVar, hcells]
    simp [run_sizeOf_sz ht, e]
  · rw [p6, hs]
    congr 2
    rw [List.set_eq_take_append_cons_drop, if_pos hl]
    simp

/-- A list of integers as cells. -/
def iv (k : IntKind) (l : List Int) : List Value := l.map (Value.int k)
theorem iv_len {k : IntKind} {l : List Int} : (iv k l).length = l.length := by simp [iv]
theorem iv_get {k : IntKind} {l : List Int} {i : Nat} (h : i < l.length) : (iv k l)[i]? = some (.int k (l.getD i 0)) := by
  simp [iv, List.getElem?_eq_getElem h]
theorem iv_set {k : IntKind} {l : List Int} {i : Nat} {n : Int} : (iv k l).set i (.int k n) = iv k (l.set i n) := by simp [iv, List.map_set]
theorem iv_app {k : IntKind} {l l' : List Int} : iv k l ++ iv k l' = iv k (l ++ l') := by simp [iv]
theorem iv_take {k : IntKind} {l : List Int} {i : Nat} : (iv k l).take i = iv k (l.take i) := by simp [iv, List.map_take]
theorem iv_drop {k : IntKind} {l : List Int} {i : Nat} : (iv k l).drop i = iv k (l.drop i) := by simp [iv, List.map_drop]
theorem iv_one {k : IntKind} {l : List Int} : ∀ v ∈ iv k l, one v = true := by simp [iv, one]
theorem iv_rep {k : IntKind} {n : Nat} {a : Int} : List.replicate n (Value.int k a) = iv k (List.replicate n a) := by simp [iv]

/-! ### made -/
theorem E_make {n : Nat} {k k' : IntKind} (e by' : Nat) (zv : Value) (ht : slE c.P T e by' = true) (hz : zeroIs c.P e [(1, [zv])]) (hx : ev S x = some (.int k n)) (hy : ev S y = some (.int k' n)) (hb : n * by' ≤ 281474976710656) (hl : n ≤ 9223372036854775807) :
    Eff c S L (.makeSlice T x y) ty fun v M => ∃ b, v = .slice (some ⟨b, 0, none⟩) n n ∧ M = (b, .cells [(n, List.replicate n zv), (n - n, [])] e) :: L := fun a w st => by
  obtain ⟨hu, i, z, hi, h1, h2, hz', h3⟩ := slE_open ht
  have e1 := st.sl.ev hx; have e2 := st.sl.ev hy
  have hzc : z.cells = #[zv] := by
    obtain ⟨hz1, _⟩ := hz
    simp [hi, hz', flat] at hz1; exact hz1
  have hr := run_makeSlice (P := c.P) w T e i z hu hi hz' k k' n n (by omega) (by omega)
  have hr := run_make (P := c.P) w T e i z hu hi hz' k k' n n (by omega) (by omega) (by rw [h2]; have : ((by' * n : Nat) : Int) ≤ 281474976710656 := by rw [Nat.mul_comm]; omega
                                                                                        rwa [Int.natCast_mul] at this) (by omega)
  refine ⟨_, w.alloc (.cells (madeCells z.cells ((n : Int).toNat * i.size)) e), _, .inl ?_, ?_, w.heap.size, rfl, rfl⟩
  · simp only [ex, execOp, e1, e2, Sem.run_bind, hr, Result.andThen_ok]
    simp
  · refine st.hp.alloc ⟨Fit.mk (by simp) (Fit.mk (by simp) Fit.nil), ?_⟩
    congr 1
    rw [h1, hzc]
    congr 1
    rw [← Array.toList_inj]
    apply List.ext_getElem
    · simp [madeCells, flat]
    · intro j hj1 hj2
      simp [madeCells, flat, Nat.mod_one]

/-! ### cut -/
def sldB (P : Program) (t s : Nat) : Bool := slB P t s
theorem run_bounds {P : Program} {w : World} {q : Bool} {len cap : Nat} {lo hi : Option Value} {l h : Nat} (h1 : l ≤ h) (h2 : h ≤ cap)
    (hlo : (lo = none ∧ l = 0) ∨ ∃ k, lo = some (.int k l)) (hhi : (hi = none ∧ h = len) ∨ ∃ k, hi = some (.int k h)) : (Instr.sliceBounds q len cap lo hi none).run P w = .ok (l, h, cap) w := by
  rcases hlo with ⟨rfl, rfl⟩ | ⟨k, rfl⟩ <;> rcases hhi with ⟨rfl, rfl⟩ | ⟨k', rfl⟩ <;> simp [Instr.sliceBounds, Instr.sliceBound, asIntOf, h1, h2]

inductive Lo (S : Slots) : Option Operand → Nat → Prop where
  | no : Lo S none 0
  | yes {x : Operand} {k : IntKind} {p : Int} {l : Nat} (hx : ev S x = some (.int k p)) (h : p = l) : Lo S (some x) l
inductive Hi (S : Slots) : Option Operand → Nat → Nat → Prop where
  | no {n : Nat} : Hi S none n n
  | yes {x : Operand} {k : IntKind} {p : Int} {n h : Nat} (hx : ev S x = some (.int k p)) (hp : p = h) : Hi S (some x) n h
theorem Lo.run {n : Nat} {a : Act} {lo : Option Operand} {l : Nat} (h : Lo S lo l) (sl : Sl n a S) : (lo.map a.eval = none ∧ l = 0) ∨ ∃ k, lo.map a.eval = some (.int k l) := by
  cases h with
  | no => exact .inl ⟨rfl, rfl⟩
  | @yes _ k _ _ hx h => subst h; exact .inr ⟨k, by simp [sl.ev hx]⟩
theorem Hi.run {n m : Nat} {a : Act} {lo : Option Operand} {l : Nat} (h : Hi S lo m l) (sl : Sl n a S) : (lo.map a.eval = none ∧ l = m) ∨ ∃ k, lo.map a.eval = some (.int k l) := by
  cases h with
  | no => exact .inl ⟨rfl, rfl⟩
  | @yes _ k _ _ _ hx h => subst h; exact .inr ⟨k, by simp [sl.ev hx]⟩

theorem V_slice {A : Option Addr} {len cap l h s : Nat} {lo hi : Option Operand} (ht : slB c.P T s = true) (hx : ev S x = some (.slice A len cap)) (hlo : Lo S lo l) (hhi : Hi S hi len h) (h1 : l ≤ h) (h2 : h ≤ cap) :
    Val c S L (.slice T x lo hi none) ty (.slice (cutA A l cap s) (h - l) (cap - l)) := fun a w st => by
  have e1 := st.sl.ev hx
  have hb := run_bounds (P := c.P) (w := w) (q := true) (len := len) h1 h2 (hlo.run st.sl) (hhi.run st.sl)
  unfold slB at ht
  split at ht <;> try (cases ht; done)
  rename_i e' hu
  simp only [ex, execOp, e1, Instr.sliceAt, Sem.run_bind, run_underlying hu, Result.andThen_ok, Instr.slice, Option.map_none, hb, run_sizeOf_sz ht]
  simp [cutA]
theorem cutA_some {b o l m s : Nat} (h : l < m) : cutA (some ⟨b, o, none⟩) l m s = some ⟨b, o + l * s, none⟩ := by
  unfold cutA; rw [if_neg (by omega)]; simp [add_none]
theorem cutA_zero {A : Option Addr} {m s : Nat} : cutA A 0 m s = A := by
  unfold cutA; split
  · rfl
  · cases A <;> simp [Addr.add]
theorem V_sliceP {b o n l h s : Nat} {lo hi : Option Operand} (ht : arB c.P T n s = true) (hx : ev S x = some (.pointer (some ⟨b, o, none⟩))) (hlo : Lo S lo l) (hhi : Hi S hi n h) (h1 : l ≤ h) (h2 : h ≤ n) :
    Val c S L (.slice T x lo hi none) ty (.slice (cutA (some ⟨b, o, none⟩) l n s) (h - l) (n - l)) := fun a w st => by
  have e1 := st.sl.ev hx
  have hb := run_bounds (P := c.P) (w := w) (q := false) (len := n) h1 h2 (hlo.run st.sl) (hhi.run st.sl)
  unfold arB at ht
  split at ht <;> try (cases ht; done)
  rename_i m e' hu
  simp only [Bool.and_eq_true, beq_iff_eq] at ht
  obtain ⟨rfl, ht⟩ := ht
  simp only [ex, execOp, e1, Instr.sliceAt, Sem.run_bind, run_underlying hu, Result.andThen_ok, Instr.sureAddr, Option.map_none, run_sizeOf_sz ht]
  simp only [Sem.run_pure, Result.andThen_ok, hb, cutA]
  split <;> rfl

/-! ### copied -/
theorem E_copy {bd o n dcap m scap : Nat} {A : Option Addr} {ys : List Value} {cs cs' : List Seg} {t : TypeId} (ht : slB c.P T 1 = true) (hx : ev S x = some (.slice (some ⟨bd, o, none⟩) n dcap)) (hy : ev S y = some (.slice A m scap))
    (hs : Sr c L 1 A m ys) (hu : Upd bd (.cells cs' t) L (.cells cs t) L') (hl : o + min m n ≤ (flat cs).length) (hf' : Fit cs → Fit cs') (hc : flat cs' = (flat cs).take o ++ ys.take n ++ (flat cs).drop (o + min m n)) :
    Eff c S L (.call ⟨.builtin .copy, #[x, y], #[T, T']⟩) ty (fun v M => v = .int .i64 (min m n : Nat) ∧ M = L') := fun a w st => by
  have ha : evs S (#[x, y] : Array Operand).toList = some [.slice (some ⟨bd, o, none⟩) n dcap, .slice A m scap] := by simp [evs, hx, hy]
  obtain ⟨hf, hb⟩ := st.hp.held _ hu.mem
  have hw := hs w st.hp
  have hw2 := hw.take (m := min m n) (by omega)
  have hyl : ys.length = m := by have := hw.1; omega
  have hyt : ys.take (min m n * 1) = ys.take n := by
    rw [Nat.mul_one]
    by_cases hmn : m ≤ n
    · rw [Nat.min_eq_left hmn, List.take_of_length_le (by omega), List.take_of_length_le (by omega)]
    · rw [Nat.min_eq_right (by omega)]
  rw [hyt] at hw2
  have hyl2 : (ys.take n).length = min m n := by have := hw2.1; omega
  obtain ⟨w', e, p1, p2, p3, p4, p5, p6⟩ := run_storeCells (P := c.P) o (ys.take n) 0 (flat cs) w hb hw2.2.1 (by omega)
  have hfc := hw2.first (P := c.P) (a := m) (b := scap)
  unfold slB at ht
  split at ht <;> try (cases ht; done)
  rename_i e' hu'
  refine ⟨_, w', L', .inl (run_builtin st ha fun cs => ?_), st.hp.upd hu p1 p2 p3 p4 p5 ⟨hf' hf, ?_⟩, rfl, rfl⟩
  · have hmin : Nat.min m n = min m n := rfl
    simp [builtin, Builtin.copy_, run_underlying hu', Builtin.lenOf, run_sizeOf_sz ht, hmin, hfc, e, goInt]
  · rw [p6, hc, hyl2]; simp

/-! ### slices as arrays -/
theorem V_s2p {b o n cap len s : Nat} (ht : arB c.P T n s = true) (h0 : n ≤ len) (hx : ev S x = some (.slice (some ⟨b, o, none⟩) len cap)) : Val c S L (.sliceToArrayPointer T x) ty (.pointer (some ⟨b, o, none⟩)) := fun a w st => by
  have e1 := st.sl.ev hx
  unfold arB at ht
  split at ht <;> try (cases ht; done)
  rename_i m e' hu
  simp only [Bool.and_eq_true, beq_iff_eq] at ht
  obtain ⟨rfl, ht⟩ := ht
  simp only [ex, execOp, e1, Instr.arrayAt, Sem.run_bind, run_underlying hu, Result.andThen_ok]
  simp [show ¬ len < m from by omega]
end
end Go.X
