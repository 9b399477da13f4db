/- Slices out of elements, noughts behind a slice, strings out of bytes. -/
import Derived.Test.YtbalnjejamigaaaXVec2
set_option linter.unusedVariables false
set_option linter.unusedSimpArgs false
namespace Go.X
open Go.RowKit
section
variable {c : Cx} {S : Slots} {L L' Lr : List (Nat × Blk)} {ty : TypeId} {x y z : Operand} {T T' : TypeId}

theorem fill_seq {n : Nat} {a : Act} (sl : Sl n a S) : ∀ (ps : List (Nat × Operand)) (vs pre zs : List Value), ps.map (·.1) = List.range' pre.length ps.length → evs S (ps.map (·.2)) = some vs → (∀ v ∈ vs, one v = true) → zs.length = ps.length →
    Instr.fill (fun i => some (i * 1, 1)) (pre ++ zs).toArray (ps.map fun q => (q.1, a.eval q.2)) = some (pre ++ vs).toArray
  | [], vs, pre, zs, _, he, _, hz => by
    have : zs = [] := List.length_eq_zero_iff.1 (by simpa using hz)
    subst this
    simp [evs] at he
    subst he
    simp [Instr.fill]
  | p :: ps, vs, pre, zs, hi, he, h1, hz => by
    cases zs with
    | nil => simp at hz
    | cons z0 zs =>
      simp only [List.map_cons, evs] at he
      cases hv : ev S p.2 with
      | none => rw [hv] at he; simp at he
      | some v =>
        rw [hv] at he
        cases hr : evs S (ps.map (·.2)) with
        | none => rw [hr] at he; simp at he
        | some us =>
          rw [hr] at he
          simp at he
          subst he
          have hone := h1 v List.mem_cons_self
          have hc : v.cells = #[v] := by cases v <;> first | rfl | (simp [one] at hone; done)
          simp only [List.map_cons, List.length_cons, List.range'_succ, List.cons.injEq] at hi
          have ih := fill_seq sl ps us (pre ++ [v]) zs (by rw [hi.2]; simp) hr (fun u hu => h1 u (List.mem_cons_of_mem _ hu)) (by simpa using hz)
          have hcond : (decide ((#[v] : Array Value).size ≠ 1) || decide (p.1 * 1 + (#[v] : Array Value).size > (pre ++ z0 :: zs).toArray.size)) = false := by
            rw [hi.1]; simp
          simp only [List.map_cons, Instr.fill, sl.ev hv, hc, hcond, Bool.false_eq_true, if_false]
          have e : Array.foldl (fun cs (q : Value × Nat) => cs.setIfInBounds (p.1 * 1 + q.2) q.1) (pre ++ z0 :: zs).toArray (#[v] : Array Value).zipIdx = (pre ++ [v] ++ zs).toArray := by
            simp [hi.1, Array.zipIdx]
          rw [e]
          rw [show pre ++ v :: us = pre ++ [v] ++ us by simp]
          exact ih

theorem E_bslice {n : Nat} {vs : List Value} {parts : Array (Nat × Operand)} (e by' : Nat) (ht : slE c.P T e by' = true) (hi : parts.toList.map (·.1) = List.range' 0 n) (hv : evs S (parts.toList.map (·.2)) = some vs) (h1 : ∀ v ∈ vs, one v = true) (hn : n ≤ 16777216) :
    Eff c S L (.buildSlice T n parts) ty fun v M => ∃ b, v = .slice (some ⟨b, 0, none⟩) n n ∧ M = (b, .cells [(n, vs), (n - n, [])] e) :: L := fun a w st => by
  obtain ⟨hu, i, z, hinf, hs1, h2, hz', h3⟩ := slE_open ht
  have hpl : parts.toList.length = n := by have := congrArg List.length hi; simpa using this
  have hvl : vs.length = n := by
    have : ∀ (l : List Operand) (us : List Value), evs S l = some us → us.length = l.length := by
      intro l
      induction l with
      | nil => intro us h; simp [evs] at h; subst h; rfl
      | cons o l ih =>
        intro us h
        simp only [evs] at h
        cases hq : ev S o with
        | none => rw [hq] at h; simp at h
        | some v =>
          rw [hq] at h
          cases hr : evs S l with
          | none => rw [hr] at h; simp at h
          | some us' => rw [hr] at h; simp at h; subst h; simp [ih us' hr]
    have := this _ _ hv; simpa [hpl] using this
  have hf := fill_seq (a := a) st.sl parts.toList vs [] ((List.range n).map fun j => z.cells[j % z.cells.size]!) (by simpa [hpl] using hi) hv h1 (by simp [hpl])
  have e0 : (parts.map fun (q : Nat × Operand) => (q.1, a.eval q.2)).toList = parts.toList.map fun q => (q.1, a.eval q.2) := by simp
  refine ⟨_, w.alloc (.cells vs.toArray e), _, .inl ?_, ?_, w.heap.size, rfl, rfl⟩
  · by_cases h0 : n = 0
    · subst h0
      have hv0 : vs = [] := List.length_eq_zero_iff.1 hvl
      subst hv0
      have hp0 : parts = #[] := by rw [← Array.toList_inj]; exact List.length_eq_zero_iff.1 hpl
      subst hp0
      simp [ex, execOp, Instr.buildSlice, run_underlying hu, sizeOf, typeInfo, hinf, Instr.fill, newRow]
      congr 2
      exact Array.toList_inj.1 (by simp [Array.toList_range])
    · have e1 : ((Array.range (n * 1)).map fun j => z.cells[j % z.cells.size]!) = ([] ++ (List.range n).map fun j => z.cells[j % z.cells.size]!).toArray := by
        rw [← Array.toList_inj]; simp [Array.toList_range]
      simp only [ex, execOp, Instr.buildSlice, Sem.run_bind, run_underlying hu, Result.andThen_ok, sizeOf, typeInfo, hinf, hs1, e0, run_program, Sem.run_pure]
      simp only [Nat.mul_one, show ¬ n > 2 ^ 24 from by omega, if_false, h0, Sem.run_bind, zeroValue, typeInfo, run_program, hinf, hz', Result.andThen_ok, Sem.run_pure]
      simp only [Nat.mul_one] at e1 hf
      rw [e1, hf]
      simp [newRow]
  · exact st.hp.alloc ⟨Fit.mk (by omega) (Fit.mk (by simp) Fit.nil), by simp [flat]⟩

theorem E_appendZ {n m cap b : Nat} {xs rest : List Value} {k : IntKind} (e by' : Nat) (zv : Value) (h1v : one zv = true) (ht : slE c.P T e by' = true) (hT' : inB' c.P T' .i64 = true) (hz : zeroIs c.P e [(1, [zv])]) (hx : ev S x = some (.slice (some ⟨b, 0, none⟩) n cap)) (hy : ev S y = some (.int k m))
    (hn : n ≤ cap) (hD : Del b (.cells [(n, xs), (cap - n, rest)] e) L Lr) (hb : (n + m) * by' ≤ 140737488355328) (hb2 : m * by' ≤ 140737488355328) (hl : n + m ≤ 9223372036854775807) :
    Eff c S L (.call ⟨.builtin .append, #[x, y], #[T, T']⟩) ty fun v M => ∃ b' cap' rest', n + m ≤ cap' ∧ v = .slice (some ⟨b', 0, none⟩) (n + m) cap' ∧ M = (b', .cells [(n + m, xs ++ List.replicate m zv), (cap' - (n + m), rest')] e) :: Lr := fun a w st => by
  obtain ⟨hu, i, z, hi, h1, h2, hz', h3⟩ := slE_open ht
  have hzc : z.cells = #[zv] := by
    obtain ⟨hz1, _⟩ := hz
    simp [hi, hz', flat] at hz1; exact hz1
  have hu2 : c.P.underlying T' = some (.int .i64) := by
    unfold inB' at hT'
    split at hT' <;> try (cases hT'; done)
    rename_i hq; rw [hq]; simp at hT'; rw [← hT']
  obtain ⟨hf, hh⟩ := st.hp.held _ hD.mem
  obtain ⟨hxl, hf2⟩ := hf.cons
  obtain ⟨hrl, _⟩ := hf2.cons
  have ha : evs S (#[x, y] : Array Operand).toList = some [.slice (some ⟨b, 0, none⟩) n cap, .int k m] := by simp [evs, hx, hy]
  have hflat : flat [(n, xs), (cap - n, rest)] = xs ++ rest := by simp [flat]
  rw [hflat] at hh
  have hw64 : IntKind.i64.wrap (m : Int) = m := IntWalk.i64_in _ (by omega)
  have hbig : ¬ ((m : Int) * (i.bytes : Int) > 281474976710656) := by
    rw [h2]
    have : ((m * by' : Nat) : Int) ≤ 140737488355328 := by omega
    rw [Int.natCast_mul] at this; omega
  have hzz : ∀ q, Builtin.zeroCells z.cells q = (List.replicate q zv).toArray := fun q => by
    rw [hzc, ← Array.toList_inj]
    apply List.ext_getElem
    · simp [Builtin.zeroCells]
    · intro j _ _; simp [Builtin.zeroCells, Nat.mod_one]
  by_cases hg : n + m ≤ cap
  · have hst := run_storeCells (P := c.P) n (List.replicate m zv) 0 (xs ++ rest) w hh (by simp; exact fun _ => h1v) (by simp; omega)
    obtain ⟨w', e', p1, p2, p3, p4, p5, p6⟩ := hst
    refine ⟨.slice (some ⟨b, 0, none⟩) (n + m) cap, w', _, .inl (run_builtin st ha fun cs => ?_), ?_, b, cap, rest.drop m, hg, rfl, rfl⟩
    · have hadd : ({ block := b, off := 0 } : Addr).add n = ⟨b, n, none⟩ := by rw [add_none]; simp
      have e' : (storeCells ⟨b, n, none⟩ (List.replicate m zv)).run c.P w = .ok () w' := e'
      have hneg : ¬ ((m : Int) < 0) := by omega
      by_cases h0 : m = 0
      · subst h0
        simp at e'
        simp [builtin, Builtin.append_, run_underlying hu, run_underlying hu2, sizeOf, typeInfo, hi, h1, asInt, asIntOf, show IntKind.i64.wrap 0 = 0 from by decide, hn, hadd, e']
      · simp [builtin, Builtin.append_, run_underlying hu, run_underlying hu2, sizeOf, typeInfo, hi, h1, asInt, asIntOf, hw64, hbig, hg, hneg, h0, hzz, zeroValue, hz', hadd, e']
    · refine HP.front hD fun A' B' hL _ => ?_
      subst hL
      refine st.hp.upd (Upd.mid A' B') p1 p2 p3 p4 p5 ⟨Fit.mk (by simp; omega) (Fit.mk (by simp; omega) Fit.nil), ?_⟩
      rw [p6]
      congr 2
      simp only [flat, List.flatMap_cons, List.flatMap_nil, List.append_nil, Nat.add_zero]
      rw [List.take_append_of_le_length (by omega), List.take_of_length_le (by omega), List.drop_append, List.drop_eq_nil_of_le (by omega)]
      simp [hxl]
  · have hge := grownCap_ge w (n + m) cap e
    have h63' : ¬ (9223372036854775807 < ((n : Int) + (m : Int))) := by omega
    have hfit := growslice_fits (need := n + m) (old := cap) (bytes := i.bytes) (by omega) (by rw [h2]; exact hb)
    have h48' : ¬ (281474976710656 < Builtin.nextslicecap (n + m) cap * i.bytes) := by omega
    have hfo := run_firstCells_some (P := c.P) w.drew i.size n ⟨b, 0, none⟩ n cap xs (by rw [h1]; omega) (fun j v hv => by
        rw [add_none, Nat.zero_add, show w.drew.cell? ⟨b, j, none⟩ = w.cell? ⟨b, j, none⟩ from rfl, cell_of_heap hh, List.getElem?_append_left (List.getElem?_eq_some_iff.1 hv).1]; exact hv)
    rw [h1] at hfo
    refine ⟨_, w.drew.alloc (.cells (xs.toArray ++ (List.replicate m zv).toArray ++ Builtin.zeroCells z.cells (grownCap w (n + m) cap e - (n + m))) e), _, .inl (run_builtin st ha fun cs => ?_), ?_, w.heap.size, grownCap w (n + m) cap e, (Builtin.zeroCells z.cells (grownCap w (n + m) cap e - (n + m))).toList, hge, rfl, rfl⟩
    · have hneg : ¬ ((m : Int) < 0) := by omega
      have hgd : ((Question.appendCap (n + m) cap e).cut (w.tape w.drawn (.appendCap (n + m) cap e))) = grownCap w (n + m) cap e := rfl
      simp [builtin, Builtin.append_, run_underlying hu, run_underlying hu2, sizeOf, typeInfo, zeroValue, hi, hz', h1, asInt, asIntOf, hw64, hbig, hg, hneg, h63', h48', Question.forced, hfo, newRow, show ¬ m = 0 from by omega, hgd, hzz]
    · refine ((st.hp.sub hD.sub).drew _).alloc ⟨Fit.mk (by simp; omega) (Fit.mk (by simp [size_zeroCells, h3]) Fit.nil), ?_⟩
      simp [flat]

/-! ### strings -/
def bstr (l : List Int) : ByteArray := l.foldl (fun r n => r.push (UInt8.ofNat n.toNat)) ByteArray.empty
theorem bstr_data (l : List Int) : ∀ s : ByteArray, (l.foldl (fun r n => r.push (UInt8.ofNat n.toNat)) s).data.toList = s.data.toList ++ l.map fun n => UInt8.ofNat n.toNat := by
  induction l with
  | nil => simp
  | cons n l ih => intro s; simp only [List.foldl_cons]; rw [ih]; simp [ByteArray.push]
def b2sB (P : Program) (t t' : TypeId) : Bool := match P.underlying t, P.underlying t' with
  | some (.slice e), some .string => (match P.underlying e with | some (.int .u8) => true | _ => false)
  | _, _ => false
theorem V_b2s {A : Option Addr} {n cap : Nat} {l : List Int} (ht : b2sB c.P T T' = true) (hx : ev S x = some (.slice A n cap)) (hs : Sr c L 1 A n (iv .u8 l)) : Val c S L (.convert T T' x) ty (.string (bstr l)) := fun a w st => by
  have e1 := st.sl.ev hx
  unfold b2sB at ht
  split at ht <;> try (cases ht; done)
  rename_i e hu hu'
  split at ht <;> try (cases ht; done)
  rename_i he
  have hw := hs w st.hp
  have hl : l.length = n := by have := hw.1; simpa [iv_len] using this
  have hr : (Conv.bytesToString (.slice A n cap)).run c.P w = .ok (.string (bstr l)) w := by
    cases A with
    | none =>
      have h0 : l = [] := by
        by_cases h0 : 0 < (iv .u8 l).length
        · obtain ⟨b, o, e⟩ := hw.has h0; cases e
        · rw [iv_len] at h0; exact List.length_eq_zero_iff.1 (by omega)
      subst h0
      simp [Conv.bytesToString, bstr]
    | some q =>
      have := hw.first (P := c.P) (a := n) (b := cap)
      simp only [Builtin.firstCells, Nat.mul_one] at this
      exact run_bytesToString w q n cap l this
  simp only [ex, execOp, e1, Sem.run_bind]
  rw [run_convert_bytes_string (P := c.P) w T T' e A n cap hu he hu', hr]
  rfl
def strB (P : Program) (t : TypeId) : Bool := match P.underlying t with | some .string => true | _ => false
theorem V_eqlS {p q : ByteArray} (hx : ev S x = some (.string p)) (hy : ev S y = some (.string q)) : Val c S L (.binOp .eql T x y T') ty (.bool (p.toList == q.toList)) := fun a w st => by
  have e1 := st.sl.ev hx; have e2 := st.sl.ev hy
  simp [ex, execOp, e1, e2, eqGuard, binOp, Op.stringOp, pure]
theorem V_neqS {p q : ByteArray} (hx : ev S x = some (.string p)) (hy : ev S y = some (.string q)) : Val c S L (.binOp .neq T x y T') ty (.bool (!(p.toList == q.toList))) := fun a w st => by
  have e1 := st.sl.ev hx; have e2 := st.sl.ev hy
  simp [ex, execOp, e1, e2, eqGuard, binOp, Op.stringOp, pure]
end
end Go.X
