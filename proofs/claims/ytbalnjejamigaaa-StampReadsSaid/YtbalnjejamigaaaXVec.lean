/- Slices: their cells read, own ones grown. -/
import Derived.Test.YtbalnjejamigaaaXBits
set_option linter.unusedVariables false
set_option linter.unusedSimpArgs false
namespace Go.X
open Go.RowKit

/-! ### one block taken out -/
inductive Del (b : Nat) (k : Blk) : List (Nat × Blk) → List (Nat × Blk) → Prop where
  | here (L : List (Nat × Blk)) : Del b k ((b, k) :: L) L
  | there {x : Nat × Blk} {L L' : List (Nat × Blk)} (h : Del b k L L') : Del b k (x :: L) (x :: L')
theorem Del.split {b : Nat} {k : Blk} {L L' : List (Nat × Blk)} (h : Del b k L L') : ∃ A B, L = A ++ (b, k) :: B ∧ L' = A ++ B := by
  induction h with
  | here L => exact ⟨[], L, rfl, rfl⟩
  | there h ih => obtain ⟨A, B, h1, h2⟩ := ih; exact ⟨_ :: A, B, by rw [h1]; rfl, by rw [h2]; rfl⟩
theorem Del.mem {b : Nat} {k : Blk} {L L' : List (Nat × Blk)} (h : Del b k L L') : (b, k) ∈ L := by
  obtain ⟨A, B, rfl, _⟩ := h.split; simp
theorem Del.sub {b : Nat} {k : Blk} {L L' : List (Nat × Blk)} (h : Del b k L L') : L'.Sublist L := by
  obtain ⟨A, B, rfl, rfl⟩ := h.split; exact List.Sublist.append (List.Sublist.refl _) (List.sublist_cons_self _ _)
theorem Del.dels {b : Nat} {k : Blk} {L L' : List (Nat × Blk)} (h : Del b k L L') : Dels [b] L L' := by
  obtain ⟨A, B, rfl, rfl⟩ := h.split; exact .cons (.nil _)
theorem Upd.mid {b : Nat} {k k0 : Blk} : ∀ (A B : List (Nat × Blk)), Upd b k (A ++ (b, k0) :: B) k0 (A ++ (b, k) :: B)
  | [], B => .here _ _
  | x :: A, B => .there _ (Upd.mid A B)
theorem HP.front {w0 w : World} {O : List Nat} {L L' : List (Nat × Blk)} {b : Nat} {k k' : Blk} (hD : Del b k L L') (h : ∀ A B, L = A ++ (b, k) :: B → L' = A ++ B → HP w0 w O (A ++ (b, k') :: B)) : HP w0 w O ((b, k') :: L') := by
  obtain ⟨A, B, h1, h2⟩ := hD.split
  rw [h2]
  exact (h A B h1 h2).perm (List.perm_middle.symm)

/-! ### a slice's cells -/
def SrW (w : World) (s : Nat) (A : Option Addr) (n : Nat) (xs : List Value) : Prop :=
  xs.length = n * s ∧ (∀ v ∈ xs, one v = true) ∧ ∀ j v, xs[j]? = some v → ∃ b o, A = some ⟨b, o, none⟩ ∧ w.cell? ⟨b, o + j, none⟩ = some v
def Sr (c : Cx) (L : List (Nat × Blk)) (s : Nat) (A : Option Addr) (n : Nat) (xs : List Value) : Prop := ∀ w, HP c.w0 w c.O L → SrW w s A n xs

theorem SrW.nil {w : World} {s : Nat} {A : Option Addr} : SrW w s A 0 [] := ⟨by simp, by simp, by simp⟩
theorem SrW.len {w : World} {s : Nat} {A : Option Addr} {n : Nat} {xs : List Value} (h : SrW w s A n xs) : xs.length = n * s := h.1
theorem SrW.has {w : World} {s : Nat} {A : Option Addr} {n : Nat} {xs : List Value} (h : SrW w s A n xs) (h0 : 0 < xs.length) : ∃ b o, A = some ⟨b, o, none⟩ := by
  obtain ⟨b, o, h1, _⟩ := h.2.2 0 xs[0] (List.getElem?_eq_getElem h0)
  exact ⟨b, o, h1⟩
theorem AtW.cells {w : World} {b o : Nat} {cs : List Seg} (h : AtW w b cs) {s n : Nat} {xs : List Value} (hx : ((flat cs).drop o).take (n * s) = xs) (hn : o + n * s ≤ (flat cs).length) (h1 : ∀ v ∈ xs, one v = true) : SrW w s (some ⟨b, o, none⟩) n xs := by
  obtain ⟨_, t, fz, hb⟩ := h
  subst hx
  refine ⟨by simp; omega, h1, fun j v hv => ⟨b, o, rfl, ?_⟩⟩
  rw [cell_of_heap hb]
  rw [List.getElem?_take] at hv
  split at hv
  · rw [List.getElem?_drop] at hv; exact hv
  · cases hv
theorem Sr.at {c : Cx} {L : List (Nat × Blk)} {b o : Nat} {cs : List Seg} (h : At c L b cs) {s n : Nat} {xs : List Value} (hx : ((flat cs).drop o).take (n * s) = xs) (hn : o + n * s ≤ (flat cs).length) (h1 : ∀ v ∈ xs, one v = true) : Sr c L s (some ⟨b, o, none⟩) n xs :=
  fun _ hp => (h.hp hp).cells hx hn h1
theorem SrW.step {w w' : World} {O : List Nat} {L : List (Nat × Blk)} {s : Nat} {A : Option Addr} {n : Nat} {xs : List Value} (h : SrW w s A n xs) (hp : HP w w' O L) (hO : ∀ b o, A = some ⟨b, o, none⟩ → b ∉ O) : SrW w' s A n xs := by
  refine ⟨h.1, h.2.1, fun j v hv => ?_⟩
  obtain ⟨b, o, hA, hc⟩ := h.2.2 j v hv
  refine ⟨b, o, hA, ?_⟩
  have hlt : b < w.heap.size := by
    unfold World.cell? at hc
    simp only at hc
    split at hc
    · rename_i hq; exact (Array.getElem?_eq_some_iff.1 hq).1
    · cases hc
  rw [World.cell?_of_block (hp.keep b hlt (hO b o hA))]; exact hc
theorem SrW.old {c : Cx} {L : List (Nat × Blk)} {s : Nat} {A : Option Addr} {n : Nat} {xs : List Value} (h : SrW c.w0 s A n xs) (hO : ∀ b o, A = some ⟨b, o, none⟩ → b ∉ c.O) : Sr c L s A n xs := fun _ hp => h.step hp hO
theorem SrW.old0 {P : Program} {k : Nat} {w0 : World} {L : List (Nat × Blk)} {s : Nat} {A : Option Addr} {n : Nat} {xs : List Value} (h : SrW w0 s A n xs) : Sr ⟨P, k, w0, []⟩ L s A n xs := fun _ hp => h.step hp (fun _ _ _ => by simp)

/-- What 'x[l:h]' yields. -/
def cutA (A : Option Addr) (l m s : Nat) : Option Addr := if m = l then A else A.map (·.add (l * s))
theorem SrW.cut {w : World} {s : Nat} {A : Option Addr} {n m l h : Nat} {xs : List Value} (hs : SrW w s A n xs) (h1 : l ≤ h) (h2 : h ≤ n) (h3 : n ≤ m) : SrW w s (cutA A l m s) (h - l) ((xs.drop (l * s)).take ((h - l) * s)) := by
  have e1 : h * s ≤ n * s := Nat.mul_le_mul_right s h2
  have e2 : (h - l) * s = h * s - l * s := Nat.sub_mul h l s
  have e3 : l * s ≤ h * s := Nat.mul_le_mul_right s h1
  refine ⟨?_, fun v hv => hs.2.1 v (List.drop_subset _ _ (List.take_subset _ _ hv)), fun j v hv => ?_⟩
  · have := hs.1; simp; omega
  · rw [List.getElem?_take] at hv
    split at hv <;> try (cases hv; done)
    rename_i hj
    rw [List.getElem?_drop] at hv
    obtain ⟨b, o, hA, hc⟩ := hs.2.2 _ v hv
    refine ⟨b, o + l * s, ?_, by rw [show o + l * s + j = o + (l * s + j) by omega]; exact hc⟩
    unfold cutA
    rw [hA, if_neg (fun hm => by
      have h0 : h - l = 0 := by omega
      rw [h0] at hj; simp at hj)]
    simp [add_none]
theorem Sr.cut {c : Cx} {L : List (Nat × Blk)} {s : Nat} {A : Option Addr} {n m l h : Nat} {xs : List Value} (hs : Sr c L s A n xs) (h1 : l ≤ h) (h2 : h ≤ n) (h3 : n ≤ m) : Sr c L s (cutA A l m s) (h - l) ((xs.drop (l * s)).take ((h - l) * s)) :=
  fun w hp => (hs w hp).cut h1 h2 h3

theorem SrW.take {w : World} {s : Nat} {A : Option Addr} {n m : Nat} {xs : List Value} (h : SrW w s A n xs) (hm : m ≤ n) : SrW w s A m (xs.take (m * s)) := by
  have e1 : m * s ≤ n * s := Nat.mul_le_mul_right s hm
  refine ⟨by have := h.1; simp; omega, fun v hv => h.2.1 v (List.take_subset _ _ hv), fun j v hv => ?_⟩
  rw [List.getElem?_take] at hv
  split at hv
  · exact h.2.2 j v hv
  · cases hv
theorem SrW.first {P : Program} {w : World} {s : Nat} {A : Option Addr} {n a b : Nat} {xs : List Value} (h : SrW w s A n xs) : (Builtin.firstCells s n (.slice A a b)).run P w = .ok xs.toArray w := by
  by_cases h0 : 0 < xs.length
  · obtain ⟨b', o, hA⟩ := h.has h0
    subst hA
    refine run_firstCells_some w s n _ _ _ xs h.1 fun j v hv => ?_
    obtain ⟨b2, o2, e, hc⟩ := h.2.2 j v hv
    injection e with e; injection e with e1 e2; subst e1; subst e2
    rwa [add_none]
  · have hx : xs = [] := List.length_eq_zero_iff.1 (by omega)
    subst hx
    have hn : n * s = 0 := by have := h.1; simpa using this.symm
    cases A with
    | none => simp [Builtin.firstCells]
    | some a => simp [Builtin.firstCells, hn, loadCells, loadCellsFrom]

section
variable {c : Cx} {S : Slots} {L L' Lr : List (Nat × Blk)} {ty : TypeId} {x y z : Operand} {T T' : TypeId}

theorem V_loadSr {A : Option Addr} {b o q n j : Nat} {xs : List Value} {v : Value} (h : Sr c L 1 A n xs) (hA : A = some ⟨b, o, none⟩) (ht : scB c.P T = true) (hx : ev S x = some (.pointer (some ⟨b, q, none⟩))) (hq : q = o + j) (hv : xs[j]? = some v) : Val c S L (.load T x) ty v := fun a w st => by
  have e1 := st.sl.ev hx
  subst hq
  obtain ⟨b', o', e, hc⟩ := (h w st.hp).2.2 j v hv
  rw [hA] at e
  injection e with e; injection e with e2 e3; subst e2; subst e3
  simp [ex, execOp, e1, Instr.loadAt, Instr.sureAddr, loadVar, run_isAgg_sc ht, load, Sem.run, hc]

/-! ### slices grown -/
/-- t is a slice of e, a type of one cell. -/
def slE (P : Program) (t e by' : Nat) : Bool := match P.underlying t, P.info? e with
  | some (.slice e'), some i => e' == e && i.size == 1 && i.bytes == by' && (match i.zero with | some z => z.cells.size == 1 | none => false)
  | _, _ => false
theorem slE_open {P : Program} {t e by' : Nat} (h : slE P t e by' = true) : P.underlying t = some (.slice e) ∧ ∃ i z, P.info? e = some i ∧ i.size = 1 ∧ i.bytes = by' ∧ i.zero = some z ∧ z.cells.size = 1 := by
  unfold slE at h
  split at h <;> try (cases h; done)
  rename_i e' i hu hi
  simp only [Bool.and_eq_true, beq_iff_eq] at h
  obtain ⟨⟨⟨rfl, h1⟩, h2⟩, h3⟩ := h
  split at h3 <;> try (cases h3; done)
  rename_i z hz
  exact ⟨hu, i, z, hi, h1, h2, hz, by simpa using h3⟩

theorem E_append {n m cap cap2 b : Nat} {xs rest ys : List Value} {A : Option Addr} (e by' : Nat) (ht : slE c.P T e by' = true) (hx : ev S x = some (.slice (some ⟨b, 0, none⟩) n cap)) (hy : ev S y = some (.slice A m cap2))
    (hn : n ≤ cap) (hD : Del b (.cells [(n, xs), (cap - n, rest)] e) L Lr) (hs : Sr c L 1 A m ys) (hb : (n + m) * by' ≤ 140737488355328) (hl : n + m ≤ 9223372036854775807) :
    Eff c S L (.call ⟨.builtin .append, #[x, y], #[T, T]⟩) ty fun v M => ∃ b' cap' rest', n + m ≤ cap' ∧ v = .slice (some ⟨b', 0, none⟩) (n + m) cap' ∧ M = (b', .cells [(n + m, xs ++ ys), (cap' - (n + m), rest')] e) :: Lr := fun a w st => by
  obtain ⟨hu, i, z, hi, h1, h2, hz, h3⟩ := slE_open ht
  obtain ⟨hf, hh⟩ := st.hp.held _ hD.mem
  obtain ⟨hxl, hf2⟩ := hf.cons
  obtain ⟨hrl, _⟩ := hf2.cons
  have hw := hs w st.hp
  have hyl : ys.length = m := by have := hw.1; omega
  have ha : evs S (#[x, y] : Array Operand).toList = some [.slice (some ⟨b, 0, none⟩) n cap, .slice A m cap2] := by simp [evs, hx, hy]
  have hflat : flat [(n, xs), (cap - n, rest)] = xs ++ rest := by simp [flat]
  rw [hflat] at hh
  by_cases hg : n + m ≤ cap
  · have hst := run_storeCells (P := c.P) n ys 0 (xs ++ rest) w hh hw.2.1 (by simp; omega)
    obtain ⟨w', e', p1, p2, p3, p4, p5, p6⟩ := hst
    refine ⟨.slice (some ⟨b, 0, none⟩) (n + m) cap, w', _, .inl (run_builtin st ha fun cs => ?_), ?_, b, cap, rest.drop m, hg, rfl, rfl⟩
    · have hfc := hw.first (P := c.P) (a := m) (b := cap2)
      have hadd : ({ block := b, off := 0 } : Addr).add n = ⟨b, n, none⟩ := by rw [add_none]; simp
      simp [builtin, Builtin.append_, run_underlying hu, sizeOf, typeInfo, hi, h1, Builtin.lenOf, hg, hfc, hadd, e']
    · refine HP.front hD fun A' B' hL _ => ?_
      subst hL
      refine st.hp.upd (Upd.mid A' B') p1 p2 p3 p4 p5 ⟨Fit.mk (by simp; omega) (Fit.mk (by simp; omega) Fit.nil), ?_⟩
      rw [p6]
      congr 2
      simp only [flat, List.flatMap_cons, List.flatMap_nil, List.append_nil, Nat.add_zero]
      rw [List.take_append_of_le_length (by omega), List.take_of_length_le (by omega), List.drop_append, List.drop_eq_nil_of_le (by omega)]
      simp [hxl, hyl]
  · have h0 : 0 < ys.length := by omega
    obtain ⟨b2, o2, hA⟩ := hw.has h0
    subst hA
    have hr := run_append_grow (P := c.P) w T ty e i z hu hi hz ⟨b, 0, none⟩ n cap xs (by rw [h1]; omega) (fun j v hv => by
        rw [add_none, Nat.zero_add, cell_of_heap hh, List.getElem?_append_left (List.getElem?_eq_some_iff.1 hv).1]; exact hv)
      ⟨b2, o2, none⟩ m cap2 ys (by rw [h1]; omega) (fun j v hv => by
        obtain ⟨b3, o3, e3, hc⟩ := hw.2.2 j v hv
        injection e3 with e3; injection e3 with e4 e5; subst e4; subst e5
        rw [add_none]; exact hc) (by omega) (by omega) (growslice_fits (by omega) (by rw [h2]; exact hb))
    have hge := grownCap_ge w (n + m) cap e
    refine ⟨_, w.drew.alloc (.cells (xs.toArray ++ ys.toArray ++ Builtin.zeroCells z.cells (grownCap w (n + m) cap e - (n + m))) e), _, .inl (run_builtin st ha fun cs => ?_), ?_, w.heap.size, grownCap w (n + m) cap e, (Builtin.zeroCells z.cells (grownCap w (n + m) cap e - (n + m))).toList, hge, rfl, rfl⟩
    · simp [builtin, hr]
    · refine ((st.hp.sub hD.sub).drew _).alloc ⟨Fit.mk (by simp; omega) (Fit.mk (by simp [size_zeroCells, h3]) Fit.nil), ?_⟩
      simp [flat]

theorem E_appendN {m cap2 : Nat} {ys : List Value} {A : Option Addr} (e by' : Nat) (ht : slE c.P T e by' = true) (hx : ev S x = some (.slice none 0 0)) (hy : ev S y = some (.slice A m cap2))
    (hs : Sr c L 1 A m ys) (h0 : 0 < m) (hb : m * by' ≤ 140737488355328) (hl : m ≤ 9223372036854775807) :
    Eff c S L (.call ⟨.builtin .append, #[x, y], #[T, T]⟩) ty fun v M => ∃ b' cap' rest', m ≤ cap' ∧ v = .slice (some ⟨b', 0, none⟩) m cap' ∧ M = (b', .cells [(m, ys), (cap' - m, rest')] e) :: L := fun a w st => by
  obtain ⟨hu, i, z, hi, h1, h2, hz, h3⟩ := slE_open ht
  have hw := hs w st.hp
  have hyl : ys.length = m := by have := hw.1; omega
  have ha : evs S (#[x, y] : Array Operand).toList = some [.slice none 0 0, .slice A m cap2] := by simp [evs, hx, hy]
  obtain ⟨b2, o2, hA⟩ := hw.has (by omega)
  subst hA
  have hr := run_append_nil (P := c.P) w T ty e i z hu hi hz ⟨b2, o2, none⟩ m cap2 ys (by rw [h1]; omega) (fun j v hv => by
        obtain ⟨b3, o3, e3, hc⟩ := hw.2.2 j v hv
        injection e3 with e3; injection e3 with e4 e5; subst e4; subst e5
        rw [add_none]; exact hc) h0 (by omega) (by rw [h2]; omega)
  have hge := grownCap_ge w m 0 e
  refine ⟨_, w.drew.alloc (.cells (ys.toArray ++ Builtin.zeroCells z.cells (grownCap w m 0 e - m)) e), _, .inl (run_builtin st ha fun cs => ?_), ?_, w.heap.size, grownCap w m 0 e, (Builtin.zeroCells z.cells (grownCap w m 0 e - m)).toList, hge, rfl, rfl⟩
  · simp [builtin, hr]
  · refine (st.hp.drew _).alloc ⟨Fit.mk (by omega) (Fit.mk (by simp [size_zeroCells, h3]) Fit.nil), ?_⟩
    simp [flat]

theorem V_append0 {n cap cap2 : Nat} {A B : Option Addr} (e by' : Nat) (ht : slE c.P T e by' = true) (hx : ev S x = some (.slice B n cap)) (hy : ev S y = some (.slice A 0 cap2)) (hn : n ≤ cap) :
    Val c S L (.call ⟨.builtin .append, #[x, y], #[T, T]⟩) ty (.slice B n cap) := fun a w st => by
  obtain ⟨hu, i, z, hi, h1, h2, hz, h3⟩ := slE_open ht
  have ha : evs S (#[x, y] : Array Operand).toList = some [.slice B n cap, .slice A 0 cap2] := by simp [evs, hx, hy]
  refine run_builtin st ha fun cs => ?_
  have hfc := (SrW.nil (w := w) (s := 1) (A := A)).first (P := c.P) (a := 0) (b := cap2)
  cases B with
  | none => simp [builtin, Builtin.append_, run_underlying hu, sizeOf, typeInfo, hi, h1, Builtin.lenOf, hn, hfc]
  | some q => simp [builtin, Builtin.append_, run_underlying hu, sizeOf, typeInfo, hi, h1, Builtin.lenOf, hn, hfc, storeCells]
end
end Go.X
