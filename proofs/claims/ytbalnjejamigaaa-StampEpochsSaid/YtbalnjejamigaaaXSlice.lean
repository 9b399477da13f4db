/- Calls that change one tracked block; slices that came in; loops over them. -/
import Derived.Test.YtbalnjejamigaaaXMore
set_option linter.unusedVariables false
set_option linter.unusedSimpArgs false
namespace Go.X
open Go.RowKit

theorem Upd.split {b : Nat} {k k0 : Blk} {l l' : List (Nat × Blk)} (h : Upd b k l k0 l') : ∃ A B, l = A ++ (b, k0) :: B ∧ l' = A ++ (b, k) :: B := by
  induction h with
  | here k0 l => exact ⟨[], l, rfl, rfl⟩
  | there x _ ih => obtain ⟨A, B, h1, h2⟩ := ih; exact ⟨x :: A, B, by rw [h1]; rfl, by rw [h2]; rfl⟩

theorem HP.mod {w0 w w' : World} {O : List Nat} {L L' : List (Nat × Blk)} {b : Nat} {k1 k2 : Blk} (h : HP w0 w O L) (hu : Upd b k2 L k1 L') (h' : HP w w' [b] [(b, k2)]) : HP w0 w' O L' := by
  obtain ⟨A, B, rfl, rfl⟩ := hu.split
  exact (h.trans (.cons (.nil (A ++ B))) h').perm List.perm_middle

/-- With further new blocks. -/
theorem HP.modN {w0 w w' : World} {O : List Nat} {L L' M : List (Nat × Blk)} {b : Nat} {k1 k2 : Blk} (h : HP w0 w O L) (hu : Upd b k2 L k1 L') (h' : HP w w' [b] ((b, k2) :: M)) : HP w0 w' O (M ++ L') := by
  obtain ⟨A, B, rfl, rfl⟩ := hu.split
  refine (h.trans (.cons (.nil (A ++ B))) h').perm ?_
  have e1 : (M ++ (A ++ (b, k2) :: B)).Perm ((b, k2) :: (M ++ (A ++ B))) := by
    rw [← List.append_assoc, ← List.append_assoc]; exact List.perm_middle
  exact e1

section
variable {c : Cx} {Q : Post} {S : Slots} {L L' Lr : List (Nat × Blk)} {ops : Array Oper} {d : Option Tmp} {ty : TypeId} {pos : String} {af : Array Edge} {rest : List Oper}

theorem C_mod {f : FuncId} {xs : Array Operand} {ats : Array TypeId} {vs : List Value} {b : Nat} {k1 k2 : Blk} (v : Value) (hf : fnB c.P f = true) (ha : evs S xs.toList = some vs) (hu : Upd b k2 L k1 L')
    (hc : ∀ w, HP c.w0 w c.O L → Calls c.P f vs.toArray w fun e w' => e = .returned v ∧ HP w w' [b] [(b, k2)]) : Cal c S L (.call ⟨.value (.func f), xs, ats⟩) ty fun u M => u = v ∧ M = L' :=
  C_fn hf ha fun w hp => (hc w hp).mono fun _ _ ⟨he, hp'⟩ => ⟨v, L', he, hp.mod hu hp', rfl, rfl⟩
theorem WL.mod {f : FuncId} {xs : Array Operand} {ats : Array TypeId} {vs : List Value} {b : Nat} {k1 k2 : Blk} (v : Value) (hd : inB c.n d = true) (hf : fnB c.P f = true) (ha : evs S xs.toList = some vs) (hu : Upd b k2 L k1 L')
    (hc : ∀ w, HP c.w0 w c.O L → Calls c.P f vs.toArray w fun e w' => e = .returned v ∧ HP w w' [b] [(b, k2)])
    (k : WL c ops Q rest (putS d v S) L') : WL c ops Q (⟨d, .call ⟨.value (.func f), xs, ats⟩, ty, pos, af, none⟩ :: rest) S L :=
  WL.cal hd (C_mod v hf ha hu hc) fun u M ⟨h1, h2⟩ => by subst h1; subst h2; exact k
end

/-! ### slices that came in -/
theorem AtW_of_cells {w : World} {b o n : Nat} {f : Nat → Value} (h0 : 0 < n) (h : ∀ i, i < n → w.cell? ⟨b, o + i, none⟩ = some (f i)) :
    ∃ pre post, AtW w b [(o, pre), (n, (List.range n).map f), (post.length, post)] := by
  have hc := h 0 h0
  unfold World.cell? at hc
  split at hc
  · rename_i C T fz hb
    have hcell : ∀ i, i < n → C.toList[o + i]? = some (f i) := fun i hi => by
      have := h i hi
      simp only [World.cell?] at this
      simp only [hb] at this
      simpa using this
    have hlen : o + n ≤ C.toList.length := by
      have := (List.getElem?_eq_some_iff.1 (hcell (n - 1) (by omega))).1
      omega
    have hmid : (C.toList.drop o).take n = (List.range n).map f := by
      apply List.ext_getElem?
      intro i
      by_cases hi : i < n
      · rw [List.getElem?_take_of_lt hi, List.getElem?_drop, hcell i hi]
        simp [List.getElem?_map, List.getElem?_range hi]
      · rw [List.getElem?_eq_none (by simp; omega), List.getElem?_eq_none (by simp; omega)]
    refine ⟨C.toList.take o, C.toList.drop (o + n), Fit.mk (by simp; simp at hlen; omega) (Fit.mk (by simp) (Fit.mk rfl Fit.nil)), T, fz, ?_⟩
    rw [hb]
    congr 2
    have e : flat [(o, C.toList.take o), (n, (List.range n).map f), ((C.toList.drop (o + n)).length, C.toList.drop (o + n))] = C.toList := by
      simp only [flat, List.flatMap_cons, List.flatMap_nil, List.append_nil]
      rw [← hmid, ← List.drop_drop, List.take_append_drop, List.take_append_drop]
    rw [e]
  · cases hc

theorem flat_at {o n : Nat} {pre l : List Value} {r : List Seg} (hf : Fit ((o, pre) :: (n, l) :: r)) {j : Nat} {v : Value} (hv : l[j]? = some v) : (flat ((o, pre) :: (n, l) :: r))[o + j]? = some v := by
  obtain ⟨h1, h2⟩ := hf.cons
  obtain ⟨h3, _⟩ := h2.cons
  have hj : j < l.length := (List.getElem?_eq_some_iff.1 hv).1
  rw [flat_cons, flat_cons, List.getElem?_append_right (by omega), List.getElem?_append_left (by omega), h1]
  rw [show o + j - o = j by omega]; exact hv

section
variable {c : Cx} {S : Slots} {L : List (Nat × Blk)} {ty : TypeId} {x : Operand} {T : TypeId}
/-- An element of a row that lies behind other cells. -/
theorem V_loadI {b q o n : Nat} {pre l : List Value} {r : List Seg} {v : Value} (j : Nat) (ht : scB c.P T = true) (hx : ev S x = some (.pointer (some ⟨b, q, none⟩))) (hA : At c L b ((o, pre) :: (n, l) :: r)) (hq : q = o + j) (hv : l[j]? = some v) : Val c S L (.load T x) ty v := fun a w st => by
  subst hq
  exact V_load1 ht hx hA (flat_at (hA.here st).1 hv) a w st
theorem V_loadInt {b q o n : Nat} {pre : List Value} {r : List Seg} {k : IntKind} {zs : Nat → Int} (j : Nat) (ht : scB c.P T = true) (hx : ev S x = some (.pointer (some ⟨b, q, none⟩))) (hA : At c L b ((o, pre) :: (n, (List.range n).map fun i => .int k (zs i)) :: r)) (hq : q = o + j) (hj : j < n) :
    Val c S L (.load T x) ty (.int k (zs j)) := V_loadI j ht hx hA hq (by simp [List.getElem?_map, List.getElem?_range hj])
theorem V_negN {p : Int} (hx : ev S x = some (.int .i64 p)) (h : -9223372036854775808 ≤ -p ∧ -p ≤ 9223372036854775807) : Val c S L (.unOp .neg T x) ty (.int .i64 (-p)) := fun a w st => by
  have h1 := st.sl.ev hx
  have e : IntKind.i64.wrap (-p) = -p := IntWalk.i64_in _ h
  simp [ex, execOp, h1, Op.unary, Op.intArith, e]
theorem V_convN {k k' : IntKind} {T T' : TypeId} {p : Int} (hx : ev S x = some (.int k p)) (ht : inB' c.P T' k' = true) (hs : (c.P.underlying T).isSome = true) (h : k'.wrap p = p) : Val c S L (.convert T T' x) ty (.int k' p) := by
  have := V_conv (c := c) (L := L) (ty := ty) hx ht hs
  rwa [h] at this
end

/-! ### guarded operations that change something, in a region that draws -/
section
variable {c : Cx} {Q : Post} {S : Slots} {L Lr : List (Nat × Blk)} {ops : Array Oper} {ty : TypeId} {pos : String} {af : Array Edge} {op : Op} {p : Plan} {i j : Nat}
theorem WO.no {t : Tmp} {b b' : Bool} (ho : ops[i]? = some ⟨some t, op, ty, pos, af, some (j, b)⟩) (hd : Nat.blt t c.n = true) (hg : guardOf ops S j = some (.bool b')) (hb : b' = !b) (hLr : Lr.Sublist L) (h : WD c ops Q Lr p ((t, undef) :: S) L) : WO c ops Q Lr i p S L := fun a w st => by
  have := yielded_of st.sl hg
  unfold wpOp
  simp only [ho]
  subst hb
  rw [if_neg (by cases b <;> simp [Region.wanted, this])]
  exact ⟨st.hp.sub hLr, h _ w ⟨st.sl.put (blt_lt hd) undef, st.hp⟩⟩

theorem WO.cal' {d : Option Tmp} {g : Option (Nat × Bool)} {R : Value → List (Nat × Blk) → Prop} (ho : ops[i]? = some ⟨d, op, ty, pos, af, g⟩) (hw : ∀ a w, St c S L a w → Region.wanted ⟨d, op, ty, pos, af, g⟩ (yielded ops a.tmps) = true) (hd : inB c.n d = true) (hLr : Lr.Sublist L) (hv : Cal c S L op ty R)
    (h : ∀ v L', R v L' → (∀ p ∈ Lr, p ∈ L') ∧ WD c ops Q Lr p (putS d v S) L') : WO c ops Q Lr i p S L := fun a w st => by
  obtain ⟨f, args, hr, hc⟩ := hv a w st
  rw [← ex_eq a.eval d op ty pos af g] at hr
  have hn : (Lr.map (·.1)).Nodup := st.hp.nodup.sublist (hLr.map _)
  unfold wpOp
  simp only [ho]
  rw [if_pos (hw a w st)]
  refine .inl ?_
  unfold Oper.wp
  rw [hr]
  refine hc.mono fun e w' ⟨v, L', he, hp, r⟩ => ?_
  obtain ⟨h1, h2⟩ := h v L' r
  subst he
  exact ⟨sub_of_mem hp hn h1, h2 _ _ ⟨st.sl.putS hd v, hp⟩⟩
theorem WO.calY {d : Option Tmp} {b b' : Bool} {R : Value → List (Nat × Blk) → Prop} (ho : ops[i]? = some ⟨d, op, ty, pos, af, some (j, b)⟩) (hg : guardOf ops S j = some (.bool b')) (hb : b' = b) (hd : inB c.n d = true) (hLr : Lr.Sublist L) (hv : Cal c S L op ty R)
    (h : ∀ v L', R v L' → (∀ p ∈ Lr, p ∈ L') ∧ WD c ops Q Lr p (putS d v S) L') : WO c ops Q Lr i p S L :=
  WO.cal' ho (fun a w st => by have := yielded_of st.sl hg; subst hb; cases b' <;> simp [Region.wanted, this]) hd hLr hv h
theorem WO.effY {d : Option Tmp} {b b' : Bool} {R : Value → List (Nat × Blk) → Prop} (ho : ops[i]? = some ⟨d, op, ty, pos, af, some (j, b)⟩) (hg : guardOf ops S j = some (.bool b')) (hb : b' = b) (hd : inB c.n d = true) (hLr : Lr.Sublist L) (hv : Eff c S L op ty R)
    (h : ∀ v L', R v L' → (∀ p ∈ Lr, p ∈ L') ∧ WD c ops Q Lr p (putS d v S) L') : WO c ops Q Lr i p S L := fun a w st => by
  obtain ⟨v, w', L', hr, hp, r⟩ := hv a w st
  rw [← ex_eq a.eval d op ty pos af (some (j, b))] at hr
  obtain ⟨h1, h2⟩ := h v L' r
  have hn : (Lr.map (·.1)).Nodup := st.hp.nodup.sublist (hLr.map _)
  have hy := yielded_of st.sl hg
  unfold wpOp
  simp only [ho]
  subst hb
  rw [if_pos (by cases b' <;> simp [Region.wanted, hy])]
  refine .inl ?_
  unfold Oper.wp
  rcases hr with hr | ⟨hr, rfl⟩
  · rw [hr]; exact ⟨sub_of_mem hp hn h1, h2 _ _ ⟨st.sl.putS hd v, hp⟩⟩
  · rw [hr]; exact ⟨sub_of_mem hp hn h1, h2 _ _ ⟨st.sl.putS hd _, hp⟩⟩
end
end Go.X
