/- More on regions that draw; handy forms for slices in a walk. -/
import Derived.Test.YtbalnjejamigaaaXVec3
set_option linter.unusedVariables false
set_option linter.unusedSimpArgs false
namespace Go.X
open Go.RowKit
section
variable {c : Cx} {Q : Post} {S S1 : Slots} {L L1 L' Lr : List (Nat × Blk)} {ops : Array Oper} {ty T T' : TypeId} {pos : String} {af : Array Edge} {op : Op} {p : Plan} {i j : Nat} {rest : List Oper} {x y : Operand}

theorem WO.val {t : Tmp} {v : Value} (ho : ops[i]? = some ⟨some t, op, ty, pos, af, none⟩) (hd : Nat.blt t c.n = true) (hLr : Lr.Sublist L) (hv : Val c S L op ty v) (h : WD c ops Q Lr p ((t, v) :: S) L) : WO c ops Q Lr i p S L := fun a w st => by
  have hr := hv a w st
  rw [← ex_eq a.eval (some t) op ty pos af none] at hr
  unfold wpOp
  simp only [ho]
  rw [if_pos (by simp [Region.wanted])]
  refine .inl ?_
  unfold Oper.wp
  rw [hr]
  exact ⟨st.hp.sub hLr, h _ w ⟨st.sl.put (blt_lt hd) v, st.hp⟩⟩

theorem WQ.perm {e : Exit} (hL : L'.Perm L) (h : WQ c Q e S L') : WQ c Q e S L := fun a w st => h a w ⟨st.sl, st.hp.perm hL⟩
/-- Several ways that come together again. -/
theorem W.join {x : Code} (h : WQ c Q .normal S1 L1 → W c x Q S L) (k : WQ c Q .normal S1 L1) : W c x Q S L := h k

theorem WL.append {n m cap cap2 b : Nat} {xs rs ys : List Value} {A : Option Addr} {t : Tmp} (e by' : Nat) (hd : Nat.blt t c.n = true) (ht : slE c.P T e by' = true) (hx : ev S x = some (.slice (some ⟨b, 0, none⟩) n cap)) (hy : ev S y = some (.slice A m cap2))
    (hn : n ≤ cap) (hD : Del b (.cells [(n, xs), (cap - n, rs)] e) L Lr) (hs : Sr c L 1 A m ys) (hb : (n + m) * by' ≤ 140737488355328) (hl : n + m ≤ 9223372036854775807)
    (k : ∀ b' cap' rs', n + m ≤ cap' → WL c ops Q rest ((t, .slice (some ⟨b', 0, none⟩) (n + m) cap') :: S) ((b', .cells [(n + m, xs ++ ys), (cap' - (n + m), rs')] e) :: Lr)) : WL c ops Q (⟨some t, .call ⟨.builtin .append, #[x, y], #[T, T]⟩, ty, pos, af, none⟩ :: rest) S L :=
  WL.eff (d := some t) hd (E_append e by' ht hx hy hn hD hs hb hl) (fun v M ⟨b', cap', rs', h1, hv, hM⟩ => by subst hv; subst hM; exact k b' cap' rs' h1)
theorem WL.appendN {m cap2 : Nat} {ys : List Value} {A : Option Addr} {t : Tmp} (e by' : Nat) (hd : Nat.blt t c.n = true) (ht : slE c.P T e by' = true) (hx : ev S x = some (.slice none 0 0)) (hy : ev S y = some (.slice A m cap2))
    (hs : Sr c L 1 A m ys) (h0 : 0 < m) (hb : m * by' ≤ 140737488355328) (hl : m ≤ 9223372036854775807)
    (k : ∀ b' cap' rs', m ≤ cap' → WL c ops Q rest ((t, .slice (some ⟨b', 0, none⟩) m cap') :: S) ((b', .cells [(m, ys), (cap' - m, rs')] e) :: L)) : WL c ops Q (⟨some t, .call ⟨.builtin .append, #[x, y], #[T, T]⟩, ty, pos, af, none⟩ :: rest) S L :=
  WL.eff (d := some t) hd (E_appendN e by' ht hx hy hs h0 hb hl) (fun v M ⟨b', cap', rs', h1, hv, hM⟩ => by subst hv; subst hM; exact k b' cap' rs' h1)
theorem WL.appendZ {n m cap b : Nat} {xs rs : List Value} {k' : IntKind} {p : Int} {t : Tmp} (e by' : Nat) (zv : Value) (h1v : one zv = true) (hd : Nat.blt t c.n = true) (ht : slE c.P T e by' = true) (hT' : inB' c.P T' .i64 = true) (hz : zeroIs c.P e [(1, [zv])]) (hx : ev S x = some (.slice (some ⟨b, 0, none⟩) n cap)) (hy : ev S y = some (.int k' p)) (hp : p = (m : Int))
    (hn : n ≤ cap) (hD : Del b (.cells [(n, xs), (cap - n, rs)] e) L Lr) (hb : (n + m) * by' ≤ 140737488355328) (hb2 : m * by' ≤ 140737488355328) (hl : n + m ≤ 9223372036854775807)
    (k : ∀ b' cap' rs', n + m ≤ cap' → WL c ops Q rest ((t, .slice (some ⟨b', 0, none⟩) (n + m) cap') :: S) ((b', .cells [(n + m, xs ++ List.replicate m zv), (cap' - (n + m), rs')] e) :: Lr)) : WL c ops Q (⟨some t, .call ⟨.builtin .append, #[x, y], #[T, T']⟩, ty, pos, af, none⟩ :: rest) S L :=
  WL.eff (d := some t) hd (E_appendZ e by' zv h1v ht hT' hz hx (by rw [hy, hp]) hn hD hb hb2 hl) (fun v M ⟨b', cap', rs', h1, hv, hM⟩ => by subst hv; subst hM; exact k b' cap' rs' h1)
theorem WL.make {n : Nat} {k1 k2 : IntKind} {p q : Int} {t : Tmp} (e by' : Nat) (zv : Value) (hd : Nat.blt t c.n = true) (ht : slE c.P T e by' = true) (hz : zeroIs c.P e [(1, [zv])]) (hx : ev S x = some (.int k1 p)) (hy : ev S y = some (.int k2 q)) (hp : p = (n : Int)) (hq : q = (n : Int)) (hb : n * by' ≤ 281474976710656) (hl : n ≤ 9223372036854775807)
    (k : ∀ b, WL c ops Q rest ((t, .slice (some ⟨b, 0, none⟩) n n) :: S) ((b, .cells [(n, List.replicate n zv), (n - n, [])] e) :: L)) : WL c ops Q (⟨some t, .makeSlice T x y, ty, pos, af, none⟩ :: rest) S L :=
  WL.eff (d := some t) hd (E_make (n := n) e by' zv ht hz (by rw [hx, hp]) (by rw [hy, hq]) hb hl) (fun v M ⟨b, hv, hM⟩ => by subst hv; subst hM; exact k b)
theorem WL.bslice {n : Nat} {vs : List Value} {parts : Array (Nat × Operand)} {t : Tmp} (e by' : Nat) (hd : Nat.blt t c.n = true) (ht : slE c.P T e by' = true) (hi : parts.toList.map (·.1) = List.range' 0 n) (hv : evs S (parts.toList.map (·.2)) = some vs) (h1 : ∀ v ∈ vs, one v = true) (hn : n ≤ 16777216)
    (k : ∀ b, WL c ops Q rest ((t, .slice (some ⟨b, 0, none⟩) n n) :: S) ((b, .cells [(n, vs), (n - n, [])] e) :: L)) : WL c ops Q (⟨some t, .buildSlice T n parts, ty, pos, af, none⟩ :: rest) S L :=
  WL.eff (d := some t) hd (E_bslice e by' ht hi hv h1 hn) (fun v M ⟨b, hv, hM⟩ => by subst hv; subst hM; exact k b)
theorem WL.storeF {b o : Nat} {cs : List Seg} (cs' : List Seg) {t : TypeId} {v : Value} (ht : szB c.P T 1 = true) (hx : ev S x = some (.pointer (some ⟨b, o, none⟩))) (hy : ev S y = some v) (h1 : one v = true)
    (hu : Upd b (.cells cs' t) L (.cells cs t) L') (hl : o < (flat cs).length) (hf' : Fit cs → Fit cs') (hs : flat cs' = (flat cs).set o v) (k : WL c ops Q rest S L') : WL c ops Q (⟨none, .store T x y, ty, pos, af, none⟩ :: rest) S L :=
  WL.eff (d := none) rfl (E_storeF ht hx hy h1 hu hl hf' hs) (fun v M ⟨_, hM⟩ => by subst hM; exact k)
theorem WL.copy {d : Option Tmp} {bd o n dcap m scap : Nat} {A : Option Addr} {ys : List Value} {cs : List Seg} (cs' : List Seg) {t : TypeId} (hd : inB c.n d = true) (ht : slB c.P T 1 = true) (hx : ev S x = some (.slice (some ⟨bd, o, none⟩) n dcap)) (hy : ev S y = some (.slice A m scap))
    (hs : Sr c L 1 A m ys) (hu : Upd bd (.cells cs' t) L (.cells cs t) L') (hl : o + min m n ≤ (flat cs).length) (hf' : Fit cs → Fit cs') (hc : flat cs' = (flat cs).take o ++ ys.take n ++ (flat cs).drop (o + min m n))
    (k : WL c ops Q rest (putS d (.int .i64 (min m n : Nat)) S) L') : WL c ops Q (⟨d, .call ⟨.builtin .copy, #[x, y], #[T, T']⟩, ty, pos, af, none⟩ :: rest) S L :=
  WL.eff hd (E_copy ht hx hy hs hu hl hf' hc) (fun v M ⟨hv, hM⟩ => by subst hv; subst hM; exact k)

theorem V_loadIv {b q n : Nat} {k : IntKind} {l : List Int} {r : List Seg} (j : Nat) (ht : scB c.P T = true) (hx : ev S x = some (.pointer (some ⟨b, q, none⟩))) (hA : At c L b ((n, iv k l) :: r)) (hq : q = j) (hj : j < l.length) : Val c S L (.load T x) ty (.int k (l.getD j 0)) := by
  subst hq
  refine V_load1 ht hx hA ?_
  simp only [flat, List.flatMap_cons]
  rw [List.getElem?_append_left (by rw [iv_len]; exact hj), iv_get hj]
theorem V_loadSrI {b o q n : Nat} {k : IntKind} {l : List Int} (j : Nat) (h : Sr c L 1 (some ⟨b, o, none⟩) n (iv k l)) (ht : scB c.P T = true) (hx : ev S x = some (.pointer (some ⟨b, q, none⟩))) (hq : q = o + j) (hj : j < l.length) : Val c S L (.load T x) ty (.int k (l.getD j 0)) :=
  V_loadSr h rfl ht hx hq (iv_get hj)
theorem E_storeIv {b q n : Nat} {k : IntKind} {l : List Int} {r : List Seg} {v : Int} {t : TypeId} (j : Nat) (ht : szB c.P T 1 = true) (hx : ev S x = some (.pointer (some ⟨b, q, none⟩))) (hy : ev S y = some (.int k v))
    (hu : Upd b (.cells ((n, iv k (l.set j v)) :: r) t) L (.cells ((n, iv k l) :: r) t) L') (hq : q = j) (hj : j < l.length) : Eff c S L (.store T x y) ty (fun u M => u = undef ∧ M = L') := by
  subst hq
  refine E_storeF ht hx hy rfl hu (by simp [flat, iv_len]; omega) (fun hf => ?_) ?_
  · obtain ⟨h1, h2⟩ := hf.cons
    exact Fit.mk (by rw [iv_len] at h1 ⊢; simpa using h1) h2
  · simp only [flat, List.flatMap_cons]
    rw [List.set_append_left _ _ (by rw [iv_len]; exact hj), iv_set]
theorem WL.storeIv {b q n : Nat} {k : IntKind} {l : List Int} {r : List Seg} {v : Int} {t : TypeId} (j : Nat) (ht : szB c.P T 1 = true) (hx : ev S x = some (.pointer (some ⟨b, q, none⟩))) (hy : ev S y = some (.int k v))
    (hu : Upd b (.cells ((n, iv k (l.set j v)) :: r) t) L (.cells ((n, iv k l) :: r) t) L') (hq : q = j) (hj : j < l.length) (K : WL c ops Q rest S L') : WL c ops Q (⟨none, .store T x y, ty, pos, af, none⟩ :: rest) S L :=
  WL.eff (d := none) rfl (E_storeIv j ht hx hy hu hq hj) (fun v M ⟨_, hM⟩ => by subst hM; exact K)

/-- A cut by its place and length. -/
theorem V_sliceN {b o len cap l h s : Nat} (n m : Nat) {lo hi : Option Operand} (ht : slB c.P T s = true) (hx : ev S x = some (.slice (some ⟨b, o, none⟩) len cap)) (hlo : Lo S lo l) (hhi : Hi S hi len h) (h1 : h = l + n) (h2 : cap = l + m) (h3 : n ≤ m) (h4 : 0 < m) :
    Val c S L (.slice T x lo hi none) ty (.slice (some ⟨b, o + l * s, none⟩) n m) := by
  have := V_slice (c := c) (L := L) (ty := ty) ht hx hlo hhi (by omega) (by omega)
  rwa [cutA_some (by omega), show h - l = n by omega, show cap - l = m by omega] at this
theorem V_slice0 {A : Option Addr} {len cap h s : Nat} {hi : Option Operand} (ht : slB c.P T s = true) (hx : ev S x = some (.slice A len cap)) (hhi : Hi S hi len h) (h2 : h ≤ cap) :
    Val c S L (.slice T x none hi none) ty (.slice A h cap) := by
  have := V_slice (c := c) (L := L) (ty := ty) ht hx .no hhi (by omega) (by omega)
  rwa [cutA_zero, Nat.sub_zero, Nat.sub_zero] at this
theorem V_slicePN {b o len l h s : Nat} (n m : Nat) {lo hi : Option Operand} (ht : arB c.P T len s = true) (hx : ev S x = some (.pointer (some ⟨b, o, none⟩))) (hlo : Lo S lo l) (hhi : Hi S hi len h) (h1 : h = l + n) (h2 : len = l + m) (h3 : n ≤ m) (h4 : 0 < m) :
    Val c S L (.slice T x lo hi none) ty (.slice (some ⟨b, o + l * s, none⟩) n m) := by
  have := V_sliceP (c := c) (L := L) (ty := ty) ht hx hlo hhi (by omega) (by omega)
  rwa [cutA_some (by omega), show h - l = n by omega, show len - l = m by omega] at this

theorem Sr.own {b n r : Nat} {xs rs : List Value} (h : At c L b [(n, xs), (r, rs)]) (h1 : ∀ v ∈ xs, one v = true) : Sr c L 1 (some ⟨b, 0, none⟩) n xs := fun w hp => by
  have hw := h.hp hp
  obtain ⟨hl, hf⟩ := hw.1.cons
  refine hw.cells ?_ (by simp [flat]; omega) h1
  simp [flat, ← hl]
theorem Sr.all {b n : Nat} {xs : List Value} (h : At c L b [(n, xs)]) (h1 : ∀ v ∈ xs, one v = true) : Sr c L 1 (some ⟨b, 0, none⟩) n xs := fun w hp => by
  have hw := h.hp hp
  obtain ⟨hl, hf⟩ := hw.1.cons
  refine hw.cells ?_ (by simp [flat]; omega) h1
  simp [flat, ← hl]
/-- A part of an own slice. -/
theorem Sr.part {b n r o m : Nat} {xs rs : List Value} (h : At c L b [(n, xs), (r, rs)]) (h1 : ∀ v ∈ xs, one v = true) (hm : o + m ≤ n) : Sr c L 1 (some ⟨b, o, none⟩) m ((xs.drop o).take m) := fun w hp => by
  have hw := h.hp hp
  obtain ⟨hl, hf⟩ := hw.1.cons
  refine hw.cells ?_ (by simp [flat]; omega) (fun v hv => h1 v (List.drop_subset _ _ (List.take_subset _ _ hv)))
  simp only [flat, List.flatMap_cons, List.flatMap_nil, List.append_nil, Nat.mul_one]
  rw [List.drop_append_of_le_length (by omega), List.take_append_of_le_length (by simp; omega)]
theorem SrW.part {w : World} {b o n l m : Nat} {xs : List Value} (h : SrW w 1 (some ⟨b, o, none⟩) n xs) (hm : l + m ≤ n) : SrW w 1 (some ⟨b, o + l, none⟩) m ((xs.drop l).take m) := by
  refine ⟨by have := h.1; simp; omega, fun v hv => h.2.1 v (List.drop_subset _ _ (List.take_subset _ _ hv)), fun j v hv => ⟨b, o + l, rfl, ?_⟩⟩
  rw [List.getElem?_take] at hv
  split at hv <;> try (cases hv; done)
  rw [List.getElem?_drop] at hv
  obtain ⟨b', o', e, hc⟩ := h.2.2 _ v hv
  injection e with e; injection e with e1 e2; subst e1; subst e2
  rwa [Nat.add_assoc]
end
end Go.X
