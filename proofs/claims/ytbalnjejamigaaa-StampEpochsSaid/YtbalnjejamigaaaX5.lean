/- Strings of bytes compared; slices beside nil; full slices grown; marked bytes. -/
import Derived.Test.YtbalnjejamigaaaX4
set_option linter.unusedVariables false
set_option linter.unusedSimpArgs false
namespace Go.X
open Go.RowKit
def allB (l : List Int) : Prop := ∀ c ∈ l, 0 ≤ c ∧ c ≤ 255
theorem bstr_list (l : List Int) : (bstr l).data.toList = l.map fun n => UInt8.ofNat n.toNat := by
  have := bstr_data l ByteArray.empty
  unfold bstr; rw [this]; rfl
theorem bstr_inj {l l' : List Int} (h : allB l) (h' : allB l') (e : bstr l = bstr l') : l = l' := by
  have e1 := congrArg (fun b => b.data.toList) e
  simp only [bstr_list] at e1
  have key : ∀ (l l' : List Int), allB l → allB l' → (l.map fun n => UInt8.ofNat n.toNat) = (l'.map fun n => UInt8.ofNat n.toNat) → l = l' := by
    intro l
    induction l with
    | nil => intro l' _ _ e; cases l' with
      | nil => rfl
      | cons a l' => simp at e
    | cons a l ih => intro l' h h' e; cases l' with
      | nil => simp at e
      | cons b l' =>
        simp only [List.map_cons, List.cons.injEq] at e
        have ha := h a List.mem_cons_self
        have hb := h' b List.mem_cons_self
        have e2 := congrArg UInt8.toNat e.1
        rw [UInt8.toNat_ofNat', UInt8.toNat_ofNat'] at e2
        rw [ih l' (fun c hc => h c (List.mem_cons_of_mem _ hc)) (fun c hc => h' c (List.mem_cons_of_mem _ hc)) e.2]
        rw [show a = b by omega]
  exact key l l' h h' e1
theorem list_inj {a b : ByteArray} (h : a.toList = b.toList) : a = b := by
  have key : ∀ b : ByteArray, b.toList = b.data.toList := fun b => by
    have h1 : ∀ (n i : Nat) (r : List UInt8), b.size - i = n → ByteArray.toList.loop b i r = r.reverse ++ b.data.toList.drop i := by
      intro n
      induction n with
      | zero =>
        intro i r hn
        unfold ByteArray.toList.loop
        rw [if_neg (by omega), List.drop_eq_nil_of_le (by show b.data.toList.length ≤ i; rw [Array.length_toList]; show b.size ≤ i; omega), List.append_nil]
      | succ n ih =>
        intro i r hn
        unfold ByteArray.toList.loop
        have hi : i < b.size := by omega
        have hi2 : i < b.data.toList.length := by rw [Array.length_toList]; exact hi
        rw [if_pos hi, ih (i + 1) _ (by omega), List.drop_eq_getElem_cons hi2, List.reverse_cons, List.append_assoc]
        congr 2
        simp only [List.singleton_append, List.cons.injEq, and_true]
        show b.data[i]! = _
        rw [getElem!_pos b.data i hi]; simp
    have := h1 _ 0 [] rfl
    simpa [ByteArray.toList] using this
  rw [key, key] at h
  have := Array.toList_inj.1 h
  cases a; cases b; simp at this; subst this; rfl
theorem bstr_eq {l l' : List Int} (h : allB l) (h' : allB l') : ((bstr l).toList == (bstr l').toList) = decide (l = l') := by
  by_cases e : l = l'
  · subst e; simp
  · have : (bstr l).toList ≠ (bstr l').toList := fun e2 => e (bstr_inj h h' (list_inj e2))
    simp [e, this]
/-- Nobody writes it any more. -/
theorem HP.ro {w0 w : World} {O : List Nat} {L L' : List (Nat × Blk)} {b : Nat} {cs : List Seg} {t : TypeId} (h : HP w0 w O L) (hu : Upd b (.ro cs) L (.cells cs t) L') : HP w0 w O L' := by
  refine h.upd hu rfl rfl rfl rfl (fun _ _ => rfl) ?_
  have := h.held _ hu.mem
  exact ⟨this.1, t, _, this.2⟩
theorem upd {b : Nat} {k k0 : Blk} {L L' : List (Nat × Blk)} (h : Upd b k L k0 L' := by repeat (first | exact Upd.here _ _ | apply Upd.there)) : Upd b k L k0 L' := h
section
variable {c : Cx} {Q : Post} {S S1 : Slots} {L L1 L' Lr Lx : List (Nat × Blk)} {ops : Array Oper} {d : Option Tmp} {t : Tmp} {ty T T' : TypeId} {pos : String} {af : Array Edge} {rest : List Oper} {op : Op} {x y z : Operand} {v : Value} {g : Option (Nat × Bool)} {i j : Nat} {p : Plan}
theorem veqS {l l' : List Int} (hx : ev S x = some (.string (bstr l)) := by exact rfl) (hy : ev S y = some (.string (bstr l')) := by exact rfl) (h1 : allB l := by exact sc) (h2 : allB l' := by exact sc) : Val c S L (.binOp .eql T x y T') ty (.bool (decide (l = l'))) := by
  have := V_eqlS (c := c) (L := L) (ty := ty) (T := T) (T' := T') hx hy; rwa [bstr_eq h1 h2] at this
theorem vneS {l l' : List Int} (hx : ev S x = some (.string (bstr l)) := by exact rfl) (hy : ev S y = some (.string (bstr l')) := by exact rfl) (h1 : allB l := by exact sc) (h2 : allB l' := by exact sc) : Val c S L (.binOp .neq T x y T') ty (.bool (!decide (l = l'))) := by
  have := V_neqS (c := c) (L := L) (ty := ty) (T := T) (T' := T') hx hy; rwa [bstr_eq h1 h2] at this
/-- Beside a constant string. -/
theorem veqSc {l l' : List Int} {q : ByteArray} (hq : q = bstr l') (hx : ev S x = some (.string (bstr l)) := by exact rfl) (hy : ev S y = some (.string q) := by exact rfl) (h1 : allB l := by exact sc) (h2 : allB l' := by simp [allB]) : Val c S L (.binOp .eql T x y T') ty (.bool (decide (l = l'))) := by subst hq; exact veqS hx hy h1 h2
def slT (P : Program) (t : TypeId) : Bool := match P.underlying t with
  | some (.slice _) => true
  | _ => false
theorem eqIn_sl {P : Program} {w : World} {T : TypeId} (ht : slT P T = true) (d : Nat) (A : Option Addr) (n m : Nat) : (Op.equalIn (d + 1) T (.slice A n m) (.slice none 0 0)).run P w = .ok A.isNone w := by
  unfold slT at ht
  split at ht <;> try (cases ht; done)
  rename_i hu
  cases A <;> simp [Op.equalIn, run_underlying hu]
theorem veqN {A : Option Addr} {n m : Nat} (hx : ev S x = some (.slice A n m) := by exact rfl) (hy : ev S y = some (.slice none 0 0) := by exact rfl) (ht : slT c.P T = true := by kernel_rfl) : Val c S L (.binOp .eql T x y T') ty (.bool A.isNone) :=
  V_binG hx hy (fun w => rfl) fun w => by simp only [binOp]; simp [run_equal fun d => eqIn_sl ht d A n m]
theorem oro {b n cap : Nat} {cs : List Seg} {e : TypeId} (k : WL c ops Q rest ((t, .slice (some ⟨b, 0, none⟩) n cap) :: S) L') (hx : ev S x = some (.slice (some ⟨b, 0, none⟩) n cap) := by exact rfl) (hu : Upd b (.ro cs) L (.cells cs e) L' := by exact upd) (ht : u8sB c.P T = true := by kernel_rfl) (hd : Nat.blt t c.n = true := by exact rfl) : WL c ops Q (⟨some t, .convert T T x, ty, pos, af, none⟩ :: rest) S L :=
  WL.eff (d := some t) hd (E_mark ht hx hu) fun v M ⟨hv, hM⟩ => by subst hv; subst hM; exact k
theorem dro {b n cap : Nat} {cs : List Seg} {e : TypeId} (ho : ops[i]? = some ⟨some t, .convert T T x, ty, pos, af, g⟩) (k : WD c ops Q Lr p ((t, .slice (some ⟨b, 0, none⟩) n cap) :: S) L') (hg : Gd ops S g := by exact trivial) (hx : ev S x = some (.slice (some ⟨b, 0, none⟩) n cap) := by exact rfl) (hu : Upd b (.ro cs) L (.cells cs e) L' := by exact upd) (ht : u8sB c.P T = true := by kernel_rfl) (hd : Nat.blt t c.n = true := by exact rfl) (hs : Lr.Sublist L := by exact subl) (hm : ∀ p ∈ Lr, p ∈ L' := by simp) : WO c ops Q Lr i p S L :=
  WO.effG ho hg (d := some t) hd hs (E_mark ht hx hu) fun v M ⟨hv, hM⟩ => by subst hv; subst hM; exact ⟨hm, k⟩
/-- A full slice must make room. -/
theorem E_appF {q : Addr} {n m cap2 : Nat} {xs ys : List Value} {A : Option Addr} (e by' : Nat) (ht : slE c.P T e by' = true) (hx : ev S x = some (.slice (some q) n n)) (hy : ev S y = some (.slice A m cap2)) (hxs : Sr c L 1 (some q) n xs) (h0 : 0 < n)
    (hs : Sr c L 1 A m ys) (h1 : 0 < m) (hb : (n + m) * by' ≤ 140737488355328) (hl : n + m ≤ 9223372036854775807) :
    Eff c S L (.call ⟨.builtin .append, #[x, y], #[T, T]⟩) ty fun v M => ∃ b' cap' rest', n + m ≤ cap' ∧ v = .slice (some ⟨b', 0, none⟩) (n + m) cap' ∧ M = (b', .cells [(n + m, xs ++ ys), (cap' - (n + m), rest')] e) :: L := fun a w st => by
  obtain ⟨hu, i, z, hi, h1', h2, hz, h3⟩ := slE_open ht
  have hw := hs w st.hp
  have hwx := hxs w st.hp
  have hyl : ys.length = m := by have := hw.1; omega
  have hxl : xs.length = n := by have := hwx.1; omega
  have ha : evs S (#[x, y] : Array Operand).toList = some [.slice (some q) n n, .slice A m cap2] := by simp [evs, hx, hy]
  obtain ⟨b2, o2, hA⟩ := hw.has (by omega)
  subst hA
  obtain ⟨b1, o1, hq⟩ := hwx.has (by omega)
  injection hq with hq; subst hq
  have hr := run_append_grow (P := c.P) w T ty e i z hu hi hz ⟨b1, o1, none⟩ n n xs (by rw [h1']; omega) (fun j v hv => by
        obtain ⟨b3, o3, e3, hc⟩ := hwx.2.2 j v hv
        injection e3 with e3; injection e3 with e4 e5; subst e4; subst e5
        rw [add_none]; exact hc)
      ⟨b2, o2, none⟩ m cap2 ys (by rw [h1']; omega) (fun j v hv => by
        obtain ⟨b3, o3, e3, hc⟩ := hw.2.2 j v hv
        injection e3 with e3; injection e3 with e4 e5; subst e4; subst e5
        rw [add_none]; exact hc) (by omega) (by omega) (growslice_fits (by omega) (by rw [h2]; exact hb))
  have hge := grownCap_ge w (n + m) n e
  refine ⟨_, w.drew.alloc (.cells (xs.toArray ++ ys.toArray ++ Builtin.zeroCells z.cells (grownCap w (n + m) n e - (n + m))) e), _, .inl (run_builtin st ha fun cs => ?_), ?_, w.heap.size, grownCap w (n + m) n e, (Builtin.zeroCells z.cells (grownCap w (n + m) n e - (n + m))).toList, hge, rfl, rfl⟩
  · simp [builtin, hr]
  · refine (st.hp.drew _).alloc ⟨Fit.mk (by simp; omega) (Fit.mk (by simp [size_zeroCells, h3]) Fit.nil), ?_⟩
    simp [flat]
/-- A full own block of integers grown; the outcome is not written any more. -/
theorem oapF {b n m cap2 : Nat} {k : IntKind} {l l2 : List Int} {A : Option Addr} {T0 : TypeId} (e by' : Nat)
    (K : ∀ b' cap' rs', n + m ≤ cap' → WL c ops Q rest ((t, .slice (some ⟨b', 0, none⟩) (n + m) cap') :: S) ((b', .ro [(n + m, iv k (l ++ l2)), (cap' - (n + m), rs')]) :: Lr))
    (ht : slE c.P T e by' = true := by kernel_rfl) (hx : ev S x = some (.slice (some ⟨b, 0, none⟩) n n) := by exact rfl) (hy : ev S y = some (.slice A m cap2) := by exact rfl) (hD : Del b (.cells [(n, iv k l)] T0) L Lr := by repeat (first | exact Del.here _ | apply Del.there)) (h0 : 0 < n := by omega)
    (hs : Sr c L 1 A m (iv k l2) := by intro w hp; exact sw) (hb : (n + m) * by' ≤ 140737488355328 := by omega) (hl : n + m ≤ 9223372036854775807 := by omega) (hd : Nat.blt t c.n = true := by exact rfl) :
    WL c ops Q (⟨some t, .call ⟨.builtin .append, #[x, y], #[T, T]⟩, ty, pos, af, none⟩ :: rest) S L := by
  have hbl : ∀ w, HP c.w0 w c.O L → AtW w b [(n, iv k l)] := fun w hp => hp.atw hD.mem
  by_cases h1 : 0 < m
  · refine WL.eff (d := some t) hd (E_appF e by' ht hx hy (fun w hp => (hbl w hp).sall iv_one) h0 hs h1 hb hl) fun v M ⟨b', c', r', h2, hv, hM⟩ => ?_
    subst hv; subst hM
    rw [iv_app]
    intro a w st
    exact K b' c' r' h2 a w ⟨st.sl, (st.hp.ro (.here _ _)).sub (List.Sublist.cons_cons _ hD.sub)⟩
  · have hm0 : m = 0 := by omega
    subst hm0
    refine WL.val hd (V_append0 e by' ht hx hy (Nat.le_refl _)) ?_
    intro a w st
    have hl2 : l2 = [] := by have := (hs w st.hp).1; rw [iv_len] at this; exact List.length_eq_zero_iff.1 (by omega)
    subst hl2
    have hh := hbl w st.hp
    refine K b n [] (Nat.le_refl _) a w ⟨st.sl, ?_⟩
    obtain ⟨A', B', hL, hL2⟩ := hD.split
    subst hL; subst hL2
    have hp2 := st.hp.ro (Upd.mid (k := .ro [(n, iv k l)]) A' B')
    have hp3 := hp2.perm (List.perm_middle.symm)
    refine ⟨hp3.os, hp3.tape, hp3.output, hp3.size, hp3.keep, fun q hq => ?_, fun q hq => ?_, hp3.nodup⟩
    · rcases List.mem_cons.1 hq with rfl | hq
      · obtain ⟨h4, t4, fz, h5⟩ := hp3.held _ List.mem_cons_self
        obtain ⟨h6, _⟩ := h4.cons
        refine ⟨Fit.mk (by simpa using h6) (Fit.mk (by simp) Fit.nil), t4, fz, ?_⟩
        rw [h5]; simp [flat]
      · exact hp3.held q (List.mem_cons_of_mem _ hq)
    · rcases List.mem_cons.1 hq with rfl | hq
      · exact hp3.own (b, Blk.ro [(n, iv k l)]) List.mem_cons_self
      · exact hp3.own q (List.mem_cons_of_mem _ hq)
def setAllV : List (Nat × Value) → List Value → List Value
  | [], z => z
  | (i, v) :: r, z => setAllV r (z.set i v)
theorem fill_set : ∀ (ps : List (Nat × Value)) (z : List Value), (∀ q ∈ ps, one q.2 = true ∧ q.1 < z.length) → Instr.fill (fun i => some (i * 1, 1)) z.toArray ps = some (setAllV ps z).toArray
  | [], z, _ => rfl
  | (i, v) :: r, z, h => by
    obtain ⟨h1, h2⟩ := h _ List.mem_cons_self
    simp only at h1 h2
    have hc : v.cells = #[v] := by cases v <;> first | rfl | (cases h1; done)
    have hcond : (decide ((#[v] : Array Value).size ≠ 1) || decide (i * 1 + (#[v] : Array Value).size > z.toArray.size)) = false := by simp; omega
    have e : Array.foldl (fun cs (q : Value × Nat) => cs.setIfInBounds (i * 1 + q.2) q.1) z.toArray (#[v] : Array Value).zipIdx = (z.set i v).toArray := by simp [Array.zipIdx]
    simp only [Instr.fill, hc, hcond, Bool.false_eq_true, if_false]
    rw [e]
    exact fill_set r (z.set i v) (fun q hq => by have := h q (List.mem_cons_of_mem _ hq); simpa using this)
theorem evs_zip : ∀ (ps : List (Nat × Operand)) (vs : List Value) {n : Nat} {a : Act}, Sl n a S → evs S (ps.map (·.2)) = some vs → (ps.map fun q => (q.1, a.eval q.2)) = (ps.map (·.1)).zip vs
  | [], vs, _, _, _, h => by simp [evs] at h; subst h; rfl
  | q :: ps, vs, n, a, sl, h => by
    simp only [List.map_cons, evs] at h
    cases hq : ev S q.2 with
    | none => rw [hq] at h; simp at h
    | some v =>
      rw [hq] at h
      cases hr : evs S (ps.map (·.2)) with
      | none => rw [hr] at h; simp at h
      | some us => rw [hr] at h; simp at h; subst h; simp [sl.ev hq, evs_zip ps us sl hr]
/-- An array of integers, of which some are told; the rest is 0. -/
theorem vbI {parts : Array (Nat × Operand)} {vs : List Value} (n : Nat) (k : IntKind) (m : Nat) (l : List Int) (hv : evs S (parts.toList.map (·.2)) = some vs := by exact rfl) (hT : arB c.P T n 1 = true := by kernel_rfl) (hz : zeroIs c.P T [(n, List.replicate n (.int k 0))] := by exact zi)
    (h1 : ((parts.toList.map (·.1)).zip vs).all (fun q => one q.2 && Nat.blt q.1 n) = true := by rfl) (he : setAllV ((parts.toList.map (·.1)).zip vs) (List.replicate n (.int k 0)) = iv k (l ++ List.replicate (n - m) 0) := by rfl) :
    Val c S L (.build T parts) ty (AG [(n, iv k (l ++ List.replicate (n - m) 0))]) := fun a w st => by
  obtain ⟨z, hz1, hz2⟩ := run_zeroValue (w := w) hz
  unfold arB at hT
  split at hT <;> try (cases hT; done)
  rename_i m' e' hu
  simp only [Bool.and_eq_true, beq_iff_eq] at hT
  obtain ⟨rfl, hs⟩ := hT
  have e : (parts.map fun (i, x) => (i, a.eval x)).toList = parts.toList.map fun q => (q.1, a.eval q.2) := by simp
  have hz3 : z.cells = (List.replicate m' (Value.int k 0)).toArray := by rw [hz2]; simp [flat]
  have hf := fill_set ((parts.toList.map (·.1)).zip vs) (List.replicate m' (Value.int k 0)) (fun q hq => by
    have := List.all_eq_true.1 h1 q hq
    simp only [Bool.and_eq_true] at this
    exact ⟨this.1, by simpa using blt_lt this.2⟩)
  simp only [ex, execOp, Instr.build]
  simp only [Sem.run_bind, hz1, Result.andThen_ok, run_underlying hu, hz3, e, run_sizeOf_sz hs, evs_zip parts.toList vs st.sl hv, hf, he]
  simp [AG, flat]
/-- Onto nothing. -/
theorem oap0 {m cap cap2 b : Nat} {k : IntKind} {l2 : List Int} {rs : List Value} {A : Option Addr} (e by' : Nat)
    (K : ∀ b' cap' rs', m ≤ cap' → WL c ops Q rest ((t, .slice (some ⟨b', 0, none⟩) m cap') :: S) ((b', .cells [(m, iv k l2), (cap' - m, rs')] e) :: Lr))
    (ht : slE c.P T e by' = true := by kernel_rfl) (hx : ev S x = some (.slice (some ⟨b, 0, none⟩) 0 cap) := by exact rfl) (hy : ev S y = some (.slice A m cap2) := by exact rfl) (hD : Del b (.cells [(0, iv k []), (cap - 0, rs)] e) L Lr := by repeat (first | exact Del.here _ | apply Del.there))
    (hs : Sr c L 1 A m (iv k l2) := by intro w hp; exact sw) (hb : m * by' ≤ 140737488355328 := by omega) (hl : m ≤ 9223372036854775807 := by omega) (hd : Nat.blt t c.n = true := by exact rfl) :
    WL c ops Q (⟨some t, .call ⟨.builtin .append, #[x, y], #[T, T]⟩, ty, pos, af, none⟩ :: rest) S L := by
  refine oap (k := k) (l := []) (l2 := l2) e by' ?_ ht hx hy hD (Nat.zero_le _) hs (by rwa [Nat.zero_add]) (by rwa [Nat.zero_add]) hd
  rw [Nat.zero_add]; exact K
theorem dap0 {m cap cap2 b : Nat} {k : IntKind} {l2 : List Int} {rs : List Value} {A : Option Addr} (ho : ops[i]? = some ⟨some t, .call ⟨.builtin .append, #[x, y], #[T, T]⟩, ty, pos, af, g⟩) (e by' : Nat)
    (K : ∀ b' cap' rs', m ≤ cap' → WD c ops Q Lr p ((t, .slice (some ⟨b', 0, none⟩) m cap') :: S) ((b', .cells [(m, iv k l2), (cap' - m, rs')] e) :: Lx)) (hg : Gd ops S g := by exact trivial)
    (ht : slE c.P T e by' = true := by kernel_rfl) (hx : ev S x = some (.slice (some ⟨b, 0, none⟩) 0 cap) := by exact rfl) (hy : ev S y = some (.slice A m cap2) := by exact rfl) (hD : Del b (.cells [(0, iv k []), (cap - 0, rs)] e) L Lx := by repeat (first | exact Del.here _ | apply Del.there))
    (hs : Sr c L 1 A m (iv k l2) := by intro w hp; exact sw) (hb : m * by' ≤ 140737488355328 := by omega) (hl : m ≤ 9223372036854775807 := by omega) (hd : Nat.blt t c.n = true := by exact rfl) (hLr : Lr.Sublist L := by exact subl) (hm : ∀ p ∈ Lr, p ∈ Lx := by simp) : WO c ops Q Lr i p S L := by
  refine dap (k := k) (l := []) (l2 := l2) ho e by' ?_ hg ht hx hy hD (Nat.zero_le _) hs (by rwa [Nat.zero_add]) (by rwa [Nat.zero_add]) hd hLr hm
  rw [Nat.zero_add]; exact K
/-- A slice's begin as an array. -/
theorem vs2p {A : Option Addr} {cap len : Nat} {xs : List Value} (m : Nat) (hx : ev S x = some (.slice A len cap) := by exact rfl) (hs : Sr c L 1 A len xs := by intro w hp; exact sw) (h0 : m ≤ len := by omega) (hm : 0 < m := by omega) (ht : arB c.P T m 1 = true := by kernel_rfl) : Val c S L (.sliceToArrayPointer T x) ty (.pointer A) := fun a w st => by
  obtain ⟨b, o, rfl⟩ := (hs w st.hp).hasN (by omega)
  exact V_s2p ht h0 hx a w st
theorem vldAS {A : Option Addr} {n : Nat} {k : IntKind} {l : List Int} (m : Nat) (hx : ev S x = some (.pointer A) := by exact rfl) (hs : Sr c L 1 A n (iv k l) := by intro w hp; exact sw) (h0 : m ≤ n := by omega) (hm : 0 < m := by omega) (ht : agB c.P T m = true := by kernel_rfl) : Val c S L (.load T x) ty (AG [(m, iv k (l.take m))]) := fun a w st => by
  have hw := hs w st.hp
  obtain ⟨b, o, rfl⟩ := hw.hasN (by omega)
  have e1 := st.sl.ev hx
  have hl := hw.1
  rw [iv_len] at hl
  have hc : ∀ (j i : Nat) (acc : Array Value), i + j ≤ m → (loadCellsFrom ⟨b, o, none⟩ i j acc).run c.P w = .ok (acc ++ (((iv k l).drop i).take j).toArray) w := by
    intro j
    induction j with
    | zero => intro i acc _; simp [loadCellsFrom]
    | succ j ih =>
      intro i acc hle
      have hi : i < (iv k l).length := by rw [iv_len]; omega
      obtain ⟨b2, o2, e2, hcell⟩ := hw.2.2 i _ (List.getElem?_eq_getElem hi)
      injection e2 with e2; injection e2 with e3 e4; subst e3; subst e4
      simp only [loadCellsFrom, Sem.run_bind, load, Sem.run, add_none, hcell, Result.andThen_ok]
      rw [ih (i + 1) _ (by omega)]
      congr 1
      rw [List.drop_eq_getElem_cons hi, List.take_succ_cons]
      simp
  have hL := hc m 0 #[] (by omega)
  simp [ex, execOp, e1, Instr.loadAt, Instr.sureAddr, loadVar, run_isAgg_ag ht, run_sizeOf_sz (sz_of_ag ht), loadCells, hL, AG, flat, iv_take]
/-- By an index that is a number as it stands. -/
theorem viA0Z {i : Operand} {b : Nat} {k : IntKind} {p : Int} (n : Nat) (hx : ev S x = some (.pointer (some ⟨b, 0, none⟩)) := by exact rfl) (hi : ev S i = some (.int k p) := by exact rfl) (h0 : 0 ≤ p ∧ p < n := by omega) (ht : arB c.P T n 1 = true := by kernel_rfl) : Val c S L (.indexAddr T x i) ty (.pointer (some ⟨b, p.toNat, none⟩)) := by
  have := V_indexAddrA (c := c) (L := L) (ty := ty) n 1 ht hx hi h0.1 h0.2; simpa using this
theorem viS0Z {i : Operand} {b len cap : Nat} {k : IntKind} {p : Int} (hx : ev S x = some (.slice (some ⟨b, 0, none⟩) len cap) := by exact rfl) (hi : ev S i = some (.int k p) := by exact rfl) (h0 : 0 ≤ p ∧ p < len := by omega) (ht : slB c.P T 1 = true := by kernel_rfl) : Val c S L (.indexAddr T x i) ty (.pointer (some ⟨b, p.toNat, none⟩)) := by
  have := V_indexAddrS (c := c) (L := L) (ty := ty) 1 ht hx hi h0.1 h0.2; simpa using this
theorem viS1Z {i : Operand} {b o len cap : Nat} {k : IntKind} {p : Int} (hx : ev S x = some (.slice (some ⟨b, o, none⟩) len cap) := by exact rfl) (hi : ev S i = some (.int k p) := by exact rfl) (h0 : 0 ≤ p ∧ p < len := by omega) (ht : slB c.P T 1 = true := by kernel_rfl) : Val c S L (.indexAddr T x i) ty (.pointer (some ⟨b, o + p.toNat, none⟩)) := by
  have := V_indexAddrS (c := c) (L := L) (ty := ty) 1 ht hx hi h0.1 h0.2; simpa using this
end
end Go.X
