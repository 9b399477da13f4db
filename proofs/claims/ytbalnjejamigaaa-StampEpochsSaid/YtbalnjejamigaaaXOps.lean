/- What single operations yield, over slots and tracked blocks. -/
import Derived.Test.YtbalnjejamigaaaXBase
set_option linter.unusedVariables false
set_option linter.unusedSimpArgs false
namespace Go.X
open Go.RowKit

/-! ### facts on types -/
def scB (P : Program) (t : TypeId) : Bool := match P.info? t, P.underlying t with
  | some i, some d => i.size == 1 && (match d with | .struct _ | .array _ _ => false | _ => true)
  | _, _ => false
def agB (P : Program) (t : TypeId) (n : Nat) : Bool := match P.info? t, P.underlying t with
  | some i, some d => i.size == n && (match d with | .struct _ | .array _ _ => true | _ => false)
  | _, _ => false
def szB (P : Program) (t : TypeId) (n : Nat) : Bool := match P.info? t with
  | some i => i.size == n
  | none => false
/-- Field f of struct type t: of n cells (not 0), at offset k. -/
def fldB (P : Program) (t : TypeId) (f k n : Nat) : Bool := match P.underlying t with
  | some (.struct fs) => (match fs[f]? with
    | some x => x.offset == k && szB P x.type n && n != 0
    | none => false)
  | _ => false
def arB (P : Program) (t : TypeId) (n s : Nat) : Bool := match P.underlying t with
  | some (.array m e') => m == n && szB P e' s
  | _ => false
def slB (P : Program) (t : TypeId) (s : Nat) : Bool := match P.underlying t with
  | some (.slice e') => szB P e' s
  | _ => false
def ptB (P : Program) (t : TypeId) : Bool := match P.underlying t with
  | some (.pointer _) => true
  | _ => false
def boB (P : Program) (t : TypeId) : Bool := match P.underlying t with
  | some .bool => true
  | _ => false
def inB' (P : Program) (t : TypeId) (k : IntKind) : Bool := match P.underlying t with
  | some (.int k') => k == k'
  | _ => false

section
variable {P : Program} {w : World}
theorem run_isAgg_sc {t : TypeId} (h : scB P t = true) : (isAgg t).run P w = .ok false w := by
  unfold scB at h
  split at h <;> try (cases h; done)
  rename_i i d _ hu
  simp only [Bool.and_eq_true] at h
  cases d <;> simp [isAgg, run_underlying hu] at h ⊢
theorem run_isAgg_ag {t : TypeId} {n : Nat} (h : agB P t n = true) : (isAgg t).run P w = .ok true w := by
  unfold agB at h
  split at h <;> try (cases h; done)
  rename_i i d _ hu
  simp only [Bool.and_eq_true] at h
  cases d <;> simp [isAgg, run_underlying hu] at h ⊢
theorem run_sizeOf_sz {t : TypeId} {n : Nat} (h : szB P t n = true) : (sizeOf t).run P w = .ok n w := by
  unfold szB at h
  split at h <;> try (cases h; done)
  rename_i i hi
  simp only [beq_iff_eq] at h
  simp [sizeOf, run_typeInfo _ hi, h]
theorem sz_of_sc {t : TypeId} (h : scB P t = true) : szB P t 1 = true := by
  unfold scB at h; unfold szB
  split at h <;> simp_all
theorem sz_of_ag {t : TypeId} {n : Nat} (h : agB P t n = true) : szB P t n = true := by
  unfold agB at h; unfold szB
  split at h <;> simp_all
end

/-! ### contents -/
def one : Value → Bool
  | .agg _ | .tuple _ => false
  | _ => true

/-- An aggregate out of segments. -/
def AG (c : List Seg) : Value := .agg (flat c).toArray

def consS (s : Seg) : Option (List Seg) → Option (List Seg)
  | some r => some (s :: r)
  | none => none
theorem consS_some {s : Seg} {o : Option (List Seg)} {c : List Seg} (h : consS s o = some c) : ∃ r, o = some r ∧ s :: r = c := by
  cases o with
  | none => cases h
  | some r => exact ⟨r, rfl, Option.some.inj h⟩

def cell1 : List Seg → Nat → Option Value
  | [], _ => none
  | (m, l) :: r, i => if Nat.blt i m then l[i]? else cell1 r (i - m)
def set1 : List Seg → Nat → Value → Option (List Seg)
  | [], _, _ => none
  | (m, l) :: r, i, v => if Nat.ble m i then consS (m, l) (set1 r (i - m) v) else if Nat.beq m 1 then some ((1, [v]) :: r) else none
/-- Whole segments, n cells of them. -/
def takeS : List Seg → Nat → Option (List Seg)
  | [], n => if Nat.beq n 0 then some [] else none
  | (m, l) :: r, n => if Nat.beq n 0 then some [] else if Nat.ble m n then consS (m, l) (takeS r (n - m)) else none
/-- Whole segments from offset i on. -/
def subS : List Seg → Nat → Nat → Option (List Seg)
  | [], i, n => if Nat.beq i 0 then takeS [] n else none
  | (m, l) :: r, i, n => if Nat.beq i 0 then takeS ((m, l) :: r) n else if Nat.ble m i then subS r (i - m) n else none
def dropS : List Seg → Nat → List Seg → Option (List Seg)
  | [], n, d => if Nat.beq n 0 then some d else none
  | (m, l) :: r, n, d => if Nat.beq n 0 then some (d ++ (m, l) :: r) else if Nat.ble m n then dropS r (n - m) d else none
def putAt : List Seg → Nat → Nat → List Seg → Option (List Seg)
  | [], i, n, d => if Nat.beq i 0 then dropS [] n d else none
  | (m, l) :: r, i, n, d => if Nat.beq i 0 then dropS ((m, l) :: r) n d else if Nat.ble m i then consS (m, l) (putAt r (i - m) n d) else none

theorem flat_cons (m : Nat) (l : List Value) (r : List Seg) : flat ((m, l) :: r) = l ++ flat r := by simp [flat]
theorem flat_append (a b : List Seg) : flat (a ++ b) = flat a ++ flat b := by simp [flat]
theorem Fit.cons {m : Nat} {l : List Value} {r : List Seg} (h : Fit ((m, l) :: r)) : l.length = m ∧ Fit r :=
  ⟨h (m, l) List.mem_cons_self, fun s hs => h s (List.mem_cons_of_mem _ hs)⟩
theorem Fit.nil : Fit [] := fun _ h => by cases h
theorem Fit.mk {m : Nat} {l : List Value} {r : List Seg} (h : l.length = m) (hr : Fit r) : Fit ((m, l) :: r) := fun s hs => by
  cases hs with
  | head => exact h
  | tail _ hs => exact hr s hs
theorem Fit.append {a b : List Seg} (ha : Fit a) (hb : Fit b) : Fit (a ++ b) := fun s hs => by
  rcases List.mem_append.1 hs with h | h
  · exact ha s h
  · exact hb s h

theorem cell1_flat : ∀ {c : List Seg} {i : Nat} {v : Value}, Fit c → cell1 c i = some v → (flat c)[i]? = some v
  | [], i, v, _, h => by simp [cell1] at h
  | (m, l) :: r, i, v, hf, h => by
    obtain ⟨hl, hr⟩ := hf.cons
    unfold cell1 at h
    rw [flat_cons]
    split at h
    · rename_i hb
      have := blt_lt hb
      rw [List.getElem?_append_left (by omega)]; exact h
    · rename_i hb
      have : ¬ i < m := fun hlt => hb (by simpa using hlt)
      rw [List.getElem?_append_right (by omega), hl]
      exact cell1_flat hr h

theorem set1_flat : ∀ {c c' : List Seg} {i : Nat} {v : Value}, Fit c → set1 c i v = some c' → flat c' = (flat c).set i v ∧ Fit c' ∧ i < (flat c).length
  | [], c', i, v, _, h => by simp [set1] at h
  | (m, l) :: r, c', i, v, hf, h => by
    obtain ⟨hl, hr⟩ := hf.cons
    unfold set1 at h
    split at h
    · rename_i hb
      have hle := Nat.le_of_ble_eq_true hb
      obtain ⟨c1, h1, rfl⟩ := consS_some h
      obtain ⟨e1, f1, g1⟩ := set1_flat hr h1
      refine ⟨?_, Fit.mk hl f1, ?_⟩
      · rw [flat_cons, flat_cons, e1, List.set_append, if_neg (by omega), hl]
      · rw [flat_cons, List.length_append]; omega
    · rename_i hb
      split at h
      · rename_i h1
        have h1 := Nat.eq_of_beq_eq_true h1
        have hi : i = 0 := by
          rcases Nat.lt_or_ge i m with h2 | h2
          · omega
          · exact absurd (Nat.ble_eq_true_of_le h2) hb
        cases h
        subst hi; subst h1
        match l, hl with
        | [x], _ => exact ⟨by simp [flat], Fit.mk rfl hr, by simp [flat]⟩
      · cases h

theorem takeS_flat : ∀ {c c' : List Seg} {n : Nat}, Fit c → takeS c n = some c' → flat c' = (flat c).take n ∧ Fit c' ∧ n ≤ (flat c).length
  | [], c', n, _, h => by
    unfold takeS at h
    split at h
    · rename_i h1
      have h1 := Nat.eq_of_beq_eq_true h1
      cases h; subst h1
      exact ⟨rfl, Fit.nil, Nat.zero_le _⟩
    · cases h
  | (m, l) :: r, c', n, hf, h => by
    obtain ⟨hl, hr⟩ := hf.cons
    unfold takeS at h
    split at h
    · rename_i h1
      have h1 := Nat.eq_of_beq_eq_true h1
      cases h; subst h1
      exact ⟨by simp [flat], Fit.nil, Nat.zero_le _⟩
    · split at h
      · rename_i hb
        have hle := Nat.le_of_ble_eq_true hb
        obtain ⟨c1, h1, rfl⟩ := consS_some h
        obtain ⟨e1, f1, g1⟩ := takeS_flat hr h1
        refine ⟨?_, Fit.mk hl f1, ?_⟩
        · rw [flat_cons, flat_cons, e1, List.take_append, List.take_of_length_le (l := l) (by omega), hl]
        · rw [flat_cons, List.length_append]; omega
      · cases h

theorem subS_flat : ∀ {c c' : List Seg} {i n : Nat}, Fit c → subS c i n = some c' → flat c' = ((flat c).drop i).take n ∧ Fit c' ∧ i + n ≤ (flat c).length
  | [], c', i, n, hf, h => by
    unfold subS at h
    split at h
    · rename_i h1
      have h1 := Nat.eq_of_beq_eq_true h1
      subst h1
      obtain ⟨e, f, g⟩ := takeS_flat hf h
      exact ⟨by simpa using e, f, by omega⟩
    · cases h
  | (m, l) :: r, c', i, n, hf, h => by
    obtain ⟨hl, hr⟩ := hf.cons
    unfold subS at h
    split at h
    · rename_i h1
      have h1 := Nat.eq_of_beq_eq_true h1
      subst h1
      obtain ⟨e, f, g⟩ := takeS_flat hf h
      exact ⟨by simpa using e, f, by omega⟩
    · split at h
      · rename_i hb
        have hle := Nat.le_of_ble_eq_true hb
        obtain ⟨e1, f1, g1⟩ := subS_flat hr h
        refine ⟨?_, f1, ?_⟩
        · rw [e1, flat_cons, List.drop_append, List.drop_of_length_le (l := l) (by omega), List.nil_append, hl]
        · rw [flat_cons, List.length_append]; omega
      · cases h

theorem dropS_flat : ∀ {c c' d : List Seg} {n : Nat}, Fit c → Fit d → dropS c n d = some c' → flat c' = flat d ++ (flat c).drop n ∧ Fit c' ∧ n ≤ (flat c).length
  | [], c', d, n, _, hd, h => by
    unfold dropS at h
    split at h
    · rename_i h1
      have h1 := Nat.eq_of_beq_eq_true h1
      cases h; subst h1
      exact ⟨by simp [flat], hd, Nat.zero_le _⟩
    · cases h
  | (m, l) :: r, c', d, n, hf, hd, h => by
    obtain ⟨hl, hr⟩ := hf.cons
    unfold dropS at h
    split at h
    · rename_i h1
      have h1 := Nat.eq_of_beq_eq_true h1
      cases h; subst h1
      exact ⟨by simp [flat_append], hd.append hf, Nat.zero_le _⟩
    · split at h
      · rename_i hb
        have hle := Nat.le_of_ble_eq_true hb
        obtain ⟨e1, f1, g1⟩ := dropS_flat hr hd h
        refine ⟨?_, f1, ?_⟩
        · rw [e1, flat_cons, List.drop_append, List.drop_of_length_le (l := l) (by omega), List.nil_append, hl]
        · rw [flat_cons, List.length_append]; omega
      · cases h

theorem putAt_flat : ∀ {c c' d : List Seg} {i n : Nat}, Fit c → Fit d → putAt c i n d = some c' → flat c' = (flat c).take i ++ flat d ++ (flat c).drop (i + n) ∧ Fit c' ∧ i + n ≤ (flat c).length
  | [], c', d, i, n, hf, hd, h => by
    unfold putAt at h
    split at h
    · rename_i h1
      have h1 := Nat.eq_of_beq_eq_true h1
      subst h1
      obtain ⟨e, f, g⟩ := dropS_flat hf hd h
      exact ⟨by simpa using e, f, by omega⟩
    · cases h
  | (m, l) :: r, c', d, i, n, hf, hd, h => by
    obtain ⟨hl, hr⟩ := hf.cons
    unfold putAt at h
    split at h
    · rename_i h1
      have h1 := Nat.eq_of_beq_eq_true h1
      subst h1
      obtain ⟨e, f, g⟩ := dropS_flat hf hd h
      exact ⟨by simpa using e, f, by omega⟩
    · split at h
      · rename_i hb
        have hle := Nat.le_of_ble_eq_true hb
        obtain ⟨c1, h1, rfl⟩ := consS_some h
        obtain ⟨e1, f1, g1⟩ := putAt_flat hr hd h1
        refine ⟨?_, Fit.mk hl f1, ?_⟩
        · rw [flat_cons, e1, flat_cons, List.take_append, List.take_of_length_le (l := l) (by omega), hl, List.drop_append, List.drop_of_length_le (l := l) (by omega), hl]
          simp only [List.nil_append, List.append_assoc]
          rw [show i - m + n = i + n - m by omega]
        · rw [flat_cons, List.length_append]; omega
      · cases h

/-! ### blocks that are read -/
/-- Block b holds these cells: a tracked one, or an old one that nobody writes. -/
def At (c : Cx) (L : List (Nat × Blk)) (b : Nat) (cs : List Seg) : Prop :=
  ((∃ t, (b, Blk.cells cs t) ∈ L) ∨ (b, Blk.ro cs) ∈ L) ∨ (b ∉ c.O ∧ Fit cs ∧ ∃ t fz, c.w0.heap[b]? = some (.cells (flat cs).toArray t fz))

theorem At.own {c : Cx} {L : List (Nat × Blk)} {b : Nat} {cs : List Seg} {t : TypeId} (h : (b, Blk.cells cs t) ∈ L) : At c L b cs := .inl (.inl ⟨t, h⟩)

theorem At.here {c : Cx} {S : Slots} {L : List (Nat × Blk)} {b : Nat} {cs : List Seg} (h : At c L b cs) {a : Act} {w : World} (st : St c S L a w) :
    Fit cs ∧ ∃ t fz, w.heap[b]? = some (.cells (flat cs).toArray t fz) := by
  rcases h with (⟨t, h⟩ | h) | ⟨h1, h2, t, fz, h3⟩
  · have := st.hp.held _ h
    exact ⟨this.1, t, _, this.2⟩
  · exact st.hp.held _ h
  · refine ⟨h2, t, fz, ?_⟩
    rw [st.hp.keep b (Array.getElem?_eq_some_iff.1 h3).1 h1]; exact h3

theorem cell_of_heap {w : World} {b : Nat} {l : List Value} {t : TypeId} {fz : Nat × Nat} (h : w.heap[b]? = some (.cells l.toArray t fz)) (i : Nat) : w.cell? ⟨b, i, none⟩ = l[i]? := by
  simp [World.cell?, h]

theorem run_loadCells {P : Program} {w : World} {b : Nat} {l : List Value} {t : TypeId} {fz : Nat × Nat} (h : w.heap[b]? = some (.cells l.toArray t fz)) (o : Nat) : ∀ (n i : Nat) (acc : Array Value), o + i + n ≤ l.length →
    (loadCellsFrom ⟨b, o, none⟩ i n acc).run P w = .ok (acc ++ ((l.drop (o + i)).take n).toArray) w
  | 0, i, acc, _ => by simp [loadCellsFrom]
  | n + 1, i, acc, hle => by
    have hc : w.cell? ((⟨b, o, none⟩ : Addr).add i) = l[o + i]? := by
      by_cases hi : i = 0
      · subst hi; simp [Addr.add, cell_of_heap h]
      · simp [Addr.add, hi, cell_of_heap h]
    have hs : l[o + i]? = some (l[o + i]'(by omega)) := List.getElem?_eq_getElem (by omega)
    simp only [loadCellsFrom, Sem.run_bind, load, Sem.run, hc, hs, Result.andThen_ok]
    rw [run_loadCells h o n (i + 1) _ (by omega)]
    congr 1
    rw [List.drop_eq_getElem_cons (by omega : o + i < l.length)]
    simp [Nat.add_assoc]

theorem cell_bound {w : World} {a : Addr} {v : Value} (h : w.cell? a = some v) : a.block < w.heap.size := by
  unfold World.cell? at h
  split at h
  · rename_i hb; exact (Array.getElem?_eq_some_iff.1 hb).1
  · cases h

/-! ### what operations yield -/
section
variable {c : Cx} {S : Slots} {L L' : List (Nat × Blk)} {ty : TypeId}

theorem V_move {x : Operand} {v : Value} (h : ev S x = some v) : Val c S L (.move x) ty v := fun a w st => by
  have := st.sl.ev h; simp [ex, execOp, this]
theorem V_assign {x : Operand} {v : Value} (h : ev S x = some v) : Val c S L (.assign x) ty v := fun a w st => by
  have := st.sl.ev h; simp [ex, execOp, this]
theorem V_pick_t {t x y : Operand} {b : Bool} {v : Value} (ht : ev S t = some (.bool b)) (hb : b = true) (h : ev S x = some v) : Val c S L (.pick t x y) ty v := fun a w st => by
  have h1 := st.sl.ev ht; have h2 := st.sl.ev h; subst hb; simp [ex, execOp, h1, h2, asBool]
theorem V_pick_f {t x y : Operand} {b : Bool} {v : Value} (ht : ev S t = some (.bool b)) (hb : b = false) (h : ev S y = some v) : Val c S L (.pick t x y) ty v := fun a w st => by
  have h1 := st.sl.ev ht; have h2 := st.sl.ev h; subst hb; simp [ex, execOp, h1, h2, asBool]
theorem V_nil {x : Operand} {p : Addr} (h : ev S x = some (.pointer (some p))) : Val c S L (.nilCheck x) ty (.pointer (some p)) := fun a w st => by
  have := st.sl.ev h; simp [ex, execOp, this]
theorem V_nilFn {x : Operand} {f : FuncId} {u v : Array Value} (h : ev S x = some (.func (.func f) u v)) : Val c S L (.nilCheck x) ty (.func (.func f) u v) := fun a w st => by
  have := st.sl.ev h; simp [ex, execOp, this]
theorem V_extract {x : Operand} {vs : Array Value} {i : Nat} {v : Value} (h : ev S x = some (.tuple vs)) (hi : vs[i]? = some v) : Val c S L (.extract x i) ty v := fun a w st => by
  have := st.sl.ev h; simp [ex, execOp, this, Instr.extract, hi]

section
variable {T T' : TypeId} {x y : Operand} {k : IntKind} {p q : Int}
theorem V_bin {op : BinOp} {v : Value} (hx : ev S x = some (.int k p)) (hy : ev S y = some (.int k q)) (h : ∀ w, (binOp op T (.int k p) (.int k q)).run c.P w = .ok v w) : Val c S L (.binOp op T x y T') ty v := fun a w st => by
  have h1 := st.sl.ev hx; have h2 := st.sl.ev hy
  have hg : ∀ w, (eqGuard op T x y (.int k p) (.int k q)).run c.P w = .ok () w := fun w => by
    unfold eqGuard
    cases op <;> simp [pure]
  simp [ex, execOp, h1, h2, hg, h]
theorem V_add (hx : ev S x = some (.int k p)) (hy : ev S y = some (.int k q)) : Val c S L (.binOp .add T x y T') ty (.int k (k.wrap (p + q))) := V_bin hx hy fun w => by simp [binOp, Op.intArith]
theorem V_sub (hx : ev S x = some (.int k p)) (hy : ev S y = some (.int k q)) : Val c S L (.binOp .sub T x y T') ty (.int k (k.wrap (p - q))) := V_bin hx hy fun w => by simp [binOp, Op.intArith]
theorem V_mul (hx : ev S x = some (.int k p)) (hy : ev S y = some (.int k q)) : Val c S L (.binOp .mul T x y T') ty (.int k (k.wrap (p * q))) := V_bin hx hy fun w => by simp [binOp, Op.intArith]
theorem V_addN (hx : ev S x = some (.int .i64 p)) (hy : ev S y = some (.int .i64 q)) (h : -9223372036854775808 ≤ p + q ∧ p + q ≤ 9223372036854775807) : Val c S L (.binOp .add T x y T') ty (.int .i64 (p + q)) := by
  have := V_add (c := c) (L := L) (T := T) (T' := T') (ty := ty) hx hy
  rwa [show IntKind.i64.wrap (p + q) = p + q from IntWalk.i64_in _ h] at this
theorem V_subN (hx : ev S x = some (.int .i64 p)) (hy : ev S y = some (.int .i64 q)) (h : -9223372036854775808 ≤ p - q ∧ p - q ≤ 9223372036854775807) : Val c S L (.binOp .sub T x y T') ty (.int .i64 (p - q)) := by
  have := V_sub (c := c) (L := L) (T := T) (T' := T') (ty := ty) hx hy
  rwa [show IntKind.i64.wrap (p - q) = p - q from IntWalk.i64_in _ h] at this
theorem V_mulN (hx : ev S x = some (.int .i64 p)) (hy : ev S y = some (.int .i64 q)) (h : -9223372036854775808 ≤ p * q ∧ p * q ≤ 9223372036854775807) : Val c S L (.binOp .mul T x y T') ty (.int .i64 (p * q)) := by
  have := V_mul (c := c) (L := L) (T := T) (T' := T') (ty := ty) hx hy
  rwa [show IntKind.i64.wrap (p * q) = p * q from IntWalk.i64_in _ h] at this
theorem V_lss (hx : ev S x = some (.int k p)) (hy : ev S y = some (.int k q)) : Val c S L (.binOp .lss T x y T') ty (.bool (decide (p < q))) := V_bin hx hy fun w => by simp [binOp, Op.intCmp]
theorem V_leq (hx : ev S x = some (.int k p)) (hy : ev S y = some (.int k q)) : Val c S L (.binOp .leq T x y T') ty (.bool (decide (p ≤ q))) := V_bin hx hy fun w => by simp [binOp, Op.intCmp]
theorem V_gtr (hx : ev S x = some (.int k p)) (hy : ev S y = some (.int k q)) : Val c S L (.binOp .gtr T x y T') ty (.bool (decide (p > q))) := V_bin hx hy fun w => by simp [binOp, Op.intCmp]
theorem V_geq (hx : ev S x = some (.int k p)) (hy : ev S y = some (.int k q)) : Val c S L (.binOp .geq T x y T') ty (.bool (decide (p ≥ q))) := V_bin hx hy fun w => by simp [binOp, Op.intCmp]
theorem V_eql (hx : ev S x = some (.int k p)) (hy : ev S y = some (.int k q)) : Val c S L (.binOp .eql T x y T') ty (.bool (decide (p = q))) := V_bin hx hy fun w => by
  rw [show decide (p = q) = (p == q) from by rw [Bool.eq_iff_iff]; simp]; simp only [binOp]; simp [Op.intCmp]
theorem V_neq (hx : ev S x = some (.int k p)) (hy : ev S y = some (.int k q)) : Val c S L (.binOp .neq T x y T') ty (.bool (decide (p ≠ q))) := V_bin hx hy fun w => by
  rw [show decide (p ≠ q) = (p != q) from by rw [Bool.eq_iff_iff]; simp]; simp only [binOp]; simp [Op.intCmp]
theorem V_quo (hx : ev S x = some (.int k p)) (hy : ev S y = some (.int k q)) (h0 : q ≠ 0) : Val c S L (.binOp .quo T x y T') ty (.int k (k.wrap (p.tdiv q))) := V_bin hx hy fun w => by simp [binOp, Op.intDiv, h0]
theorem V_quoN (hx : ev S x = some (.int .i64 p)) (hy : ev S y = some (.int .i64 q)) (h0 : 0 ≤ p) (h1 : 1 ≤ q) (h2 : p ≤ 9223372036854775807) : Val c S L (.binOp .quo T x y T') ty (.int .i64 (p / q)) := by
  have := V_quo (c := c) (L := L) (T := T) (T' := T') (ty := ty) hx hy (by omega)
  rw [Int.tdiv_eq_ediv_of_nonneg h0] at this
  have b : 0 ≤ p / q := Int.ediv_nonneg h0 (by omega)
  have b2 : p / q ≤ p := Int.ediv_le_self _ h0
  rwa [show IntKind.i64.wrap (p / q) = p / q from IntWalk.i64_in _ ⟨by omega, by omega⟩] at this
theorem V_rem (hx : ev S x = some (.int k p)) (hy : ev S y = some (.int k q)) (h0 : q ≠ 0) : Val c S L (.binOp .rem T x y T') ty (.int k (p.tmod q)) := V_bin hx hy fun w => by simp [binOp, Op.intDiv, h0]
theorem V_remN (hx : ev S x = some (.int k p)) (hy : ev S y = some (.int k q)) (h0 : 0 ≤ p) (h1 : 1 ≤ q) : Val c S L (.binOp .rem T x y T') ty (.int k (p % q)) := by
  have := V_rem (c := c) (L := L) (T := T) (T' := T') (ty := ty) hx hy (by omega)
  rwa [Int.tmod_eq_emod_of_nonneg h0] at this
theorem V_conv {k' : IntKind} (hx : ev S x = some (.int k p)) (ht : inB' c.P T' k' = true) (hs : (c.P.underlying T).isSome = true) : Val c S L (.convert T T' x) ty (.int k' (k'.wrap p)) := fun a w st => by
  have h1 := st.sl.ev hx
  unfold inB' at ht
  split at ht <;> try (cases ht; done)
  rename_i k2 hu
  simp only [beq_iff_eq] at ht
  subst ht
  obtain ⟨d, hd⟩ := Option.isSome_iff_exists.1 hs
  simp [ex, execOp, h1, convert, run_underlying hd, run_underlying hu, Conv.intToInt]
end

theorem V_not {x : Operand} {b : Bool} {T : TypeId} (hx : ev S x = some (.bool b)) : Val c S L (.unOp .not T x) ty (.bool (!b)) := fun a w st => by
  have h1 := st.sl.ev hx; simp [ex, execOp, h1, Op.unary]

theorem V_binG {x y : Operand} {T T' : TypeId} {op : BinOp} {p q v : Value} (hx : ev S x = some p) (hy : ev S y = some q) (hg : ∀ w, (eqGuard op T x y p q).run c.P w = .ok () w) (h : ∀ w, (binOp op T p q).run c.P w = .ok v w) :
    Val c S L (.binOp op T x y T') ty v := fun a w st => by
  have h1 := st.sl.ev hx; have h2 := st.sl.ev hy
  simp only [ex, execOp, h1, h2]
  simp [hg, h]

theorem eqIn_bool {P : Program} {w : World} {T : TypeId} (ht : boB P T = true) (d : Nat) (p q : Bool) : (Op.equalIn (d + 1) T (.bool p) (.bool q)).run P w = .ok (p == q) w := by
  unfold boB at ht
  split at ht <;> try (cases ht; done)
  rename_i hu
  simp [Op.equalIn, run_underlying hu]
theorem eqIn_ptr {P : Program} {w : World} {T : TypeId} (ht : ptB P T = true) (d : Nat) (p : Option Addr) : (Op.equalIn (d + 1) T (.pointer p) (.pointer none)).run P w = .ok p.isNone w := by
  unfold ptB at ht
  split at ht <;> try (cases ht; done)
  rename_i hu
  cases p <;> simp [Op.equalIn, run_underlying hu]
theorem run_equal {P : Program} {w w' : World} {T : TypeId} {x y : Value} {b : Bool} (h : ∀ d, (Op.equalIn (d + 1) T x y).run P w = .ok b w') : (Op.equal T x y).run P w = .ok b w' := h 9999

theorem V_eqlB {x y : Operand} {T T' : TypeId} {p q : Bool} (ht : boB c.P T = true) (hx : ev S x = some (.bool p)) (hy : ev S y = some (.bool q)) : Val c S L (.binOp .eql T x y T') ty (.bool (p == q)) :=
  V_binG hx hy (fun w => rfl) fun w => by simp only [binOp]; simp [run_equal fun d => eqIn_bool ht d p q]
theorem V_neqB {x y : Operand} {T T' : TypeId} {p q : Bool} (ht : boB c.P T = true) (hx : ev S x = some (.bool p)) (hy : ev S y = some (.bool q)) : Val c S L (.binOp .neq T x y T') ty (.bool (!(p == q))) :=
  V_binG hx hy (fun w => rfl) fun w => by simp only [binOp]; simp [run_equal fun d => eqIn_bool ht d p q]
theorem V_eqlP {x y : Operand} {T T' : TypeId} {p : Option Addr} (ht : ptB c.P T = true) (hx : ev S x = some (.pointer p)) (hy : ev S y = some (.pointer none)) : Val c S L (.binOp .eql T x y T') ty (.bool p.isNone) :=
  V_binG hx hy (fun w => rfl) fun w => by simp only [binOp]; simp [run_equal fun d => eqIn_ptr ht d p]
theorem V_neqP {x y : Operand} {T T' : TypeId} {p : Option Addr} (ht : ptB c.P T = true) (hx : ev S x = some (.pointer p)) (hy : ev S y = some (.pointer none)) : Val c S L (.binOp .neq T x y T') ty (.bool (!p.isNone)) :=
  V_binG hx hy (fun w => rfl) fun w => by simp only [binOp]; simp [run_equal fun d => eqIn_ptr ht d p]

/-! ### addresses -/
theorem add_none (b o n : Nat) : (⟨b, o, none⟩ : Addr).add n = ⟨b, o + n, none⟩ := by
  unfold Addr.add; split <;> simp_all

theorem V_fieldAddr {x : Operand} {T : TypeId} {f b o : Nat} (k n : Nat) (hf : fldB c.P T f k n = true) (hx : ev S x = some (.pointer (some ⟨b, o, none⟩))) : Val c S L (.fieldAddr T x f) ty (.pointer (some ⟨b, o + k, none⟩)) := fun a w st => by
  have h1 := st.sl.ev hx
  unfold fldB at hf
  split at hf <;> try (cases hf; done)
  rename_i fs hu
  split at hf <;> try (cases hf; done)
  rename_i fx hfx
  simp only [Bool.and_eq_true, beq_iff_eq, bne_iff_ne] at hf
  obtain ⟨⟨rfl, hs⟩, hn⟩ := hf
  simp [ex, execOp, h1, Instr.fieldAt, run_underlying hu, hfx, Instr.sureAddr, fieldPlace, run_sizeOf_sz hs, hn, add_none]

theorem V_indexAddrA {x i : Operand} {T : TypeId} {b o : Nat} (n s : Nat) {k : IntKind} {j : Int} (ht : arB c.P T n s = true) (hx : ev S x = some (.pointer (some ⟨b, o, none⟩))) (hi : ev S i = some (.int k j)) (h0 : 0 ≤ j) (h1 : j < n) :
    Val c S L (.indexAddr T x i) ty (.pointer (some ⟨b, o + j.toNat * s, none⟩)) := fun a w st => by
  have e1 := st.sl.ev hx; have e2 := st.sl.ev hi
  unfold arB at ht
  split at ht <;> try (cases ht; done)
  rename_i m e' hu
  simp only [Bool.and_eq_true, beq_iff_eq] at ht
  obtain ⟨rfl, hs⟩ := ht
  simp [ex, execOp, e1, e2, Instr.indexAt, asIntOf, run_underlying hu, Instr.sureAddr, h0, h1, run_sizeOf_sz hs, add_none]

theorem V_indexAddrS {x i : Operand} {T : TypeId} {b o len cap : Nat} (s : Nat) {k : IntKind} {j : Int} (ht : slB c.P T s = true) (hx : ev S x = some (.slice (some ⟨b, o, none⟩) len cap)) (hi : ev S i = some (.int k j)) (h0 : 0 ≤ j) (h1 : j < len) :
    Val c S L (.indexAddr T x i) ty (.pointer (some ⟨b, o + j.toNat * s, none⟩)) := fun a w st => by
  have e1 := st.sl.ev hx; have e2 := st.sl.ev hi
  unfold slB at ht
  split at ht <;> try (cases ht; done)
  rename_i e' hu
  simp [ex, execOp, e1, e2, Instr.indexAt, asIntOf, run_underlying hu, h0, h1, run_sizeOf_sz ht, add_none]

/-! ### loads and stores -/
theorem V_load1 {x : Operand} {T : TypeId} {b o : Nat} {cs : List Seg} {v : Value} (ht : scB c.P T = true) (hx : ev S x = some (.pointer (some ⟨b, o, none⟩))) (hA : At c L b cs) (hv : (flat cs)[o]? = some v) : Val c S L (.load T x) ty v := fun a w st => by
  have e1 := st.sl.ev hx
  obtain ⟨_, t, fz, hb⟩ := hA.here st
  have hc : w.cell? ⟨b, o, none⟩ = some v := (cell_of_heap hb o).trans hv
  simp [ex, execOp, e1, Instr.loadAt, Instr.sureAddr, loadVar, run_isAgg_sc ht, load, Sem.run, hc]

/-- The same, by the content's own look-up. -/
theorem V_load {x : Operand} {T : TypeId} {b o : Nat} {cs : List Seg} {v : Value} (ht : scB c.P T = true) (hx : ev S x = some (.pointer (some ⟨b, o, none⟩))) (hA : At c L b cs) (hv : cell1 cs o = some v) : Val c S L (.load T x) ty v := fun a w st =>
  V_load1 ht hx hA (cell1_flat (hA.here st).1 hv) a w st

theorem V_loadA {x : Operand} {T : TypeId} {b o : Nat} {cs ds : List Seg} (n : Nat) (ht : agB c.P T n = true) (hx : ev S x = some (.pointer (some ⟨b, o, none⟩))) (hA : At c L b cs) (hv : subS cs o n = some ds) : Val c S L (.load T x) ty (AG ds) := fun a w st => by
  have e1 := st.sl.ev hx
  obtain ⟨hf, t, fz, hb⟩ := hA.here st
  obtain ⟨e, _, hl⟩ := subS_flat hf hv
  have hL := run_loadCells (P := c.P) hb o n 0 #[] (by omega)
  simp [ex, execOp, e1, Instr.loadAt, Instr.sureAddr, loadVar, run_isAgg_ag ht, run_sizeOf_sz (sz_of_ag ht), loadCells, hL, AG, e]

theorem setCell_heap (w : World) (b o : Nat) (v : Value) (k : Nat) : (w.setCell ⟨b, o, none⟩ v).heap[k]? = (w.heap[k]?).map fun x => if k = b then (match x with
      | .cells c elem fz => .cells (c.setIfInBounds o v) elem fz
      | y => y) else x := by
  simp only [World.setCell, Array.getElem?_modify]
  by_cases h : b = k
  · subst h
    simp only [if_true]
    cases w.heap[b]? with
    | none => rfl
    | some x => cases x <;> rfl
  · rw [if_neg h]
    cases w.heap[k]? with
    | none => rfl
    | some x => simp [Ne.symm h]

theorem run_storeCells {P : Program} {b : Nat} {t : TypeId} (o : Nat) : ∀ (vs : List Value) (i : Nat) (l : List Value) (w : World), w.heap[b]? = some (.cells l.toArray t (0, 0)) → (∀ v ∈ vs, one v = true) → o + i + vs.length ≤ l.length →
    ∃ w', (storeCells ⟨b, o, none⟩ vs i).run P w = .ok () w' ∧ w'.os = w.os ∧ w'.tape = w.tape ∧ w'.output = w.output ∧ w'.heap.size = w.heap.size ∧ (∀ k, k ≠ b → w'.heap[k]? = w.heap[k]?) ∧
      w'.heap[b]? = some (.cells (l.take (o + i) ++ vs ++ l.drop (o + i + vs.length)).toArray t (0, 0))
  | [], i, l, w, hb, _, _ => by
    refine ⟨w, by simp [storeCells], rfl, rfl, rfl, rfl, fun _ _ => rfl, ?_⟩
    rw [hb]; simp
  | v :: vs, i, l, w, hb, h1, hle => by
    have hlt : o + i < l.length := by simp at hle; omega
    have hc : w.cell? ⟨b, o + i, none⟩ = some (l[o + i]) := by rw [cell_of_heap hb]; exact List.getElem?_eq_getElem hlt
    have hz : w.frozen? ⟨b, o + i, none⟩ = false := by simp [World.frozen?, hb]
    have hone := h1 v List.mem_cons_self
    have hst : (store ((⟨b, o, none⟩ : Addr).add i) v).run P w = .ok () (w.setCell ⟨b, o + i, none⟩ v) := by
      rw [add_none]
      unfold store
      cases v <;> first | (cases hone; done) | (simp only [Sem.run, hc, hz]; rfl)
    have hb' : (w.setCell ⟨b, o + i, none⟩ v).heap[b]? = some (.cells (l.set (o + i) v).toArray t (0, 0)) := by
      rw [setCell_heap, hb]; simp
    obtain ⟨w', e, p1, p2, p3, p4, p5, p6⟩ := run_storeCells o vs (i + 1) (l.set (o + i) v) (w.setCell ⟨b, o + i, none⟩ v) hb' (fun u hu => h1 u (List.mem_cons_of_mem _ hu)) (by simp at hle ⊢; omega)
    refine ⟨w', ?_, p1.trans rfl, p2.trans rfl, p3.trans rfl, ?_, fun k hk => ?_, ?_⟩
    · simp only [storeCells, Sem.run_bind, hst, Result.andThen_ok]; exact e
    · exact p4.trans Array.size_modify
    · rw [p5 k hk, setCell_heap]
      simp only [hk, if_false]
      cases w.heap[k]? <;> rfl
    · rw [p6]
      have e1 : (l.set (o + i) v).take (o + (i + 1)) = l.take (o + i) ++ [v] := by
        rw [List.take_set, ← Nat.add_assoc, List.take_succ_eq_append_getElem hlt, List.set_append, if_neg (by simp [Nat.min_eq_left (Nat.le_of_lt hlt)])]
        simp [Nat.min_eq_left (Nat.le_of_lt hlt)]
      have e2 : (l.set (o + i) v).drop (o + (i + 1) + vs.length) = l.drop (o + i + (v :: vs).length) := by
        rw [List.drop_set, if_pos (by omega), List.length_cons]
        congr 1; omega
      rw [e1, e2]; simp

theorem E_store {x y : Operand} {T : TypeId} {b o : Nat} {cs cs' : List Seg} {t : TypeId} {v : Value} (ht : szB c.P T 1 = true) (hx : ev S x = some (.pointer (some ⟨b, o, none⟩))) (hy : ev S y = some v) (h1 : one v = true)
    (hu : Upd b (.cells cs' t) L (.cells cs t) L') (hs : set1 cs o v = some cs') : Eff c S L (.store T x y) ty (fun u M => u = undef ∧ M = L') := fun a w st => by
  have e1 := st.sl.ev hx; have e2 := st.sl.ev hy
  obtain ⟨hf, hb⟩ := st.hp.held _ hu.mem
  obtain ⟨f1, f2, f3⟩ := set1_flat hf hs
  obtain ⟨w', e, p1, p2, p3, p4, p5, p6⟩ := run_storeCells (P := c.P) o [v] 0 (flat cs) w hb (by simpa using h1) (by simp; omega)
  refine ⟨undef, w', L', .inr ⟨?_, rfl⟩, st.hp.upd hu p1 p2 p3 p4 p5 ⟨f2, ?_⟩, rfl, rfl⟩
  · have hcells : v.cells = #[v] := by cases v <;> first | rfl | (simp [one] at h1; done)
    simp only [ex, execOp, e1, e2, Instr.storeAt, Instr.sureAddr, storeVar, hcells]
    simp [run_sizeOf_sz ht, e]
  · rw [p6, f1]
    congr 2
    rw [List.set_eq_take_append_cons_drop, if_pos f3]
    simp

theorem E_storeA {x y : Operand} {T : TypeId} {b o : Nat} {cs cs' ds : List Seg} {t : TypeId} (n : Nat) (ht : szB c.P T n = true) (hx : ev S x = some (.pointer (some ⟨b, o, none⟩))) (hy : ev S y = some (AG ds)) (hn : (flat ds).length = n) (hd : Fit ds)
    (h1 : ∀ v ∈ flat ds, one v = true) (hu : Upd b (.cells cs' t) L (.cells cs t) L') (hs : putAt cs o n ds = some cs') : Eff c S L (.store T x y) ty (fun u M => u = undef ∧ M = L') := fun a w st => by
  have e1 := st.sl.ev hx; have e2 := st.sl.ev hy
  obtain ⟨hf, hb⟩ := st.hp.held _ hu.mem
  obtain ⟨f1, f2, f3⟩ := putAt_flat hf hd hs
  obtain ⟨w', e, p1, p2, p3, p4, p5, p6⟩ := run_storeCells (P := c.P) o (flat ds) 0 (flat cs) w hb h1 (by omega)
  refine ⟨undef, w', L', .inr ⟨?_, rfl⟩, st.hp.upd hu p1 p2 p3 p4 p5 ⟨f2, ?_⟩, rfl, rfl⟩
  · simp only [ex, execOp, e1, e2, Instr.storeAt, Instr.sureAddr, storeVar, AG, Value.cells]
    simp [run_sizeOf_sz ht, e, hn]
  · rw [p6, f1, hn]
    simp

end
end Go.X
