/- '==' between structs and arrays of integers and bools: cell by cell. -/
import Derived.Test.YtbalnjejamigaaaXStep
import Derived.ChangeKeysEq
set_option linter.unusedVariables false
set_option linter.unusedSimpArgs false
namespace Go.X
open Go.RowKit

/-- A cell's kind. -/
def kd : Value → Nat
  | .bool _ => 1
  | .int .i8 _ => 2
  | .int .i16 _ => 3
  | .int .i32 _ => 4
  | .int .i64 _ => 5
  | .int .u8 _ => 6
  | .int .u16 _ => 7
  | .int .u32 _ => 8
  | .int .u64 _ => 9
  | _ => 0
def kdOf (k : IntKind) : Nat := kd (.int k 0)

theorem kd_bool {v : Value} (h : kd v = 1) : ∃ b, v = .bool b := by
  cases v with
  | bool b => exact ⟨b, rfl⟩
  | int k n => cases k <;> simp [kd] at h
  | _ => simp [kd] at h
theorem kd_int {v : Value} {k : IntKind} (h : kd v = kdOf k) : ∃ n, v = .int k n := by
  cases v with
  | int k' n => cases k <;> cases k' <;> first | exact ⟨n, rfl⟩ | (simp [kd, kdOf] at h; done)
  | _ => cases k <;> simp [kd, kdOf] at h

def cEq : Value → Value → Bool
  | .bool a, .bool b => a == b
  | .int _ a, .int _ b => a == b
  | _, _ => false
def lEq : List Value → List Value → Bool
  | [], [] => true
  | x :: xs, y :: ys => cEq x y && lEq xs ys
  | _, _ => false

theorem lEq_append : ∀ {a c b d : List Value}, a.length = c.length → lEq (a ++ b) (c ++ d) = (lEq a c && lEq b d)
  | [], [], b, d, _ => by simp [lEq]
  | x :: a, y :: c, b, d, h => by
    simp only [List.cons_append, lEq]
    rw [lEq_append (by simpa using h), Bool.and_assoc]
  | [], _ :: _, _, _, h => by simp at h
  | _ :: _, [], _, _, h => by simp at h

def fieldsW (P : Program) (sh : TypeId → Option (List Nat)) : List Field → Nat → Option (List Nat)
  | [], _ => some []
  | f :: r, o => if f.name = "_" ∨ f.offset ≠ o then none else
    match sh f.type with
    | some s => if P.cellsOf f.type = s.length then (fieldsW P sh r (o + s.length)).map (s ++ ·) else none
    | none => none

/-- The kinds of a type's cells: integers and bools alone, no field blank, all in their order. -/
def shape (P : Program) : Nat → TypeId → Option (List Nat)
  | 0, _ => none
  | d + 1, t => match P.underlying t with
    | some .bool => if P.cellsOf t = 1 then some [1] else none
    | some (.int k) => if P.cellsOf t = 1 then some [kdOf k] else none
    | some (.array n e) => match shape P d e with
      | some s => if P.cellsOf e = s.length ∧ P.cellsOf t = n * s.length then some (List.replicate n s).flatten else none
      | none => none
    | some (.struct fs) => if P.stoodInHeld t then none else
      match fieldsW P (shape P d) fs.toList 0 with
      | some s => if P.cellsOf t = s.length then some s else none
      | none => none
    | _ => none

def aggT (P : Program) (t : TypeId) : Bool := match P.underlying t with
  | some (.struct _) | some (.array _ _) => true
  | _ => false
/-- The value of type t whose cells these are. -/
def tv (P : Program) (t : TypeId) (l : List Value) : Value := if aggT P t then .agg l.toArray else l.headD undef

def EqS (P : Program) (m : Nat) (t : TypeId) (sh : List Nat) : Prop :=
  P.cellsOf t = sh.length ∧ (P.underlying t).isSome = true ∧ (aggT P t = false → sh.length = 1) ∧ ∀ d w (xs ys : List Value), xs.map kd = sh → ys.map kd = sh → (Op.equalIn (d + m) t (tv P t xs) (tv P t ys)).run P w = .ok (lEq xs ys) w

theorem run_part_tv {P : Program} {w : World} {t : TypeId} {l : List Value} {o n : Nat} (hu : (P.underlying t).isSome = true) (hc : P.cellsOf t = n) (ha : aggT P t = false → n = 1) (hle : o + n ≤ l.length) : (part t l.toArray o).run P w = .ok (tv P t ((l.drop o).take n)) w := by
  obtain ⟨d, hd⟩ := Option.isSome_iff_exists.1 hu
  obtain ⟨i, hi⟩ := info_of_underlying hd
  have agg : (isAgg t).run P w = .ok (aggT P t) w := by
    unfold isAgg aggT
    simp only [Sem.run_bind, run_underlying hd, Result.andThen_ok, hd]
    cases d <;> rfl
  unfold part tv
  simp only [Sem.run_bind, agg, Result.andThen_ok]
  cases hA : aggT P t with
  | true =>
    simp only [if_true, Sem.run_bind, run_sizeOf w hi, hc, Result.andThen_ok]
    simp [List.extract_toArray, List.extract_eq_take_drop] <;> rfl
  | false =>
    have := ha hA
    subst this
    have hlt : o < l.length := by omega
    simp only [Bool.false_eq_true, if_false, List.getElem?_toArray, List.getElem?_eq_getElem hlt]
    rw [List.drop_eq_getElem_cons hlt]
    rfl

theorem map_one {α β : Type} {f : α → β} {l : List α} {b : β} (h : l.map f = [b]) : ∃ x, l = [x] ∧ f x = b := by
  match l, h with
  | [x], h => exact ⟨x, rfl, by simpa using h⟩

theorem map_take_drop (l : List Value) (o n : Nat) : ((l.drop o).take n).map kd = ((l.map kd).drop o).take n := by rw [List.map_take, List.map_drop]

theorem eq_shape (P : Program) : ∀ (m : Nat) (t : TypeId) (sh : List Nat), shape P m t = some sh → EqS P m t sh
  | 0, t, sh, h => by simp [shape] at h
  | m + 1, t, sh, h => by
    unfold shape at h
    split at h
    · -- bool
      rename_i hu
      split at h
      · rename_i hc
        cases h
        have ha : aggT P t = false := by simp [aggT, hu]
        refine ⟨hc, by rw [hu]; rfl, fun _ => rfl, fun d w xs ys hx hy => ?_⟩
        obtain ⟨x, rfl, hx1⟩ := map_one hx
        obtain ⟨y, rfl, hy1⟩ := map_one hy
        obtain ⟨a, rfl⟩ := kd_bool hx1
        obtain ⟨b, rfl⟩ := kd_bool hy1
        rw [← Nat.add_assoc]
        simp [tv, ha, lEq, cEq, Op.equalIn, run_underlying hu]
      · cases h
    · rename_i k hu
      split at h
      · rename_i hc
        cases h
        have ha : aggT P t = false := by simp [aggT, hu]
        refine ⟨hc, by rw [hu]; rfl, fun _ => rfl, fun d w xs ys hx hy => ?_⟩
        obtain ⟨x, rfl, hx1⟩ := map_one hx
        obtain ⟨y, rfl, hy1⟩ := map_one hy
        obtain ⟨a, rfl⟩ := kd_int hx1
        obtain ⟨b, rfl⟩ := kd_int hy1
        rw [← Nat.add_assoc]
        simp [tv, ha, lEq, cEq, Op.equalIn, run_underlying hu]
      · cases h
    · rename_i n e hu
      split at h
      · rename_i s hs
        split at h
        · rename_i hc
          cases h
          obtain ⟨i1, i2, i3, i4⟩ := eq_shape P m e s hs
          have ha : aggT P t = true := by simp [aggT, hu]
          obtain ⟨de, hde⟩ := Option.isSome_iff_exists.1 i2
          obtain ⟨ie, hie⟩ := info_of_underlying hde
          refine ⟨by rw [hc.2]; simp, by rw [hu]; rfl, (fun h => by rw [ha] at h; cases h), fun d w xs ys hx hy => ?_⟩
          simp only [tv, ha, if_true]
          rw [← Nat.add_assoc, run_equalIn_array w (d + m) xs.toArray ys.toArray hu hie, i1]
          have key : ∀ (k j : Nat) (xs ys : List Value), (xs.drop (j * s.length)).map kd = (List.replicate k s).flatten → (ys.drop (j * s.length)).map kd = (List.replicate k s).flatten →
              j * s.length ≤ xs.length → j * s.length ≤ ys.length →
              (Op.eqItems (d + m) e s.length xs.toArray ys.toArray (List.range' j k)).run P w = .ok (lEq (xs.drop (j * s.length)) (ys.drop (j * s.length))) w := by
            intro k
            induction k with
            | zero =>
              intro j xs ys h1 h2 _ _
              have e1 : xs.drop (j * s.length) = [] := by simpa using h1
              have e2 : ys.drop (j * s.length) = [] := by simpa using h2
              rw [e1, e2]
              simp [Op.eqItems, lEq]
            | succ k ih =>
              intro j xs ys h1 h2 l1 l2
              have n1 := congrArg List.length h1
              have n2 := congrArg List.length h2
              have nr : ((List.replicate (k + 1) s).flatten).length = (k + 1) * s.length := by simp
              rw [nr, List.length_map, List.length_drop] at n1 n2
              have hm : (k + 1) * s.length = k * s.length + s.length := by rw [Nat.add_mul, Nat.one_mul]
              have hm2 : (j + 1) * s.length = j * s.length + s.length := by rw [Nat.add_mul, Nat.one_mul]
              have t1 : ((xs.drop (j * s.length)).take s.length).map kd = s := by rw [List.map_take, h1]; simp [List.replicate_succ]
              have t2 : ((ys.drop (j * s.length)).take s.length).map kd = s := by rw [List.map_take, h2]; simp [List.replicate_succ]
              have r1 : (xs.drop ((j + 1) * s.length)).map kd = (List.replicate k s).flatten := by
                rw [hm2, ← List.drop_drop, List.map_drop, h1]; simp [List.replicate_succ]
              have r2 : (ys.drop ((j + 1) * s.length)).map kd = (List.replicate k s).flatten := by
                rw [hm2, ← List.drop_drop, List.map_drop, h2]; simp [List.replicate_succ]
              have sp1 : xs.drop (j * s.length) = (xs.drop (j * s.length)).take s.length ++ xs.drop ((j + 1) * s.length) := by
                rw [hm2, ← List.drop_drop, List.take_append_drop]
              have sp2 : ys.drop (j * s.length) = (ys.drop (j * s.length)).take s.length ++ ys.drop ((j + 1) * s.length) := by
                rw [hm2, ← List.drop_drop, List.take_append_drop]
              simp only [List.range'_succ, Op.eqItems, Sem.run_bind]
              rw [run_part_tv i2 i1 i3 (by omega)]
              simp only [Result.andThen_ok]
              rw [run_part_tv i2 i1 i3 (by omega)]
              simp only [Result.andThen_ok]
              rw [i4 d w _ _ t1 t2]
              simp only [Result.andThen_ok]
              have sp := lEq_append (a := (xs.drop (j * s.length)).take s.length) (c := (ys.drop (j * s.length)).take s.length) (b := xs.drop ((j + 1) * s.length)) (d := ys.drop ((j + 1) * s.length)) (by simp; omega)
              rw [← sp1, ← sp2] at sp
              rw [sp]
              cases hq : lEq ((xs.drop (j * s.length)).take s.length) ((ys.drop (j * s.length)).take s.length) with
              | false => simp
              | true =>
                simp only [Bool.not_true, Bool.false_eq_true, if_false, Bool.true_and]
                exact ih (j + 1) xs ys r1 r2 (by omega) (by omega)
          rw [List.range_eq_range']
          have := key n 0 xs ys (by simpa using hx) (by simpa using hy) (by simp) (by simp)
          simpa using this
        · cases h
      · cases h
    · rename_i fs hu
      split at h
      · cases h
      · rename_i hst
        split at h
        · rename_i s hs
          split at h
          · rename_i hc
            cases h
            have ha : aggT P t = true := by simp [aggT, hu]
            refine ⟨hc, by rw [hu]; rfl, (fun h => by rw [ha] at h; cases h), fun d w xs ys hx hy => ?_⟩
            have hfs : P.fieldsOf t = fs := by simp [Program.fieldsOf, hu]
            simp only [tv, ha, if_true]
            rw [← Nat.add_assoc, run_equalIn_struct w (d + m) t xs.toArray ys.toArray (by rw [hfs]; exact hu) (by simpa using hst), hfs]
            have key : ∀ (l : List Field) (o : Nat) (s : List Nat) (xs ys : List Value), fieldsW P (shape P m) l o = some s → (xs.drop o).map kd = s → (ys.drop o).map kd = s → o ≤ xs.length → o ≤ ys.length →
                (Op.eqFields (d + m) xs.toArray ys.toArray l).run P w = .ok (lEq (xs.drop o) (ys.drop o)) w := by
              intro l
              induction l with
              | nil =>
                intro o s xs ys hf h1 h2 _ _
                unfold fieldsW at hf
                cases hf
                have e1 : xs.drop o = [] := by simpa using h1
                have e2 : ys.drop o = [] := by simpa using h2
                rw [e1, e2]
                simp [Op.eqFields, lEq]
              | cons f r ih =>
                intro o s xs ys hf h1 h2 l1 l2
                unfold fieldsW at hf
                split at hf
                · cases hf
                · rename_i hno
                  simp only [not_or, ne_eq, Decidable.not_not] at hno
                  obtain ⟨hn, ho⟩ := hno
                  split at hf
                  · rename_i s1 hs1
                    split at hf
                    · rename_i hcf
                      obtain ⟨s2, hs2, rfl⟩ := Option.map_eq_some_iff.1 hf
                      obtain ⟨i1, i2, i3, i4⟩ := eq_shape P m f.type s1 hs1
                      have n1 := congrArg List.length h1
                      have n2 := congrArg List.length h2
                      simp only [List.length_map, List.length_drop, List.length_append] at n1 n2
                      have t1 : ((xs.drop o).take s1.length).map kd = s1 := by rw [List.map_take, h1]; simp
                      have t2 : ((ys.drop o).take s1.length).map kd = s1 := by rw [List.map_take, h2]; simp
                      have r1 : (xs.drop (o + s1.length)).map kd = s2 := by rw [← List.drop_drop, List.map_drop, h1]; simp
                      have r2 : (ys.drop (o + s1.length)).map kd = s2 := by rw [← List.drop_drop, List.map_drop, h2]; simp
                      have sp1 : xs.drop o = (xs.drop o).take s1.length ++ xs.drop (o + s1.length) := by rw [← List.drop_drop, List.take_append_drop]
                      have sp2 : ys.drop o = (ys.drop o).take s1.length ++ ys.drop (o + s1.length) := by rw [← List.drop_drop, List.take_append_drop]
                      simp only [Op.eqFields, hn, ne_eq, not_false_eq_true, if_true, Sem.run_bind, ho]
                      rw [run_part_tv i2 i1 i3 (by omega)]
                      simp only [Result.andThen_ok]
                      rw [run_part_tv i2 i1 i3 (by omega)]
                      simp only [Result.andThen_ok]
                      rw [i4 d w _ _ t1 t2]
                      simp only [Result.andThen_ok]
                      have sp := lEq_append (a := (xs.drop o).take s1.length) (c := (ys.drop o).take s1.length) (b := xs.drop (o + s1.length)) (d := ys.drop (o + s1.length)) (by simp; omega)
                      rw [← sp1, ← sp2] at sp
                      rw [sp]
                      cases hq : lEq ((xs.drop o).take s1.length) ((ys.drop o).take s1.length) with
                      | false => simp
                      | true =>
                        simp only [Bool.not_true, Bool.false_eq_true, if_false, Bool.true_and]
                        exact ih (o + s1.length) s2 xs ys hs2 r1 r2 (by omega) (by omega)
                    · cases hf
                  · cases hf
            have := key fs.toList 0 _ xs ys hs (by simpa using hx) (by simpa using hy) (by simp) (by simp)
            simpa using this
          · cases h
        · cases h
    · cases h

section
variable {c : Cx} {S : Slots} {L : List (Nat × Blk)} {ty : TypeId} {x y : Operand} {T T' : TypeId} {as bs : List Seg}

theorem run_eq_agg {P : Program} {w : World} {m : Nat} {sh : List Nat} (hm : Nat.ble m 9000 = true) (hs : shape P m T = some sh) (hag : aggT P T = true) (h1 : (flat as).map kd = sh) (h2 : (flat bs).map kd = sh) : (Op.equal T (AG as) (AG bs)).run P w = .ok (lEq (flat as) (flat bs)) w := by
  obtain ⟨_, _, _, h⟩ := eq_shape P m T sh hs
  have hle := Nat.le_of_ble_eq_true hm
  have := h (Op.maxDepth - m) w _ _ h1 h2
  simp only [tv, hag, if_true] at this
  rw [show Op.maxDepth - m + m = Op.maxDepth from Nat.sub_add_cancel (Nat.le_trans hle (by decide))] at this
  exact this

theorem guard_agg {P : Program} {w : World} {op : BinOp} (hg : P.eqGuardType P.depth T = false) : (eqGuard op T x y (AG as) (AG bs)).run P w = .ok () w := by
  unfold eqGuard AG
  cases op <;> simp [hg]

theorem V_eqlA (m : Nat) (sh : List Nat) (hm : Nat.ble m 9000 = true) (hs : shape c.P m T = some sh) (hag : aggT c.P T = true) (hg : c.P.eqGuardType c.P.depth T = false) (hx : ev S x = some (AG as)) (hy : ev S y = some (AG bs)) (h1 : (flat as).map kd = sh) (h2 : (flat bs).map kd = sh) :
    Val c S L (.binOp .eql T x y T') ty (.bool (lEq (flat as) (flat bs))) :=
  V_binG hx hy (fun _ => guard_agg hg) fun w => by
    have := run_eq_agg (w := w) hm hs hag h1 h2
    simp only [AG] at this ⊢
    simp only [binOp]; simp [this]
theorem V_neqA (m : Nat) (sh : List Nat) (hm : Nat.ble m 9000 = true) (hs : shape c.P m T = some sh) (hag : aggT c.P T = true) (hg : c.P.eqGuardType c.P.depth T = false) (hx : ev S x = some (AG as)) (hy : ev S y = some (AG bs)) (h1 : (flat as).map kd = sh) (h2 : (flat bs).map kd = sh) :
    Val c S L (.binOp .neq T x y T') ty (.bool (!lEq (flat as) (flat bs))) :=
  V_binG hx hy (fun _ => guard_agg hg) fun w => by
    have := run_eq_agg (w := w) hm hs hag h1 h2
    simp only [AG] at this ⊢
    simp only [binOp]; simp [this]
end
end Go.X
