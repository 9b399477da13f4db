/- Strikes: on a disk that lives. -/
import Derived.Test.YtmeckbjinmgbbaaGreatStk4
set_option linter.unusedVariables false
set_option linter.unusedSimpArgs false

namespace Go.Proofs.YtmeckbjinmgbbaaGreat
open Go.X
theorem numH_high23 {x : Int} (h : 0 ≤ x ∧ x ≤ 1000000) : numH (highF x 4) = x := by
  rw [highF_succ, highF_succ, highF_succ, highF_succ, lowB_eq h.1 (by decide), lowB_eq h.1 (by decide), lowB_eq h.1 (by decide), lowB_eq h.1 (by decide)]
  simp only [IntKind.wrap_u8, numH, List.foldl_cons, highF, lowF, List.range_zero, List.map_nil, List.reverse_nil, List.foldl_nil]
  simp only [show (256 : Int) ^ 3 = 16777216 from rfl, show (256 : Int) ^ 2 = 65536 from rfl, show (256 : Int) ^ 1 = 256 from rfl, show (256 : Int) ^ 0 = 1 from rfl]
  omega
theorem rec_id {k a id now : Int} (h : 0 ≤ id ∧ id ≤ 1000000) : idF (recS k a id now) = id := by
  unfold idF recS
  rw [List.append_assoc, List.drop_append_of_le_length (by simp), show List.drop 2 [k, a] = [] from rfl, List.nil_append, List.take_append_of_le_length (by simp), List.take_of_length_le (by simp), List.take_of_length_le (by simp)]
  exact numH_high23 h
theorem rec_now {k a id now : Int} (h : 0 ≤ now ∧ now ≤ 1000000) : nowF (recS k a id now) = now := by
  unfold nowF recS
  rw [List.drop_append_of_le_length (by simp), List.drop_of_length_le (by simp), List.nil_append, List.take_of_length_le (by simp)]
  exact numH_high23 h
theorem rec_ok23 {k a id now : Int} (ha : a < 8) (hi : 0 ≤ id ∧ id ≤ 1000000) (hn : 0 ≤ now ∧ now ≤ 1000000) : tkOK (recS k a id now) = true := by
  unfold tkOK
  rw [rec_id hi, rec_now hn, recS_len, tmB_t hi, tmB_t hn, show (recS k a id now).getD 1 0 = a from rfl, decide_eq_true ha]; rfl
theorem tk_rec1 {S : LS} {a id now : Int} (ha : a < 8) (hi : 0 ≤ id ∧ id ≤ 1000000) (hn : 0 ≤ now ∧ now ≤ 1000000) (h : S.get id = none) : tk S (recS 1 a id now) = S.put id ⟨a, now, false⟩ := by
  have := tk_add (S := S) (rec_ok23 (k := 1) ha hi hn) (by rw [rec_id hi]; exact h) rfl
  rwa [rec_id hi, rec_now hn] at this
theorem tk_rec2 {S : LS} {a id now : Int} {s : Stk} (ha : a < 8) (hi : 0 ≤ id ∧ id ≤ 1000000) (hn : 0 ≤ now ∧ now ≤ 1000000) (h : S.get id = some s) : tk S (recS 2 a id now) = S.put id ⟨s.a, s.t, true⟩ := by
  have := tk_clr (S := S) (rec_ok23 (k := 2) ha hi hn) (by rw [rec_id hi]; exact h) rfl
  rwa [rec_id hi] at this
theorem kput_new {α : Type} {i : Int} {s : α} {ck : Nat} : ∀ {m : List (KEnt α)}, kget m i = none → kput m ck i s = m ++ [(i, s, ck)]
  | [], _ => rfl
  | e :: m, h => by
    unfold kget at h
    split at h
    · cases h
    · rename_i hn
      rw [kput_cons, if_neg hn, kput_new h]; rfl
theorem cnt_new {S : LS} {i a now : Int} {s : Stk} (h : S.get i = none) : cnt (S.put i s).m a now = cnt S.m a now + if cnB a now s = true then 1 else 0 := by
  show cnt (kput S.m S.ck i s) a now = _
  rw [kput_new h, cnt_snoc]
theorem cnt_cons {e : KEnt Stk} {m : List (KEnt Stk)} {a now : Int} : cnt (e :: m) a now = (if cnB a now e.2.1 = true then 1 else 0) + cnt m a now := by
  unfold cnt
  by_cases h : cnB a now e.2.1 = true
  · simp [h]; omega
  · simp [h]
theorem cnt_kput {i a now : Int} {s s' : Stk} {ck : Nat} : ∀ {m : List (KEnt Stk)}, kget m i = some s → cnt (kput m ck i s') a now + (if cnB a now s = true then 1 else 0) = cnt m a now + if cnB a now s' = true then 1 else 0
  | [], h => by cases h
  | e :: m, h => by
    unfold kget at h
    by_cases hi : e.1 = i
    · rw [if_pos hi] at h; cases h
      rw [kput_cons, if_pos hi, cnt_cons, cnt_cons]; dsimp only; omega
    · rw [if_neg hi] at h
      have ih := cnt_kput (a := a) (now := now) (s' := s') (ck := ck) h
      rw [kput_cons, if_neg hi, cnt_cons, cnt_cons]; omega
theorem cnt_old {S : LS} {i a now : Int} {s s' : Stk} (h : S.get i = some s) : cnt (S.put i s').m a now + (if cnB a now s = true then 1 else 0) = cnt S.m a now + if cnB a now s' = true then 1 else 0 := cnt_kput h
theorem put_len {S : LS} {i : Int} {s : Stk} : (S.put i s).m.length ≤ S.m.length + 1 := by
  show (kput S.m S.ck i s).length ≤ _
  rw [kput_len]; split <;> omega
/-- A ledger on a disk that lives. -/
structure LV (D : DS) (g : GR) (S : LS) (n : Nat) : Prop where
  ok : DOK D
  live : Live D
  dn : D.n = n
  gok : g.OK
  ls : LOK S
  sm : S.m.length ≤ 1000000
  len : g.rs.length ≤ n
theorem LV.gn {D : DS} {g : GR} {S : LS} {n : Nat} (h : LV D g S n) : g.rs.length ≤ D.n := by rw [h.dn]; exact h.len
theorem LV.ap {D : DS} {g : GR} {S : LS} {n : Nat} {l : List Int} (h : LV D g S n) (hl : l.length ≤ 59) (hm : g.rs.length < n) : apE D g.rs.length l = 0 := (h.live.ap hl (by rw [h.dn]; exact hm)).1
/-- A record more. -/
theorem LV.more {D : DS} {g r : GR} {S S' : LS} {n : Nat} {l : List Int} (h : LV D g S n) (hl : l.length = 10) (hb : bytes l) (hm : g.rs.length < n) (hr : r.OK ∧ r.ll = apL D g.ll l) (hs : LOK S') (hs2 : S'.m.length ≤ 1000000) : LV (apD D g.rs.length l) r S' n ∧ r.rs.length = g.rs.length + 1 ∧ r.ll = g.ll ++ [l] := by
  obtain ⟨e1, e2, e3⟩ := h.live.ap (m := g.rs.length) (b := l) (by omega) (by rw [h.dn]; exact hm)
  have e4 : r.ll = g.ll ++ [l] := by rw [hr.2]; unfold apL; rw [GR.ll_len, if_pos e1]
  have e5 : r.rs.length = g.rs.length + 1 := by rw [← GR.ll_len, e4, List.length_append, GR.ll_len]; rfl
  exact ⟨⟨apD_ok h.ok hb, e3, by rw [apD_n]; exact h.dn, hr.1, hs, hs2, by omega⟩, e5, e4⟩
/-- A strike added, or refused. -/
theorem LV.add {D : DS} {g r : GR} {S : LS} {n : Nat} {a id now : Int} (h : LV D g S n) (ha : 0 ≤ a ∧ a < 8) (hi : 0 ≤ id ∧ id ≤ 1000000) (hn : 0 ≤ now ∧ now ≤ 1000000) (h0 : S.get id = none) (hm : g.rs.length < n) (hs : S.m.length < 1000000) (hr : r.OK ∧ r.ll = goL D g.ll (adQ S a id now)) :
    goE D g.rs.length (adQ S a id now) = 0 ∧ goS D g.rs.length S (adQ S a id now) = S.put id ⟨a, now, false⟩ ∧ LV (goD D g.rs.length (adQ S a id now)) r (S.put id ⟨a, now, false⟩) n ∧ r.rs.length = g.rs.length + 1 := by
  have ho : adOK a id now = true := by unfold adOK; rw [tmB_t hi, tmB_t hn, acB23, decide_eq_true ha.1, decide_eq_true ha.2]; rfl
  rw [adQ_new ho h0] at hr ⊢
  have hb := recS_bytes (k := 1) (a := a) (id := id) (now := now) ⟨by omega, by omega⟩ ⟨by omega, by omega⟩
  have he := h.ap (l := recS 1 a id now) (by rw [recS_len]; omega) hm
  have hp := put_len (S := S) (i := id) (s := ⟨a, now, false⟩)
  have h1 := h.more (S' := S.put id ⟨a, now, false⟩) recS_len hb hm hr (h.ls.put hi ha hn) (by omega)
  exact ⟨he, by rw [goS_yes he, tk_rec1 ha.2 hi hn h0], h1.1, h1.2.1⟩
/-- A strike taken back. -/
theorem LV.clear {D : DS} {g r : GR} {S : LS} {n : Nat} {id now : Int} {s : Stk} (h : LV D g S n) (hn : 0 ≤ now ∧ now ≤ 1000000) (h0 : S.get id = some s) (hc : s.c = false) (hm : g.rs.length < n) (hs : S.m.length < 1000000) (hr : r.OK ∧ r.ll = goL D g.ll (clQ S id now)) :
    goE D g.rs.length (clQ S id now) = 0 ∧ goS D g.rs.length S (clQ S id now) = S.put id ⟨s.a, s.t, true⟩ ∧ LV (goD D g.rs.length (clQ S id now)) r (S.put id ⟨s.a, s.t, true⟩) n ∧ r.rs.length = g.rs.length + 1 := by
  obtain ⟨hi, ha, ht⟩ := h.ls.get h0
  rw [clQ_new (by rw [tmB_t hi, tmB_t hn]; rfl) h0 (by simp [hc])] at hr ⊢
  have hb := recS_bytes (k := 2) (a := s.a) (id := id) (now := now) ⟨by omega, by omega⟩ ⟨by omega, by omega⟩
  have he := h.ap (l := recS 2 s.a id now) (by rw [recS_len]; omega) hm
  have hp := put_len (S := S) (i := id) (s := ⟨s.a, s.t, true⟩)
  have h1 := h.more (S' := S.put id ⟨s.a, s.t, true⟩) recS_len hb hm hr (h.ls.put hi ha ht) (by omega)
  exact ⟨he, by rw [goS_yes he, tk_rec2 ha.2 hi hn h0], h1.1, h1.2.1⟩
theorem LV.same {D : DS} {g r : GR} {S : LS} {n : Nat} {q : Ask} {e : Int} (h : LV D g S n) (hq : q = .inl e) (hr : r.OK ∧ r.ll = goL D g.ll q) :
    goE D g.rs.length q = e ∧ goS D g.rs.length S q = S ∧ LV (goD D g.rs.length q) r S n ∧ r.rs.length = g.rs.length := by
  subst hq
  have e : r.rs.length = g.rs.length := by rw [← GR.ll_len, hr.2]; exact GR.ll_len
  exact ⟨rfl, rfl, ⟨h.ok, h.live, h.dn, hr.1, h.ls, h.sm, by rw [e]; exact h.len⟩, e⟩
theorem LV.new {n : Nat} {g : GR} (h1 : 1 ≤ n) (h2 : n ≤ 64) (hg : g.OK) (hl : g.ll = opL (newD n)) : LV (newD n) g (opS (opL (newD n))) n ∧ opS (opL (newD n)) = ⟨[], 0⟩ ∧ g.rs.length = 0 := by
  have e : opL (newD n) = [] := Full.new.all h2
  rw [e] at hl ⊢
  have e2 : g.rs.length = 0 := by rw [← GR.ll_len, hl]; rfl
  exact ⟨⟨newD_ok h1 h2, newD_live, rfl, hg, .nil, by simp [opS], by omega⟩, rfl, e2⟩

end Go.Proofs.YtmeckbjinmgbbaaGreat