/- ModerAppeals: its walk. -/
import Derived.Test.YtmeckbjinmgbbaaGreatMod11
set_option linter.unusedVariables false
set_option linter.unusedSimpArgs false

namespace Go.Proofs.YtmeckbjinmgbbaaGreat
open Go.X
theorem mdi {i : Int} (h : 0 ≤ i) (h2 : i ≤ 1000000) : MdOK i 4 5 6 := ⟨⟨h, h2⟩, by decide, by decide, rfl⟩
/-- So many are struck. -/
structure G1 (rl : List Int) (x : MW) (i : Nat) : Prop where
  ok : MOK rl x
  lv : LV x.D x.g x.S 64
  g : x.g.rs.length = i
  q : qs x = []
  j : ∀ y : Int, jB x.J y = decide (0 ≤ y ∧ y < i)
  yes : ∀ k : Nat, k < i → x.S.get k = some ⟨4, 8, false⟩
  no : ∀ y : Int, (i : Int) ≤ y → x.S.get y = none
  c : ∀ t, cnt x.S.m 4 t = if cnB 4 t ⟨4, 8, false⟩ = true then i else 0
  sl : x.S.m.length ≤ i
  tk : ∀ y ∈ x.tk, y.2 = (0, 2)
theorem G1.new {rl : List Int} {x : MW} (hk : MOK rl x) (hb : Bg (newD 64) x) : G1 rl x 0 := by
  obtain ⟨hv0, hS0, hn0⟩ := LV.new (n := 64) (g := x.g) (by omega) (by omega) hk.g hb.l
  have hs : x.S = ⟨[], 0⟩ := hb.s.trans hS0
  exact ⟨hk, by rw [hb.d, hb.s]; exact hv0, hn0, hb.q, fun y => by rw [hb.j]; exact (decide_eq_false (by omega)).symm, fun k h => by omega, fun y _ => by rw [hs]; rfl, fun t => by rw [hs]; simp [cnt], by rw [hs]; exact Nat.le_refl _, hb.t⟩
theorem G1.mid {rl : List Int} {x r : MW} {i : Nat} (h : G1 rl x i) (hr : InR 0 (mdA rl (i : Int) 4 5 6) x r) : LV r.D r.g r.S 64 ∧ r.g.rs.length = i ∧ qs r = [mdA rl (i : Int) 4 5 6] ∧ r.S = x.S ∧ r.J = x.J ∧ r.tk = x.tk := by
  obtain ⟨h1, h2, h3, h4, h5, h6, h7⟩ := hr
  exact ⟨by rw [h1, h2, h3]; exact h.lv, by rw [h2]; exact h.g, by rw [h7, h.q]; rfl, h3, h4, h6⟩
theorem G1.step {rl : List Int} {x r r2 : MW} {i : Nat} (h : G1 rl x i) (hr : InR 0 (mdA rl (i : Int) 4 5 6) x r) (hk : MOK rl r2) (hj : JD r r2 (i : Int) 4 8 0 64) : G1 rl r2 (i + 1) := by
  obtain ⟨h1, h2, h3, h4, h5, h6⟩ := h.mid hr
  have hS : r2.S = x.S.put i ⟨4, 8, false⟩ := by rw [hj.s, h4]
  have hn := h.no i (by omega)
  refine ⟨hk, hj.lv, by rw [hj.g, h2], by rw [hj.q, h3]; rfl, fun y => ?_, fun k hk => ?_, fun y hy => ?_, fun t => ?_, ?_, by rw [hj.tk, h6]; exact h.tk⟩
  · rw [hj.j y, h5, h.j y]
    by_cases e : (i : Int) = y
    · rw [if_pos e]; exact (decide_eq_true (by omega)).symm
    · rw [if_neg e]; exact decide_eq_decide.2 (by omega)
  · rw [hS, LS.get_put]
    by_cases e : k = i
    · rw [if_pos (by omega)]
    · rw [if_neg (by omega)]; exact h.yes k (by omega)
  · rw [hS, LS.get_put, if_neg (by omega)]; exact h.no y (by omega)
  · rw [hS, cnt_new hn, h.c]; split <;> omega
  · rw [hS]; have := put_len (S := x.S) (i := (i : Int)) (s := ⟨4, 8, false⟩); have := h.sl; omega
/-- So many were taken back: c; the others not yet. -/
structure G2 (rl : List Int) (x : MW) (m i c : Nat) (T : Int) (n : Int) : Prop where
  ok : MOK rl x
  lv : LV x.D x.g x.S 64
  g : x.g.rs.length = m + c
  yes : ∀ k : Nat, c ≤ k → k < m → x.S.get k = some ⟨4, 8, false⟩
  cn : ∀ t, cnt x.S.m 4 t = if cnB 4 t ⟨4, 8, false⟩ = true then m - c else 0
  sl : x.S.m.length ≤ m + c
  t5 : ∃ p t n, x.tk[5]? = some (p, t, n)
  t4 : ∃ p, x.tk[4]? = some (p, T, n)
theorem G1.two {rl : List Int} {x : MW} {m : Nat} (h : G1 rl x m) : G2 rl x m 0 0 0 2 := by
  have h8 := h.ok.t8
  refine ⟨h.ok, h.lv, h.g, fun k _ hk => h.yes k hk, h.c, h.sl, ⟨_, _, _, List.getElem?_eq_getElem (by omega)⟩, ⟨(x.tk[4]'(by omega)).1, ?_⟩⟩
  rw [List.getElem?_eq_getElem (by omega)]
  have := h.tk _ (List.getElem_mem (l := x.tk) (n := 4) (by omega))
  rw [← this]
section
variable {rl : List Int} {x r : MW} {m i c : Nat} {T n : Int} (h : G2 rl x m i c T n)
include h
/-- What changes nothing. -/
theorem G2.no {a : Int} {p : Nat} {u : Int × Int} (ho : MOK rl r) (hr : AD a (p, u) 64 x r) (ha : x.tk[a.toNat]? = some (p, u)) : G2 rl r m i c T n := by
  have e : r.tk = x.tk := by rw [hr.tk, tk_same ha]
  exact ⟨ho, hr.lv, by rw [hr.g]; exact h.g, by rw [hr.s]; exact h.yes, by rw [hr.s]; exact h.cn, by rw [hr.s]; exact h.sl, by rw [e]; exact h.t5, by rw [e]; exact h.t4⟩
/-- What takes no token. -/
theorem G2.rate {p : Nat} {u : Int × Int} (ho : MOK rl r) (hr : AD 4 (p, u) 64 x r) : G2 rl r m i c u.1 u.2 := by
  have h8 := h.ok.t8
  refine ⟨ho, hr.lv, by rw [hr.g]; exact h.g, by rw [hr.s]; exact h.yes, by rw [hr.s]; exact h.cn, by rw [hr.s]; exact h.sl, ?_, ⟨p, ?_⟩⟩
  · rw [hr.tk]; obtain ⟨p5, t5, n5, h5⟩ := h.t5; exact ⟨p5, t5, n5, by rw [List.getElem?_set_ne (by decide)]; exact h5⟩
  · rw [hr.tk]; exact List.getElem?_set_self (by show 4 < _; omega)
/-- What takes one back. -/
theorem G2.took {p : Nat} {u : Int × Int} (hi : i < m) (hc : i = c) (ho : MOK rl r) (hr : AY 4 (i : Int) ⟨4, 8, false⟩ (p, u) 64 x r) : G2 rl r m (i + 1) (c + 1) u.1 u.2 ∧ r.S.get i = some ⟨4, 8, true⟩ := by
  have h8 := h.ok.t8
  have hg := h.yes i (by omega) hi
  refine ⟨⟨ho, hr.lv, by rw [hr.g, h.g]; omega, fun k h1 h2 => ?_, fun t => ?_, ?_, ?_, ⟨p, ?_⟩⟩, by rw [hr.s, LS.get_put, if_pos rfl]⟩
  · rw [hr.s, LS.get_put, if_neg (by omega)]; exact h.yes k (by omega) h2
  · have e := cnt_old (s' := ⟨4, 8, true⟩) (a := 4) (now := t) hg
    rw [hr.s]
    rw [h.cn t, if_neg (by simp [cnB] : ¬ cnB 4 t ⟨4, 8, true⟩ = true)] at e
    show cnt (x.S.put i ⟨4, 8, true⟩).m 4 t = _
    split at e <;> rename_i q <;> simp only [q, if_true, if_false] at e ⊢ <;> first | omega | (simp at e ⊢; omega)
  · rw [hr.s]; have := put_len (S := x.S) (i := (i : Int)) (s := ⟨4, 8, true⟩); have := h.sl; show (x.S.put i ⟨4, 8, true⟩).m.length ≤ _; omega
  · rw [hr.tk]; obtain ⟨p5, t5, n5, h5⟩ := h.t5; exact ⟨p5, t5, n5, by rw [List.getElem?_set_ne (by decide)]; exact h5⟩
  · rw [hr.tk]; exact List.getElem?_set_self (by show 4 < _; omega)
theorem G2.skip : G2 rl x m (i + 1) c T n := ⟨h.ok, h.lv, h.g, h.yes, h.cn, h.sl, h.t5, h.t4⟩
end
theorem ap10 {S : LS} {t n a id now : Int} {s : Stk} (h0 : S.get id = some s) (h1 : s.a = a) (h2 : s.c = false) (h : t ≤ now) (h3 : now ≤ 1000000) (h4 : min 2 (n + (now / 50 - t / 50)) = 0) : apQ S t n a id now = .inl 10 ∧ apX S t n a id now = (now, 0) := by
  obtain ⟨e1, e2, e3⟩ := take2_no h h3 h4
  obtain ⟨a1, a2⟩ := apQ_rate (S := S) (t := t) (n := n) (now := now) (apT_ok (a := a) h0 h1 (by simp [h2])) (by omega)
  exact ⟨by rw [a1, e1], by rw [a2, e2, e3]⟩
theorem cnB_8 {t : Int} (h : 8 ≤ t ∧ t ≤ 108) : cnB 4 t ⟨4, 8, false⟩ = true := by simp [cnB]; omega

end Go.Proofs.YtmeckbjinmgbbaaGreat