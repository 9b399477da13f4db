/- Who judges, whole: what appeals do on a disk that lives. -/
import Derived.Test.YtmeckbjinmgbbaaGreatMod10
set_option linter.unusedVariables false
set_option linter.unusedSimpArgs false

namespace Go.Proofs.YtmeckbjinmgbbaaGreat
open Go.X
theorem take2_ok {t n now : Int} (h : t ≤ now) (h2 : now ≤ 1000000) (h3 : min 2 (n + (now / 50 - t / 50)) ≠ 0) : takeE 2 50 t n now = 0 ∧ takeT t now = now ∧ takeN 2 50 t n now = min 2 (n + (now / 50 - t / 50)) - 1 := by
  unfold takeE takeT takeN lvF
  rw [if_neg (by omega), if_neg (by omega), if_neg h3, if_neg (by omega), if_neg (by omega), if_neg (by omega), if_neg (by omega), if_neg h3]
  exact ⟨rfl, rfl, rfl⟩
theorem take2_no {t n now : Int} (h : t ≤ now) (h2 : now ≤ 1000000) (h3 : min 2 (n + (now / 50 - t / 50)) = 0) : takeE 2 50 t n now = 10 ∧ takeT t now = now ∧ takeN 2 50 t n now = 0 := by
  unfold takeE takeT takeN lvF
  rw [if_neg (by omega), if_neg (by omega), if_pos h3, if_neg (by omega), if_neg (by omega), if_neg (by omega), if_neg (by omega), if_pos h3]
  exact ⟨rfl, rfl, rfl⟩
/-- An appeal that changes nothing of the ledger. -/
structure AD (a : Int) (z : Tok) (n0 : Nat) (x r : MW) : Prop where
  lv : LV r.D r.g r.S n0
  s : r.S = x.S
  g : r.g.rs.length = x.g.rs.length
  q : qs r = qs x
  tk : r.tk = x.tk.set a.toNat z
/-- One that takes a strike back. -/
structure AY (a id : Int) (s : Stk) (z : Tok) (n0 : Nat) (x r : MW) : Prop where
  lv : LV r.D r.g r.S n0
  s : r.S = x.S.put id ⟨s.a, s.t, true⟩
  g : r.g.rs.length = x.g.rs.length + 1
  q : qs r = qs x
  tk : r.tk = x.tk.set a.toNat z
theorem ap_inl (rl : List Int) (P : MA) (x : MW) (hx : MOK rl x) (n0 : Nat) (lv : LV x.D x.g x.S n0) (a id now : Int) (ha : 0 ≤ a ∧ a < 8) (p : Nat) (t n : Int) (hk : x.tk[a.toNat]? = some (p, t, n)) (e0 : Int) (u : Int × Int) (hq : apQ x.S t n a id now = .inl e0 ∧ apX x.S t n a id now = u) (hu : OkB 2 50 u.1 u.2) (w : World) (hp0 : HP w w ((mwL rl P x).map (·.1)) (mwL rl P x)) :
    Calls Tryz.prog 12 [.pointer (some ⟨P.M, 0, none⟩), .int .i64 a, .int .i64 id, .int .i64 now].toArray w fun e w' => ∃ r : MW, (MOK rl r ∧ AD a (p, u) n0 x r) ∧ e = .returned (.int .i64 e0) ∧ HP w w' ((mwL rl P x).map (·.1)) (mwL rl P r) := by
  obtain ⟨h1, h2⟩ := hq
  have key := appeal_w rl P x hx a id now ha p t n hk w hp0
  rw [h1, h2] at key
  refine (key ⟨lv.ok, lv.ls, fun r hr => by obtain ⟨_, _, _, h4⟩ := lv.same (q := .inl e0) rfl hr; rw [h4]; exact lv.gn, hu⟩).mono fun e w' ⟨r, ⟨h3, h4⟩, h5, h6⟩ => ?_
  obtain ⟨-, -, g3, g4⟩ := lv.same (q := .inl e0) rfl h4.g
  have hS : r.S = x.S := h4.s
  exact ⟨r, ⟨h3, ⟨by rw [h4.d, hS]; exact g3, hS, g4, h4.q, h4.tk⟩⟩, h5, h6⟩
theorem ap_yes (rl : List Int) (P : MA) (x : MW) (hx : MOK rl x) (n0 : Nat) (lv : LV x.D x.g x.S n0) (a id now : Int) (ha : 0 ≤ a ∧ a < 8) (p : Nat) (t n : Int) (hk : x.tk[a.toNat]? = some (p, t, n)) (s : Stk) (h0 : x.S.get id = some s) (hsa : s.a = a) (hc : s.c = false) (hn : 0 ≤ now ∧ now ≤ 1000000) (hT : takeE 2 50 t n now = 0) (hm : x.g.rs.length < n0) (hs : x.S.m.length < 1000000) (w : World) (hp0 : HP w w ((mwL rl P x).map (·.1)) (mwL rl P x)) :
    Calls Tryz.prog 12 [.pointer (some ⟨P.M, 0, none⟩), .int .i64 a, .int .i64 id, .int .i64 now].toArray w fun e w' => ∃ r : MW, (MOK rl r ∧ AY a id s (p, takeT t now, takeN 2 50 t n now) n0 x r) ∧ e = .returned (.int .i64 0) ∧ HP w w' ((mwL rl P x).map (·.1)) (mwL rl P r) := by
  obtain ⟨h1, h2⟩ := apQ_ok (S := x.S) (t := t) (n := n) (now := now) (apT_ok (a := a) h0 hsa (by simp [hc])) hT
  obtain ⟨hi, hA, ht⟩ := lv.ls.get h0
  have e1 := clQ_new (S := x.S) (id := id) (now := now) (by rw [tmB_t hi, tmB_t hn]; rfl) h0 (by simp [hc])
  have hb := recS_bytes (k := 2) (a := s.a) (id := id) (now := now) ⟨by omega, by omega⟩ ⟨by omega, by omega⟩
  have he := lv.ap (l := recS 2 s.a id now) (by rw [recS_len]; omega) hm
  have key := appeal_w rl P x hx a id now ha p t n hk w hp0
  rw [h1, h2] at key
  refine (key ⟨by rw [e1]; exact apD_ok lv.ok hb, by rw [e1, goS_yes he, tk_rec2 hA.2 hi hn h0]; exact lv.ls.put hi hA ht, fun r hr => by
    obtain ⟨_, _, _, h4⟩ := lv.clear hn h0 hc hm hs hr
    rw [h4, lv.dn]; omega, (hx.tk _ (List.mem_of_getElem? hk)).take now⟩).mono fun e w' ⟨r, ⟨h3, h4⟩, h5, h6⟩ => ?_
  obtain ⟨a1, a2, a3, a4⟩ := lv.clear hn h0 hc hm hs h4.g
  rw [a1] at h5
  exact ⟨r, ⟨h3, ⟨by rw [h4.d, h4.s, a2]; exact a3, by rw [h4.s, a2], a4, h4.q, h4.tk⟩⟩, h5, h6⟩

end Go.Proofs.YtmeckbjinmgbbaaGreat