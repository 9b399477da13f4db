/- ModerOnce: what holds, round by round. -/
import Derived.Test.YtmeckbjinmgbbaaGreatMod12
import Derived.Test.YtmeckbjinmgbbaaGreatBkL
import Derived.Test.YtmeckbjinmgbbaaGreatXC
set_option linter.unusedVariables false
set_option linter.unusedSimpArgs false

namespace Go.Proofs.YtmeckbjinmgbbaaGreat
open Go.X
theorem wfu24 {n : Int} (h : (Lit.int .u64 n).wf = true) : 0 ≤ n ∧ n ≤ 18446744073709551615 := by
  simp [Lit.wf, IntKind.min, IntKind.max, IntKind.signed, IntKind.bits] at h
  omega
theorem mdo {i : Int} (h : 0 ≤ i) (h2 : i ≤ 1000000) : MdOK i 4 5 6 := ⟨⟨h, h2⟩, by decide, by decide, rfl⟩
abbrev TM := List (KEnt Bool)
def tE : KEnt Bool → Ent := gE Value.bool
theorem tget {m : TM} {id : Int} {o : Option Bool} (h : kget m id = o) : (mget (m.map tE) id).getD (.bool false) = .bool (o.getD false) := by
  unfold tE; rw [mget_gE, h]; cases o <;> rfl
theorem tput {m : TM} {ck : Nat} {id : Int} {b : Bool} : mput (m.map tE) ck id (.bool b) = (kput m ck id b).map tE := mput_gE (f := Value.bool)
theorem tclk {m : TM} {ck : Nat} {id : Int} : mclk (m.map tE) ck id = kck m ck id := mclk_gE (f := Value.bool)
theorem tkey {α β : Type} {id : Int} : ∀ {m : List (KEnt α)} {n : List (KEnt β)}, m.map (·.1) = n.map (·.1) → (kget m id).isSome = (kget n id).isSome
  | [], [], _ => rfl
  | [], _ :: _, h => by cases h
  | _ :: _, [], h => by cases h
  | e :: m, f :: n, h => by
    simp only [List.map_cons, List.cons.injEq] at h
    rw [kget_cons, kget_cons, h.1]
    split
    · rfl
    · exact tkey h.2
theorem cnt48 : ∀ {m : List (KEnt Stk)}, (∀ e ∈ m, e.2.1 = ⟨4, 8, false⟩) → cnt m 4 8 = m.length ∧ cnt m 5 8 = 0
  | [], _ => ⟨rfl, rfl⟩
  | e :: m, h => by
    obtain ⟨h1, h2⟩ := cnt48 (m := m) fun x hx => h x (List.mem_cons_of_mem _ hx)
    have h3 := h e List.mem_cons_self
    rw [cnt_cons, cnt_cons, h1, h2, h3, if_pos (by decide), if_neg (by decide), List.length_cons]
    exact ⟨by omega, rfl⟩
/-- Just who was told of is struck, once. -/
structure O1 (rl : List Int) (x : MW) (m : TM) (k : Nat) : Prop where
  ok : MOK rl x
  lv : LV x.D x.g x.S 64
  bk : Bk x.D x.g.ll
  op : x.S = opS x.g.ll
  gl : x.g.rs.length = x.S.m.length
  sl : x.S.m.length ≤ k
  q : qs x = []
  en : ∀ e ∈ x.S.m, e.2.1 = ⟨4, 8, false⟩
  j : ∀ y, jB x.J y = true → (x.S.get y).isSome = true
  keys : m.map (·.1) = x.S.m.map (·.1)
  tr : ∀ e ∈ m, e.2.1 = true
theorem O1.new {rl : List Int} {x : MW} (hk : MOK rl x) (hb : Bg (newD 64) x) : O1 rl x [] 0 := by
  obtain ⟨hv0, hS0, hn0⟩ := LV.new (n := 64) (g := x.g) (by omega) (by omega) hk.g hb.l
  have hs : x.S = ⟨[], 0⟩ := hb.s.trans hS0
  have e : opL (newD 64) = [] := Full.new.all (by decide)
  have hl : x.g.ll = [] := hb.l.trans e
  refine ⟨hk, by rw [hb.d, hb.s]; exact hv0, ?_, by rw [hl, hs]; rfl, by rw [hn0, hs]; rfl, by rw [hs]; exact Nat.le_refl _, hb.q, fun y hy => (by rw [hs] at hy; cases hy), fun y hy => (by rw [hb.j] at hy; cases hy), by rw [hs]; rfl, fun y hy => (by cases hy)⟩
  rw [hb.d, hl]
  exact ⟨newD_ok (by omega) (by omega), rfl, rfl, ⟨.nil, fun i h hi => (Full.new (n := 64)).rest i h hi⟩, rfl⟩
section
variable {rl : List Int} {x r r2 : MW} {m : TM} {k ck : Nat} {id : Int} (h : O1 rl x m k)
include h
theorem O1.mono {k' : Nat} (hk : k ≤ k') : O1 rl x m k' := ⟨h.ok, h.lv, h.bk, h.op, h.gl, Nat.le_trans h.sl hk, h.q, h.en, h.j, h.keys, h.tr⟩
theorem O1.told : kget m id = (x.S.get id).map fun _ => true := by
  have hk := tkey (id := id) h.keys
  cases hq : kget m id with
  | none => rw [hq] at hk; cases hs : x.S.get id with
    | none => rfl
    | some s => rw [show kget x.S.m id = some s from hs] at hk; cases hk
  | some b => rw [hq] at hk; cases hs : x.S.get id with
    | none => rw [show kget x.S.m id = none from hs] at hk; cases hk
    | some s =>
      obtain ⟨n, hn⟩ := kget_mem hq
      rw [show b = true from h.tr _ hn]; rfl
theorem O1.mlen : m.length = x.S.m.length := by
  have := congrArg List.length h.keys; simpa using this
theorem O1.c4 : cnt x.S.m 4 8 = m.length := by rw [(cnt48 h.en).1, h.mlen]
theorem O1.c5 : cnt x.S.m 5 8 = 0 := (cnt48 h.en).2
/-- What was told of is told once more. -/
theorem O1.again {s : Stk} (h0 : x.S.get id = some s) (hk : MOK rl r) (hr : InR 9 (mdA rl id 4 5 6) x r) : O1 rl r (kput m ck id true) (k + 1) := by
  obtain ⟨h1, h2, h3, h4, h5, h6, h7⟩ := hr
  have ht : kget m id = some true := by rw [h.told, h0]; rfl
  refine ⟨hk, by rw [h1, h2, h3]; exact h.lv, by rw [h1, h2]; exact h.bk, by rw [h3, h2]; exact h.op, by rw [h2, h3]; exact h.gl, by rw [h3]; exact Nat.le_succ_of_le h.sl, by rw [h7, h.q]; rfl, by rw [h3]; exact h.en, by rw [h4, h3]; exact h.j, ?_, fun e he => ?_⟩
  · rw [kput_keys, ht, if_pos (by rfl), h3]; exact h.keys
  · rcases kput_mem he with he | ⟨_, h2, _⟩
    · exact h.tr e he
    · exact h2
theorem O1.qr (hr : InR 9 (mdA rl id 4 5 6) x r) : qs r = [] := by
  obtain ⟨-, -, -, -, -, -, h7⟩ := hr
  rw [h7, h.q]; rfl
theorem O1.mid (hr : InR 0 (mdA rl id 4 5 6) x r) : LV r.D r.g r.S 64 ∧ qs r = [mdA rl id 4 5 6] ∧ r.g = x.g ∧ r.S = x.S ∧ r.D = x.D ∧ r.J = x.J := by
  obtain ⟨h1, h2, h3, h4, h5, h6, h7⟩ := hr
  exact ⟨by rw [h1, h2, h3]; exact h.lv, by rw [h7, h.q]; rfl, h2, h3, h1, h4⟩
/-- What is new is struck. -/
theorem O1.step (hi : 0 ≤ id ∧ id ≤ 1000) (hk0 : k < 60) (h0 : x.S.get id = none) (hr : InR 0 (mdA rl id 4 5 6) x r) (hk : MOK rl r2) (hj : JD r r2 id 4 8 0 64) : O1 rl r2 (kput m ck id true) (k + 1) := by
  obtain ⟨-, h2, h3, h4, h5, h6⟩ := h.mid hr
  have hgl := h.gl
  have hsl := h.sl
  have hS : r2.S = x.S.put id ⟨4, 8, false⟩ := by rw [hj.s, h4]
  have hll : r2.g.ll = x.g.ll ++ [recS 1 4 id 8] := by rw [hj.l, h3]
  have hD : r2.D = apD x.D x.g.ll.length (recS 1 4 id 8) := by rw [hj.d, h5, h3, GR.ll_len]
  have ht : kget m id = none := by rw [h.told, h0]; rfl
  refine ⟨hk, hj.lv, ?_, ?_, ?_, ?_, by rw [hj.q, h2]; rfl, fun e he => ?_, fun y hy => ?_, ?_, fun e he => ?_⟩
  · rw [hD, hll]
    exact h.bk.ap h.lv.live ⟨by rw [recS_len]; omega, recS_bytes ⟨by omega, by omega⟩ ⟨by omega, by omega⟩⟩ (by rw [GR.ll_len]; omega)
  · rw [hS, hll, opS_snoc, ← h.op, tk_rec1 (by omega) ⟨by omega, by omega⟩ ⟨by omega, by omega⟩ h0]
  · rw [hj.g, h3, hS]
    show _ = (kput x.S.m x.S.ck id _).length
    rw [kput_new h0, List.length_append, List.length_singleton]; omega
  · rw [hS]; have := put_len (S := x.S) (i := id) (s := ⟨4, 8, false⟩); omega
  · rw [hS] at he
    rcases kput_mem he with he | ⟨_, h2, _⟩
    · exact h.en e he
    · exact h2
  · rw [hS, LS.get_put]
    split
    · rfl
    · rename_i hne
      rw [hj.j y, if_neg hne, h6] at hy
      exact h.j y hy
  · rw [hS]
    show _ = (kput x.S.m x.S.ck _ _).map _
    rw [kput_new ht, kput_new h0, List.map_append, List.map_append, h.keys]; rfl
  · rcases kput_mem he with he | ⟨_, h2, _⟩
    · exact h.tr e he
    · exact h2
/-- Behind a crash. -/
theorem O1.crash {kept : Int} (hk : MOK rl r) (hb : Bg (crD x.D kept) r) (hk0 : k < 60) : O1 rl r m k := by
  have hc := h.bk.crash kept
  have hsl := h.sl
  have hl : r.g.ll = x.g.ll := hb.l.trans hc.op
  have hs : r.S = x.S := by rw [hb.s, hc.op, ← h.op]
  have hgl : r.g.rs.length = x.g.rs.length := by rw [← GR.ll_len, hl, GR.ll_len]
  have hgx := h.gl
  refine ⟨hk, ?_, by rw [hb.d, hl]; exact hc, by rw [hs, hl]; exact h.op, by rw [hgl, hs]; exact h.gl, by rw [hs]; exact h.sl, hb.q, by rw [hs]; exact h.en, fun y hy => (by rw [hb.j] at hy; cases hy), by rw [hs]; exact h.keys, h.tr⟩
  rw [hb.d]
  exact ⟨hc.ok, Live.cr, hc.n, hk.g, hk.s, by rw [hs]; omega, by omega⟩
theorem O1.e9 {s : Stk} (hi : 0 ≤ id ∧ id ≤ 1000) (h0 : x.S.get id = some s) : inE rl (mdA rl id 4 5 6) 7 (qs x) (jB x.J) x.S = 9 :=
  have _ := h.q
  inE_tw (md_chk0 (mdo hi.1 (by omega)) ⟨rfl, by decide, by decide⟩) (.inr (.inr (by rw [show (mdA rl id 4 5 6).id = id from rfl, h0]; rfl)))
theorem O1.e0 (hi : 0 ≤ id ∧ id ≤ 1000) (h0 : x.S.get id = none) : inE rl (mdA rl id 4 5 6) 7 (qs x) (jB x.J) x.S = 0 :=
  inE_new (mdo hi.1 (by omega)) ⟨rfl, by decide, by decide⟩ (by rw [h.q]; simp) (by
    cases hj : jB x.J id with
    | false => rfl
    | true => have := h.j id hj; rw [h0] at this; cases this) h0 (by rw [h.q]; decide)
end

end Go.Proofs.YtmeckbjinmgbbaaGreat