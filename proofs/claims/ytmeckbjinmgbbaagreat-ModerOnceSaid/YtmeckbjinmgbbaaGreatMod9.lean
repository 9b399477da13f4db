/- Who judges: what is made, taken in and judged. -/
import Derived.Test.YtmeckbjinmgbbaaGreatMod8
import Derived.Test.YtmeckbjinmgbbaaGreatMsa
set_option linter.unusedVariables false
set_option linter.unusedSimpArgs false

namespace Go.Proofs.YtmeckbjinmgbbaaGreat
open Go.X
theorem ridx_no {l : List AR} {id : Int} (h : ∀ a ∈ l, a.id ≠ id) : ridx l id = none := ridx_end fun k a' hk h' => h a' (List.mem_of_getElem? h')
theorem at24_no {l : List AR} {id : Int} (h : ∀ a ∈ l, a.id ≠ id) : ¬ 0 ≤ at24I l id := by rw [at24_none (ridx_no h)]; decide
section
variable {rl : List Int} {id fr to t now : Int} {l : List AR} {J : Int → Bool} {S : LS} (h : MdOK id fr to t) (hn : timeB now = true ∧ t ≤ now ∧ now ≤ t + 50)
include h hn
theorem md_chk0 : repChk rl 5 (rlR (mdA rl id fr to t, none)) now = 0 := by rw [h.chk hn.1, if_neg (by omega)]
theorem inE_new (h1 : ∀ a ∈ l, a.id ≠ id) (h2 : J id = false) (h3 : S.get id = none) (h8 : l.length < 8) : inE rl (mdA rl id fr to t) now l J S = 0 :=
  inE_ok (md_chk0 h hn) (by
    rintro (h4 | h4 | h4)
    · exact at24_no h1 h4
    · rw [show (mdA rl id fr to t).id = id from rfl, h2] at h4; cases h4
    · rw [show (mdA rl id fr to t).id = id from rfl, h3] at h4; cases h4) (by omega)
theorem inE_here {i : Nat} (h1 : ridx l id = some i) : inE rl (mdA rl id fr to t) now l J S = 9 :=
  inE_tw (md_chk0 h hn) (.inl (by rw [show (mdA rl id fr to t).id = id from rfl, at24_some h1]; omega))
end
theorem in24_md (rl : List Int) (P : MA) (x : MW) (hx : MOK rl x) (hrl : rl.length = 32) (hrb : bytes rl) (id fr to t now : Int) (hM : MdOK id fr to t) (o : Gr) (ho : GrOK o 132) (e0 : Int) (he : inE rl (mdA rl id fr to t) now (qs x) (jB x.J) x.S = e0) (w : World) (hp0 : HP w w ((mwL rl P x).map (·.1)) (mwL rl P x)) (hs : ∀ w' L, HP w w' ((mwL rl P x).map (·.1)) L → SrW w' 1 (gA o) 132 (iv .u8 (mdL rl id fr to t))) :
    Calls Tryz.prog 9 [.pointer (some ⟨P.M, 0, none⟩), .slice (gA o) 132 (gC o), .int .i64 now].toArray w fun e w' => ∃ r : MW, (MOK rl r ∧ InR e0 (mdA rl id fr to t) x r) ∧ e = .returned (.tuple #[.int .i64 (inI e0 (mdA rl id fr to t)), .int .i64 e0]) ∧ HP w w' ((mwL rl P x).map (·.1)) (mwL rl P r) := by
  subst he
  have := in24_w rl P x hx hrl hrb (gA o) 132 (gC o) (mdL rl id fr to t) now hM.by_ ho.cap (by omega) hM.rd.1 w hp0 hs
  rwa [hM.rd.2] at this
/-- A strike that was told, and kept. -/
structure JD (x r : MW) (id fr now : Int) (i n : Nat) : Prop where
  lv : LV r.D r.g r.S n
  s : r.S = x.S.put id ⟨fr, now, false⟩
  g : r.g.rs.length = x.g.rs.length + 1
  q : qs r = (qs x).take i ++ (qs x).drop (i + 1)
  j : ∀ y, jB r.J y = if id = y then true else jB x.J y
  tk : r.tk = x.tk
  d : r.D = apD x.D x.g.rs.length (recS 1 fr id now)
  l : r.g.ll = x.g.ll ++ [recS 1 fr id now]
theorem juS_md (rl : List Int) (P : MA) (x : MW) (hx : MOK rl x) (n : Nat) (lv : LV x.D x.g x.S n) (id fr to t now : Int) (hM : MdOK id fr to t) (i : Nat) (hi : ridx (qs x) id = some i) (ha : (qs x)[i]? = some (mdA rl id fr to t)) (hn : 0 ≤ now ∧ now ≤ 1000000) (h0 : x.S.get id = none) (hm : x.g.rs.length < n) (hs : x.S.m.length < 1000000) (w : World) (hp0 : HP w w ((mwL rl P x).map (·.1)) (mwL rl P x)) :
    Calls Tryz.prog 11 [.pointer (some ⟨P.M, 0, none⟩), .int .i64 id, .int .i64 1, .int .i64 now].toArray w fun e w' => ∃ r : MW, (MOK rl r ∧ JD x r id fr now i n) ∧ e = .returned (.int .i64 0) ∧ HP w w' ((mwL rl P x).map (·.1)) (mwL rl P r) := by
  have hid : (mdA rl id fr to t).id = id := rfl
  have ho : adOK fr id now = true := by unfold adOK; rw [tmB_t hM.i, tmB_t hn, acB23, decide_eq_true hM.f.1, decide_eq_true hM.f.2]; rfl
  have e1 := adQ_new (S := x.S) ho h0
  have hb := recS_bytes (k := 1) (a := fr) (id := id) (now := now) ⟨by omega, by omega⟩ ⟨by have := hM.f; omega, by have := hM.f; omega⟩
  have he := lv.ap (l := recS 1 fr id now) (by rw [recS_len]; omega) hm
  have key := juS_w rl P x hx id now i hi (mdA rl id fr to t) ha w hp0
  rw [hM.frE, hid] at key
  refine (key ⟨by rw [e1]; exact apD_ok lv.ok hb, by rw [e1, goS_yes he, tk_rec1 hM.f.2 hM.i hn h0]; exact lv.ls.put hM.i hM.f hn, fun r hr => by
    obtain ⟨_, _, _, h4⟩ := lv.add hM.f hM.i hn h0 hm hs hr
    rw [h4, lv.dn]; omega⟩).mono fun e w' ⟨r, ⟨h1, h2⟩, h3, h4⟩ => ?_
  obtain ⟨a1, a2, a3, a4⟩ := lv.add hM.f hM.i hn h0 hm hs h2.g
  have a5 : stE (goE x.D x.g.rs.length (adQ x.S fr id now)) = 0 := by rw [a1]; rfl
  rw [a5] at h3
  refine ⟨r, ⟨h1, ⟨by rw [h2.d, h2.s, a2]; exact a3, by rw [h2.s, a2], a4, ?_, fun y => ?_, h2.tk, by rw [h2.d, e1]; rfl, ?_⟩⟩, h3, h4⟩
  · rw [h2.q, a5]; exact if_pos rfl
  · rw [h2.j y, a5]; simp
  · rw [h2.g.2, e1]
    show apL x.D x.g.ll _ = _
    unfold apL; rw [GR.ll_len, if_pos he]

def k1 : List Int := [1] ++ List.replicate (32 - 1) 0
theorem k1_bytes : bytes k1 := by unfold k1; exact sc
def S3w : LS := LS.put ⟨[], 0⟩ 3 ⟨4, 8, false⟩

theorem awake24_calls (w : World) : Calls Tryz.prog 6 ([] : List Value).toArray w fun e w' => e = .returned (.bool true) ∧ HP w w' [] [] := by
 have k0 := newD_ok (n := 8) (by omega) (by omega)
 have hkb : bytes k1 := k1_bytes
 have hM : MdOK 3 4 5 6 := ⟨by decide, by decide, by decide, rfl⟩
 have hw7 : timeB 7 = true ∧ (6 : Int) ≤ 7 ∧ (7 : Int) ≤ 6 + 50 := ⟨rfl, by decide, by decide⟩
 refine calls_of_W Tryz.func6 rfl Tryz.ntmps6 rfl rfl (HP.refl w []) ?_
 refine sr ?_
 refine oas ?_
 refine nx ?_
 refine cg rfl (fun w hp => new21_calls 8 (by omega) (by omega) w) (fun b11 h11 => ?_)
 refine omv ?_
 refine ov vex ?_
 refine ov vex ?_
 refine oas ?_
 refine oas ?_
 refine nx ?_
 refine ov (vbI 32 .u8 1 [1]) ?_
 refine omv ?_
 refine cgP _ rfl (fun w hp => begun24_calls k1 rfl b11 (newD 8) k0 w (HP.here hp cov)) (fun r17 h17 => ?_)
 simp only [List.cons_append, List.nil_append, List.append_nil, List.append_assoc]
 obtain ⟨hk0, hb0⟩ := h17
 have hq0 := hb0.q
 obtain ⟨hv0, hS0, hn0⟩ := LV.new (n := 8) (g := r17.2.g) (by omega) (by omega) hk0.g hb0.l
 have hs0 : r17.2.S = ⟨[], 0⟩ := hb0.s.trans hS0
 refine omv ?_
 refine ov vex ?_
 refine ov vex ?_
 refine oas ?_
 refine oas ?_
 refine nq ?_
 refine W.seq ?_
 refine sr ?_
 refine omv ?_
 refine ov (V_eqlP (by kernel_rfl) rfl rfl) ?_
 refine omv ?_
 refine oy rfl rfl ?_
 refine omv ?_
 refine oy rfl rfl ?_
 refine ov (V_eqlP (by kernel_rfl) rfl rfl) ?_
 refine ov (V_pick_f rfl rfl rfl) ?_
 refine nq ?_
 refine W.cond_false rfl rfl ?_
 refine W.skip ?_
 refine WQ.then ?_
 refine sr ?_
 refine omv ?_
 refine ov (vbI 32 .u8 1 [1]) ?_
 refine cgG rfl (fun w hp => made24_calls k1 rfl hkb 3 4 5 6 hM w) (fun o29 h29 => ?_)
 refine cgP _ rfl (fun w hp => in24_md k1 ({ r17.1 with K := b11 } : MA) r17.2 hk0 rfl hkb 3 4 5 6 7 hM o29 h29 0 (inE_new hM hw7 (by rw [hq0]; simp) (hb0.j 3) (by rw [hs0]; rfl) (by rw [hq0]; decide)) w (HP.here hp cov) (fun w1 M h1 => Sr.pastP hp h1 (hs := fun w hp => HP.sgr hp dell (by simp [(hM).len]) h29 iv_one))) (fun r30 h30 => ?_)
 simp only [List.cons_append, List.nil_append, List.append_nil, List.append_assoc]
 obtain ⟨hk1, hd1, hg1, hs1, hj1, -, -, hq1⟩ := h30
 rw [hq0] at hq1
 have hi1 : ridx (qs r30) 3 = some 0 := by rw [hq1]; rfl
 refine omv ?_
 refine ov vex ?_
 refine ov vex ?_
 refine oas ?_
 refine oas ?_
 refine nx ?_
 refine omv ?_
 refine ov (vbI 32 .u8 1 [1]) ?_
 refine cgG rfl (fun w hp => made24_calls k1 rfl hkb 3 4 5 6 hM w) (fun o36 h36 => ?_)
 refine cgP _ rfl (fun w hp => in24_md k1 ({ r17.1 with K := b11 } : MA) r30 hk1 rfl hkb 3 4 5 6 7 hM o36 h36 9 (inE_here hM hw7 hi1) w (HP.here hp cov) (fun w1 M h1 => Sr.pastP hp h1 (hs := fun w hp => HP.sgr hp dell (by simp [(hM).len]) h36 iv_one))) (fun r37 h37 => ?_)
 simp only [List.cons_append, List.nil_append, List.append_nil, List.append_assoc]
 obtain ⟨hk2, hd2, hg2, hs2, hj2, -, -, hq2⟩ := h37
 have hq3 : qs r37 = [mdA k1 3 4 5 6] := by rw [hq2, hq1]; rfl
 have hi2 : ridx (qs r37) 3 = some 0 := by rw [hq3]; rfl
 have hs3 : r37.S = ⟨[], 0⟩ := by rw [hs2, hs1, hs0]
 have hg3 : r37.g = r17.2.g := by rw [hg2, hg1]
 have hd3 : r37.D = newD 8 := by rw [hd2, hd1, hb0.d]
 have hv2 : LV r37.D r37.g r37.S 8 := by rw [hd3, hg3, hs3, ← hS0]; exact hv0
 refine omv ?_
 refine ov vex ?_
 refine ov vex ?_
 refine oas ?_
 refine oas ?_
 refine nx ?_
 refine omv ?_
 refine cgP _ rfl (fun w hp => juS_md k1 ({ r17.1 with K := b11 } : MA) r37 hk2 8 hv2 3 4 5 6 8 hM 0 hi2 (by rw [hq3]; rfl) (by omega) (by rw [hs3]; rfl) (by rw [hg3]; omega) (by rw [hs3]; decide) w (HP.here hp cov)) (fun r41 h41 => ?_)
 simp only [List.cons_append, List.nil_append, List.append_nil, List.append_assoc]
 obtain ⟨hk4, hj4⟩ := h41
 have hs4 : r41.S = S3w := by rw [hj4.s, hs3]; rfl
 have hq4 : qs r41 = [] := by rw [hj4.q, hq3]; rfl
 refine oas ?_
 refine nx ?_
 refine omv ?_
 refine ov (v2 V_eql) ?_
 refine omv ?_
 refine oy rfl (by decide) ?_
 refine omv ?_
 refine oy rfl (by decide) ?_
 refine ov (v2 V_eql) ?_
 refine ov (V_pick_t rfl (by decide) rfl) ?_
 refine omv ?_
 refine oy rfl (by decide) ?_
 refine omv ?_
 refine oy rfl (by decide) ?_
 refine ov (v2 V_eql) ?_
 refine ov (V_pick_t rfl (by decide) rfl) ?_
 refine omv ?_
 refine oy rfl (by decide) ?_
 refine omv ?_
 refine oy rfl (by decide) ?_
 refine ov (v2 V_eql) ?_
 refine ov (V_pick_t rfl (by decide) rfl) ?_
 refine omv ?_
 refine oy rfl (by decide) ?_
 refine omv ?_
 refine oy rfl (by decide) ?_
 refine cgP (ι := Unit) (A := fun _ => True) (V := fun _ => .int .i64 (cnt r41.S.m 4 8 : Nat)) (M := fun _ => mwL k1 ({ r17.1 with K := b11 } : MA) r41) _ rfl (fun w hp => (count_w k1 ({ r17.1 with K := b11 } : MA) r41 hk4 (by rw [hs4]; decide) 4 8 (by omega) w (HP.here hp cov)).mono fun e w' h => ⟨(), trivial, h⟩) (fun _ _ => ?_)
 simp only [List.cons_append, List.nil_append, List.append_nil, List.append_assoc]
 rw [hs4]
 refine oy rfl (by decide) ?_
 refine ov (v2 V_eql) ?_
 refine ov (V_pick_t rfl (by decide) rfl) ?_
 refine omv ?_
 refine oy rfl (by decide) ?_
 refine omv ?_
 refine oy rfl (by decide) ?_
 refine cgP (ι := Unit) (A := fun _ => True) (V := fun _ => .int .i64 7) (M := fun _ => mwL k1 ({ r17.1 with K := b11 } : MA) r41) _ rfl (fun w hp => (juN_w k1 ({ r17.1 with K := b11 } : MA) r41 hk4 3 1 8 (.inl rfl) (by rw [hq4]; rfl) w (HP.here hp cov)).mono fun e w' h => ⟨(), trivial, h⟩) (fun _ _ => ?_)
 simp only [List.cons_append, List.nil_append, List.append_nil, List.append_assoc]
 refine oy rfl (by decide) ?_
 refine ov (v2 V_eql) ?_
 refine ov (V_pick_t rfl (by decide) rfl) ?_
 refine oas ?_
 refine nq ?_
 refine W.ret ?_
 refine WQ.ret1 Tryz.results6 (.tmp rfl) ?_
 intro w' hp; exact ⟨rfl, hp.forget⟩

end Go.Proofs.YtmeckbjinmgbbaaGreat