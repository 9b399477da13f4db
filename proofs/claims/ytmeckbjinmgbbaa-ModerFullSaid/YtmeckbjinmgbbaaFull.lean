/- ModerFull: its walk. -/
import Derived.Test.YtmeckbjinmgbbaaMod9
set_option linter.unusedVariables false
set_option linter.unusedSimpArgs false

namespace Go.Proofs.Ytmeckbjinmgbbaa
open Go.X
theorem mdi {i : Int} (h : 0 ≤ i) (h2 : i ≤ 1000000) : MdOK i 4 5 6 := ⟨⟨h, h2⟩, by decide, by decide, rfl⟩
/-- Reports made of the numbers from a to b. -/
def mds (rl : List Int) (a b : Nat) : List AR := (List.range' a (b - a)).map fun k : Nat => mdA rl (k : Int) 4 5 6
theorem mds_len {rl : List Int} {a b : Nat} : (mds rl a b).length = b - a := by simp [mds]
theorem mds_id {rl : List Int} {a b : Nat} {x : AR} (h : x ∈ mds rl a b) : ∃ k : Nat, x = mdA rl (k : Int) 4 5 6 ∧ a ≤ k ∧ k < b := by
  obtain ⟨k, hk, rfl⟩ := List.mem_map.1 h
  rw [List.mem_range'] at hk
  obtain ⟨i, hi, rfl⟩ := hk
  exact ⟨_, rfl, by omega, by omega⟩
theorem mds_no {rl : List Int} {a b : Nat} {i : Int} (h : i < a ∨ (b : Int) ≤ i) : ∀ x ∈ mds rl a b, x.id ≠ i := fun x hx => by
  obtain ⟨k, rfl, h1, h2⟩ := mds_id hx
  show (k : Int) ≠ i
  omega
theorem mds_snoc {rl : List Int} {b : Nat} : mds rl 0 b ++ [mdA rl (b : Int) 4 5 6] = mds rl 0 (b + 1) := by
  unfold mds
  rw [Nat.sub_zero, Nat.sub_zero, List.range'_1_concat, List.map_append]; simp
theorem mds_cons {rl : List Int} {a b : Nat} (h : a < b) : mds rl a b = mdA rl (a : Int) 4 5 6 :: mds rl (a + 1) b := by
  unfold mds
  obtain ⟨k, hk⟩ : ∃ k, b - a = k + 1 := ⟨b - a - 1, by omega⟩
  rw [hk, show b - (a + 1) = k by omega, List.range'_succ]; rfl
theorem mds_none {rl : List Int} {a : Nat} : mds rl a a = [] := by unfold mds; simp
/-- Reports are taken in. -/
structure F1 (rl : List Int) (x : MW) (i : Nat) : Prop where
  ok : MOK rl x
  lv : LV x.D x.g x.S 64
  g : x.g.rs.length = 0
  s : x.S = ⟨[], 0⟩
  j : ∀ y, jB x.J y = false
  q : qs x = mds rl 0 (min i 8)
theorem F1.new {rl : List Int} {x : MW} (hk : MOK rl x) (hb : Bg (newD 64) x) : F1 rl x 0 := by
  obtain ⟨hv0, hS0, hn0⟩ := LV.new (n := 64) (g := x.g) (by omega) (by omega) hk.g hb.l
  have hs : x.S = ⟨[], 0⟩ := hb.s.trans hS0
  exact ⟨hk, by rw [hb.d, hb.s]; exact hv0, hn0, hs, hb.j, by rw [hb.q]; exact mds_none.symm⟩
theorem F1.len {rl : List Int} {x : MW} {i : Nat} (h : F1 rl x i) : (qs x).length = min i 8 := by rw [h.q, mds_len]; omega
theorem F1.yes {rl : List Int} {x r : MW} {i : Nat} (h : F1 rl x i) (hi : i < 8) (hk : MOK rl r) (hr : InR 0 (mdA rl (i : Int) 4 5 6) x r) : F1 rl r (i + 1) := by
  obtain ⟨h1, h2, h3, h4, h5, h6, h7⟩ := hr
  refine ⟨hk, by rw [h1, h2, h3]; exact h.lv, by rw [h2]; exact h.g, h3.trans h.s, by rw [h4]; exact h.j, ?_⟩
  rw [h7, h.q, show min i 8 = i by omega, show min (i + 1) 8 = i + 1 by omega]
  exact mds_snoc
theorem F1.no {rl : List Int} {x r : MW} {i : Nat} (h : F1 rl x i) (hi : ¬ i < 8) (hk : MOK rl r) (hr : InR 8 (mdA rl (i : Int) 4 5 6) x r) : F1 rl r (i + 1) := by
  obtain ⟨h1, h2, h3, h4, h5, h6, h7⟩ := hr
  refine ⟨hk, by rw [h1, h2, h3]; exact h.lv, by rw [h2]; exact h.g, h3.trans h.s, by rw [h4]; exact h.j, ?_⟩
  rw [h7, show inQ 8 (mdA rl (i : Int) 4 5 6) (qs x) = qs x from rfl, h.q, show min i 8 = min (i + 1) 8 by omega]
theorem F1.e {rl : List Int} {x : MW} {i : Nat} (h : F1 rl x i) (hi : i < 8) : inE rl (mdA rl (i : Int) 4 5 6) 7 (qs x) (jB x.J) x.S = 0 :=
  inE_new (mdi (by omega) (by omega)) ⟨rfl, by decide, by decide⟩ (by rw [h.q]; exact mds_no (.inr (by omega))) (h.j _) (by rw [h.s]; rfl) (by rw [h.len]; omega)
theorem F1.e8 {rl : List Int} {x : MW} {i : Nat} (h : F1 rl x i) (hi : ¬ i < 8) (hi2 : i ≤ 14) : inE rl (mdA rl (i : Int) 4 5 6) 7 (qs x) (jB x.J) x.S = 8 :=
  inE_room (mdi (by omega) (by omega)) ⟨rfl, by decide, by decide⟩ (by rw [h.q]; exact mds_no (.inr (by omega))) (h.j _) (by rw [h.s]; rfl) (by rw [h.len]; omega)
/-- Reports are judged. -/
structure F2 (rl : List Int) (x : MW) (m k s : Nat) : Prop where
  ok : MOK rl x
  lv : LV x.D x.g x.S 64
  g : x.g.rs.length = s
  sk : s ≤ k
  sn : ∀ y : Int, (k : Int) ≤ y → x.S.get y = none
  c : cnt x.S.m 4 9 = s
  sl : x.S.m.length ≤ k
  j : ∀ y : Int, jB x.J y = decide (0 ≤ y ∧ y < k)
  q : qs x = mds rl k m
theorem F1.judge {rl : List Int} {x : MW} {i : Nat} (h : F1 rl x i) : F2 rl x (min i 8) 0 0 :=
  ⟨h.ok, h.lv, h.g, by omega, fun y _ => by rw [h.s]; rfl, by rw [h.s]; rfl, by rw [h.s]; exact Nat.le_refl _, fun y => by rw [h.j]; exact (decide_eq_false (by omega)).symm, h.q⟩
section
variable {rl : List Int} {x r : MW} {m k s : Nat} (h : F2 rl x m k s) (hk : k < m)
include h hk
theorem F2.at0 : ridx (qs x) (k : Int) = some 0 ∧ (qs x)[0]? = some (mdA rl (k : Int) 4 5 6) := by
  rw [h.q, mds_cons hk]
  exact ⟨if_pos rfl, rfl⟩
theorem F2.tl : (qs x).take 0 ++ (qs x).drop (0 + 1) = mds rl (k + 1) m := by rw [h.q, mds_cons hk]; rfl
theorem F2.jn (hj : ∀ y, jB r.J y = if (k : Int) = y then true else jB x.J y) : ∀ y : Int, jB r.J y = decide (0 ≤ y ∧ y < (k + 1 : Nat)) := fun y => by
  have _ := hk
  rw [hj y, h.j y]
  by_cases e : (k : Int) = y
  · rw [if_pos e]; exact (decide_eq_true (by omega)).symm
  · rw [if_neg e]; exact decide_eq_decide.2 (by omega)
theorem F2.strike (ho : MOK rl r) (hr : JD x r (k : Int) 4 9 0 64) : F2 rl r m (k + 1) (s + 1) := by
  have hn := h.sn k (by omega)
  refine ⟨ho, hr.lv, by rw [hr.g, h.g], by have := h.sk; omega, fun y hy => ?_, ?_, ?_, h.jn hk hr.j, by rw [hr.q]; exact h.tl hk⟩
  · rw [hr.s, LS.get_put, if_neg (by omega)]; exact h.sn y (by omega)
  · rw [hr.s, cnt_new hn, h.c]; rfl
  · rw [hr.s]; have := put_len (S := x.S) (i := (k : Int)) (s := ⟨4, 9, false⟩); have := h.sl; omega
theorem F2.clear (ho : MOK rl r) (hr : JuR (.inl 0) 0 (k : Int) 0 x r) : F2 rl r m (k + 1) s := by
  obtain ⟨-, -, h3, h4⟩ := h.lv.same (q := .inl 0) rfl hr.g
  have hS : r.S = x.S := hr.s
  refine ⟨ho, by rw [hr.d, hS]; exact h3, h4.trans h.g, by have := h.sk; omega, fun y hy => by rw [hS]; exact h.sn y (by omega), by rw [hS]; exact h.c, by rw [hS]; have := h.sl; omega, h.jn hk fun y => by rw [hr.j y]; simp, ?_⟩
  rw [hr.q, show juL 0 0 (qs x) = (qs x).take 0 ++ (qs x).drop (0 + 1) from if_pos rfl]; exact h.tl hk
theorem F2.no : ridx (mds rl (k + 1) m) (k : Int) = none := by
  have _ := h.sk
  have _ := hk
  exact ridx_no (mds_no (.inl (by omega)))
end
theorem F2.e9 {rl : List Int} {x : MW} {m s : Nat} (h : F2 rl x m m s) (hm : m ≤ 8) : inE rl (mdA rl 9 4 5 6) 7 (qs x) (jB x.J) x.S = 0 :=
  inE_new (mdi (by omega) (by omega)) ⟨rfl, by decide, by decide⟩ (by rw [h.q, mds_none]; simp) (by rw [h.j]; exact decide_eq_false (by omega)) (h.sn 9 (by omega)) (by rw [h.q, mds_none]; decide)
theorem F2.e0 {rl : List Int} {x r : MW} {m s : Nat} (h : F2 rl x m m s) (hm : m ≤ 8) (hr : InR 0 (mdA rl 9 4 5 6) x r) : inE rl (mdA rl 0 4 5 6) 7 (qs r) (jB r.J) r.S = if m = 0 then 0 else 9 := by
  obtain ⟨h1, h2, h3, h4, h5, h6, h7⟩ := hr
  split
  · rename_i e
    subst e
    refine inE_new (mdi (by omega) (by omega)) ⟨rfl, by decide, by decide⟩ ?_ (by rw [h4, h.j]; exact decide_eq_false (by omega)) (by rw [h3]; exact h.sn 0 (by omega)) ?_
    · rw [h7, h.q, mds_none]; intro a ha; rw [List.mem_singleton.1 ha]; exact (show (9 : Int) ≠ 0 by decide)
    · rw [h7, h.q, mds_none]; exact (show (1 : Nat) < 8 by decide)
  · exact inE_judged (mdi (by omega) (by omega)) ⟨rfl, by decide, by decide⟩ (by rw [h4, h.j]; exact decide_eq_true (by omega))
theorem F2.last {rl : List Int} {x r r' : MW} {m s : Nat} {e : Int} {a : AR} (h : F2 rl x m m s) (hr : InR 0 (mdA rl 9 4 5 6) x r) (hr' : InR e a r r') : r'.S = x.S ∧ 1 ≤ (qs r').length := by
  obtain ⟨-, -, h3, -, -, -, h7⟩ := hr
  obtain ⟨-, -, g3, -, -, -, g7⟩ := hr'
  refine ⟨g3.trans h3, ?_⟩
  rw [g7, h7]
  unfold inQ
  split <;> simp

set_option maxHeartbeats 1000000 in
theorem moderFull_calls (l0 : List Int) (e0 : l0.length = 32) (hb0 : bytes l0) (a1 : Int) (A : Option Addr) (n2 cap : Nat) (z : List Bool) (hz : z.length = n2) (w : World) (hs : SrW w 1 A n2 (bv z)) :
    Calls Try.prog 10 [AG [(32, iv .u8 l0)], .int .i64 a1, .slice A n2 cap].toArray w fun e w' => e = .returned (.bool true) ∧ HP w w' [] [] := by
 have k0 := newD_ok (n := 64) (by omega) (by omega)
 have hM9 : MdOK 9 4 5 6 := mdi (by omega) (by omega)
 have hM0 : MdOK 0 4 5 6 := mdi (by omega) (by omega)
 refine calls_of_W Try.func10 rfl Try.ntmps10 rfl rfl (HP.refl w []) ?_
 refine sr ?_
 refine obxa (fun b3 => ?_)
 refine oas ?_
 refine nx ?_
 refine cp rfl (fun w hp => awake24_calls w) ?_
 refine oas ?_
 refine nx ?_
 refine cg rfl (fun w hp => new21_calls 64 (by omega) (by omega) w) (fun b25 h25 => ?_)
 refine omv ?_
 refine ov vex ?_
 refine ov vex ?_
 refine oas ?_
 refine oas ?_
 refine nx ?_
 refine ov (vlda 32) ?_
 refine omv ?_
 refine cgP _ rfl (fun w hp => begun24_calls l0 e0 b25 (newD 64) k0 w (HP.here hp cov)) (fun r31 h31 => ?_)
 simp only [List.cons_append, List.nil_append, List.append_nil, List.append_assoc]
 refine omv ?_
 refine ov vex ?_
 refine ov vex ?_
 refine oas ?_
 refine oas ?_
 refine nq ?_
 refine W.seq ?_
 refine W.seq ?_
 by_cases c1 : a1 < 0
 · refine W.region ?_
   refine omv ?_
   refine ov (V_eqlP (by kernel_rfl) rfl rfl) ?_
   refine omv ?_
   refine oy rfl rfl ?_
   refine omv ?_
   refine oy rfl rfl ?_
   refine ov (V_eqlP (by kernel_rfl) rfl rfl) ?_
   refine ov (V_pick_f rfl rfl rfl) ?_
   refine omv ?_
   refine oy rfl rfl ?_
   refine omv ?_
   refine oy rfl rfl ?_
   refine ov (v2 V_lss) ?_
   refine ov (V_pick_f rfl rfl rfl) ?_
   refine omv ?_
   refine on rfl (decide_eq_true c1) ?_
   refine on rfl (decide_eq_true c1) ?_
   refine ov (V_pick_t rfl (decide_eq_true c1) rfl) ?_
   refine nq ?_
   refine W.cond_true rfl rfl ?_
   refine sr ?_
   refine omv ?_
   refine omv ?_
   refine oy rfl rfl ?_
   refine omv ?_
   refine oy rfl rfl ?_
   refine ov (V_neqP (by kernel_rfl) rfl rfl) ?_
   refine ov (V_pick_t rfl rfl rfl) ?_
   refine oas ?_
   refine nq ?_
   refine W.ret ?_
   refine WQ.then_ret ?_
   refine WQ.ret1 Try.results10 (.tmp rfl) ?_
   intro w' hp; exact ⟨by first | rfl | (simp; done) | (simp; omega), hp.forget⟩
 · by_cases c2 : 14 < a1
   · refine W.region ?_
     refine omv ?_
     refine ov (V_eqlP (by kernel_rfl) rfl rfl) ?_
     refine omv ?_
     refine oy rfl rfl ?_
     refine omv ?_
     refine oy rfl rfl ?_
     refine ov (V_eqlP (by kernel_rfl) rfl rfl) ?_
     refine ov (V_pick_f rfl rfl rfl) ?_
     refine omv ?_
     refine oy rfl rfl ?_
     refine omv ?_
     refine oy rfl rfl ?_
     refine ov (v2 V_lss) ?_
     refine ov (V_pick_f rfl rfl rfl) ?_
     refine omv ?_
     refine oy rfl (decide_eq_false c1) ?_
     refine omv ?_
     refine oy rfl (decide_eq_false c1) ?_
     refine ov (v2 V_gtr) ?_
     refine ov (V_pick_f rfl (decide_eq_false c1) rfl) ?_
     refine nq ?_
     refine W.cond_true rfl (decide_eq_true c2) ?_
     refine sr ?_
     refine omv ?_
     refine omv ?_
     refine oy rfl rfl ?_
     refine omv ?_
     refine oy rfl rfl ?_
     refine ov (V_neqP (by kernel_rfl) rfl rfl) ?_
     refine ov (V_pick_t rfl rfl rfl) ?_
     refine oas ?_
     refine nq ?_
     refine W.ret ?_
     refine WQ.then_ret ?_
     refine WQ.ret1 Try.results10 (.tmp rfl) ?_
     intro w' hp; exact ⟨by first | rfl | (simp; done) | (simp; omega), hp.forget⟩
   · refine W.region ?_
     refine omv ?_
     refine ov (V_eqlP (by kernel_rfl) rfl rfl) ?_
     refine omv ?_
     refine oy rfl rfl ?_
     refine omv ?_
     refine oy rfl rfl ?_
     refine ov (V_eqlP (by kernel_rfl) rfl rfl) ?_
     refine ov (V_pick_f rfl rfl rfl) ?_
     refine omv ?_
     refine oy rfl rfl ?_
     refine omv ?_
     refine oy rfl rfl ?_
     refine ov (v2 V_lss) ?_
     refine ov (V_pick_f rfl rfl rfl) ?_
     refine omv ?_
     refine oy rfl (decide_eq_false c1) ?_
     refine omv ?_
     refine oy rfl (decide_eq_false c1) ?_
     refine ov (v2 V_gtr) ?_
     refine ov (V_pick_f rfl (decide_eq_false c1) rfl) ?_
     refine nq ?_
     refine W.cond_false rfl (decide_eq_false c2) ?_
     refine W.skip ?_
     refine WQ.then ?_
     refine W.seq ?_
     refine W.seq ?_
     obtain ⟨n, rfl⟩ : ∃ n : Nat, a1 = n := ⟨a1.toNat, by omega⟩
     refine W.region ?_
     refine oas ?_
     refine nq ?_
     refine W.block ?_
     -- LOOP 0
     refine W.pick (S' := [(12, _), (0, _), (1, _), (2, _), (3, _), (6, _), (7, _), (8, _), (10, _), (11, _), (47, _)]) [12, 0, 1, 2, 3, 6, 7, 8, 10, 11, 47] rfl ?_
     refine W.loopG (σ := Nat × MW) (fun ⟨i, x⟩ => i ≤ n ∧ F1 l0 x i) (fun ⟨i, x⟩ => [(12, .int .i64 (i : Nat))]) (fun ⟨i, x⟩ => []) [(b3, _)] (fun ⟨i, x⟩ => mwL l0 ({ r31.1 with K := b25 } : MA) x) (fun ⟨i, x⟩ => n - i) (0, r31.2) rfl cov ⟨Nat.zero_le _, F1.new h31.1 h31.2⟩ ?_
     rintro ⟨i, x⟩ ⟨hi, hF⟩; dsimp only at hi hF ⊢
     refine W.seq ?_
     refine sr ?_
     refine omv ?_
     refine omv ?_
     refine ov (v2 V_lss) ?_
     refine nq ?_
     refine W.cond_dec rfl (fun g1 => ?_) (fun g1 => ?_)
     · refine W.skip ?_
       refine WQ.then ?_
       refine W.seq ?_
       refine W.block ?_
       refine W.seq ?_
       by_cases c3 : i < 8
       · have hMi : MdOK (i : Int) 4 5 6 := mdi (by omega) (by omega)
         refine W.region ?_
         refine omv ?_
         refine ov (vlda 32) ?_
         refine omv ?_
         refine cgG rfl (fun w hp => made24_calls l0 e0 hb0 (i : Int) 4 5 6 (mdi (by omega) (by omega)) w) (fun o62 h62 => ?_)
         refine cgP _ rfl (fun w hp => in24_md l0 ({ r31.1 with K := b25 } : MA) x hF.ok e0 hb0 (i : Int) 4 5 6 7 hMi o62 h62 0 (hF.e c3) w (HP.here hp cov) (fun w1 M h1 => Sr.pastP hp h1 (hs := fun w hp => HP.sgr hp dell (by simp [(hMi).len]) h62 iv_one))) (fun r63 h63 => ?_)
         simp only [List.cons_append, List.nil_append, List.append_nil, List.append_assoc]
         refine WL.back (mwL l0 ({ r31.1 with K := b25 } : MA) r63) ?_
         simp only [List.cons_append, List.nil_append, List.append_nil, List.append_assoc]
         have hF2 := hF.yes c3 h63.1 h63.2
         have hq2 := hF2.len
         refine omv ?_
         refine ov vex ?_
         refine ov vex ?_
         refine oas ?_
         refine oas ?_
         refine nx ?_
         refine oas ?_
         refine nq ?_
         refine W.seq ?_
         refine sr ?_
         refine omv ?_
         refine ov (v2 V_geq) ?_
         refine nq ?_
         refine W.cond_false rfl (decide_eq_false (by omega)) ?_
         refine W.skip ?_
         refine WQ.then ?_
         refine sr ?_
         refine omv ?_
         refine omv ?_
         refine ov (v2 V_neq) ?_
         refine omv ?_
         refine oy rfl (by decide) ?_
         refine omv ?_
         refine oy rfl (by decide) ?_
         refine cg rfl (fun w hp => queue_w l0 ({ r31.1 with K := b25 } : MA) r63 hF2.ok w hp) (fun b73 h73 => ?_)
         simp only [List.cons_append, List.nil_append, List.append_nil, List.append_assoc]
         refine WL.back (gLM 103 b73.1 (qs r63).length (b73.2.flatMap rlV) 151) ?_
         refine WL.back (b73.2.flatMap rbL) ?_
         simp only [List.cons_append, List.nil_append, List.append_nil, List.append_assoc]
         refine oy rfl (by decide) ?_
         refine ov vlenS ?_
         refine oy rfl (by decide) ?_
         refine omv ?_
         refine oy rfl (by decide) ?_
         first | refine ov vaddN ?_ | refine ov vadd ?_
         refine oy rfl (by decide) ?_
         refine ov (V_min rfl) ?_
         refine oy rfl (by decide) ?_
         refine ov (v2 V_neq) ?_
         refine ov (V_pick_f rfl (by decide) rfl) ?_
         refine nq ?_
         refine W.cond_false rfl (decide_eq_false (by omega)) ?_
         refine W.skip ?_
         refine WQ.block_normal ?_
         refine WQ.then ?_
         refine W.region ?_
         refine omv ?_
         first | refine ov vaddN ?_ | refine ov vadd ?_
         refine oas ?_
         refine WL.nil ?_
         exact ag ((i + 1, r63)) [12, 0, 1, 2, 3, 6, 7, 8, 10, 11, 47] (by (try dsimp only); exact ⟨by omega, hF2⟩) (by (try dsimp only); omega) rfl cov
       · have hMi : MdOK (i : Int) 4 5 6 := mdi (by omega) (by omega)
         refine W.region ?_
         refine omv ?_
         refine ov (vlda 32) ?_
         refine omv ?_
         refine cgG rfl (fun w hp => made24_calls l0 e0 hb0 (i : Int) 4 5 6 (mdi (by omega) (by omega)) w) (fun o62 h62 => ?_)
         refine cgP _ rfl (fun w hp => in24_md l0 ({ r31.1 with K := b25 } : MA) x hF.ok e0 hb0 (i : Int) 4 5 6 7 hMi o62 h62 8 (hF.e8 c3 (by omega)) w (HP.here hp cov) (fun w1 M h1 => Sr.pastP hp h1 (hs := fun w hp => HP.sgr hp dell (by simp [(hMi).len]) h62 iv_one))) (fun r63 h63 => ?_)
         simp only [List.cons_append, List.nil_append, List.append_nil, List.append_assoc]
         refine WL.back (mwL l0 ({ r31.1 with K := b25 } : MA) r63) ?_
         simp only [List.cons_append, List.nil_append, List.append_nil, List.append_assoc]
         have hF2 := hF.no c3 h63.1 h63.2
         have hq2 := hF2.len
         refine omv ?_
         refine ov vex ?_
         refine ov vex ?_
         refine oas ?_
         refine oas ?_
         refine nx ?_
         refine oas ?_
         refine nq ?_
         refine W.seq ?_
         refine sr ?_
         refine omv ?_
         refine ov (v2 V_geq) ?_
         refine nq ?_
         refine W.cond_true rfl (decide_eq_true (by omega)) ?_
         refine W.region ?_
         refine oas ?_
         refine nx ?_
         refine omv ?_
         refine omv ?_
         refine ov (v2 V_neq) ?_
         refine omv ?_
         refine oy rfl (by decide) ?_
         refine omv ?_
         refine oy rfl (by decide) ?_
         refine cg rfl (fun w hp => queue_w l0 ({ r31.1 with K := b25 } : MA) r63 hF2.ok w hp) (fun b73 h73 => ?_)
         simp only [List.cons_append, List.nil_append, List.append_nil, List.append_assoc]
         refine WL.back (gLM 103 b73.1 (qs r63).length (b73.2.flatMap rlV) 151) ?_
         refine WL.back (b73.2.flatMap rbL) ?_
         simp only [List.cons_append, List.nil_append, List.append_nil, List.append_assoc]
         refine oy rfl (by decide) ?_
         refine ov vlenS ?_
         refine oy rfl (by decide) ?_
         refine omv ?_
         refine oy rfl (by decide) ?_
         first | refine ov vaddN ?_ | refine ov vadd ?_
         refine oy rfl (by decide) ?_
         refine ov (V_min rfl) ?_
         refine oy rfl (by decide) ?_
         refine ov (v2 V_neq) ?_
         refine ov (V_pick_f rfl (by decide) rfl) ?_
         refine nq ?_
         refine W.cond_false rfl (decide_eq_false (by omega)) ?_
         refine W.skip ?_
         refine WQ.block_normal ?_
         refine WQ.then ?_
         refine W.region ?_
         refine omv ?_
         first | refine ov vaddN ?_ | refine ov vadd ?_
         refine oas ?_
         refine WL.nil ?_
         exact ag ((i + 1, r63)) [12, 0, 1, 2, 3, 6, 7, 8, 10, 11, 47] (by (try dsimp only); exact ⟨by omega, hF2⟩) (by (try dsimp only); omega) rfl cov
     · refine W.exit ?_
       refine WQ.then_exit ?_
       refine WQ.then_exit ?_
       refine WQ.block_hit ?_
       refine WQ.then ?_
       refine W.seq ?_
       obtain rfl : i = n := by omega
       refine W.region ?_
       refine oas ?_
       refine nq ?_
       refine W.seq ?_
       refine sr ?_
       refine oas ?_
       refine nq ?_
       refine W.block ?_
       -- LOOP 1
       refine W.pick (S' := [(16, _), (17, _), (0, _), (1, _), (2, _), (3, _), (6, _), (7, _), (8, _), (10, _), (11, _), (12, _), (47, _), (55, _)]) [16, 17, 0, 1, 2, 3, 6, 7, 8, 10, 11, 12, 47, 55] rfl ?_
       refine W.loopG (σ := Nat × Nat × MW) (fun ⟨k, s, x⟩ => k ≤ min i 8 ∧ F2 l0 x (min i 8) k s) (fun ⟨k, s, x⟩ => [(16, .int .i64 (s : Nat)), (17, .int .i64 (k : Nat))]) (fun ⟨k, s, x⟩ => []) [(b3, _)] (fun ⟨k, s, x⟩ => mwL l0 ({ r31.1 with K := b25 } : MA) x) (fun ⟨k, s, x⟩ => min i 8 - k) (0, 0, x) rfl cov ⟨Nat.zero_le _, hF.judge⟩ ?_
       rintro ⟨k, s, x⟩ ⟨hi, hF⟩; dsimp only at hi hF ⊢
       have hsk := hF.sk
       refine W.seq ?_
       refine sr ?_
       refine omv ?_
       refine omv ?_
       refine ov (V_min rfl) ?_
       refine ov (v2 V_lss) ?_
       refine nq ?_
       refine W.cond_dec rfl (fun g2 => ?_) (fun g2 => ?_)
       · refine W.skip ?_
         refine WQ.then ?_
         refine W.seq ?_
         refine W.block ?_
         refine sr ?_
         refine oas ?_
         refine nq ?_
         refine W.seq ?_
         refine W.seq ?_
         by_cases c4 : k < n2
         · refine W.region ?_
           refine omv ?_
           refine omv ?_
           refine ov vlenS ?_
           refine ov (v2 V_geq) ?_
           refine omv ?_
           refine oy rfl (decide_eq_false (by omega)) ?_
           refine omv ?_
           refine oy rfl (decide_eq_false (by omega)) ?_
           refine omv ?_
           obtain ⟨bbA, ooA, rfl⟩ := hs.hasN sc
           refine oy rfl (decide_eq_false (by omega)) ?_
           first | refine ov viS1 ?_ | refine ov viS1Z ?_
           refine oy rfl (decide_eq_false (by omega)) ?_
           refine ov ((V_loadSr (v := .bool (z.getD k false)) (fun w hp => hs.old0 w hp) rfl (by kernel_rfl) rfl rfl (bv_get (by omega)))) ?_
           refine oy rfl (decide_eq_false (by omega)) ?_
           refine ov vnot ?_
           refine ov (V_pick_f rfl (decide_eq_false (by omega)) rfl) ?_
           refine nq ?_
           refine W.cond rfl (fun g3 => ?_) (fun g3 => ?_)
           · refine W.seq ?_
             refine W.region ?_
             refine oas ?_
             refine nq ?_
             refine W.region ?_
             refine omv ?_
             first | refine ov vaddN ?_ | refine ov vadd ?_
             refine oas ?_
             refine nx ?_
             refine omv ?_
             refine omv ?_
             refine omv ?_
             refine cgP _ rfl (fun w hp => juS_md l0 ({ r31.1 with K := b25 } : MA) x hF.ok 64 hF.lv (k : Int) 4 5 6 9 (mdi (by omega) (by omega)) 0 (hF.at0 (by omega)).1 (hF.at0 (by omega)).2 (by omega) (hF.sn _ (by omega)) (by have := hF.g; have := hF.sk; omega) (by have := hF.sl; omega) w (HP.here hp cov)) (fun r102 h102 => ?_)
             simp only [List.cons_append, List.nil_append, List.append_nil, List.append_assoc]
             refine WL.back (mwL l0 ({ r31.1 with K := b25 } : MA) r102) ?_
             simp only [List.cons_append, List.nil_append, List.append_nil, List.append_assoc]
             have hF2 := hF.strike (by omega) h102.1 h102.2
             refine ov (v2 V_neq) ?_
             refine omv ?_
             refine oy rfl (by decide) ?_
             refine omv ?_
             refine oy rfl (by decide) ?_
             refine omv ?_
             refine oy rfl (by decide) ?_
             refine omv ?_
             refine oy rfl (by decide) ?_
             refine cgP (ι := Unit) (A := fun _ => True) (V := fun _ => .int .i64 7) (M := fun _ => mwL l0 ({ r31.1 with K := b25 } : MA) r102) _ rfl (fun w hp => (juN_w l0 ({ r31.1 with K := b25 } : MA) r102 hF2.ok (k : Int) 1 9 (by decide) (by rw [hF2.q]; exact hF.no (by omega)) w (HP.here hp cov)).mono fun e w' h => ⟨(), trivial, h⟩) (fun _ _ => ?_)
             simp only [List.cons_append, List.nil_append, List.append_nil, List.append_assoc]
             refine WL.back (mwL l0 ({ r31.1 with K := b25 } : MA) r102) ?_
             simp only [List.cons_append, List.nil_append, List.append_nil, List.append_assoc]
             refine oy rfl (by decide) ?_
             refine ov (v2 V_neq) ?_
             refine ov (V_pick_f rfl (by decide) rfl) ?_
             refine nq ?_
             refine W.cond_false rfl (by decide) ?_
             refine W.skip ?_
             refine WQ.block_normal ?_
             refine WQ.then ?_
             refine W.region ?_
             refine omv ?_
             first | refine ov vaddN ?_ | refine ov vadd ?_
             refine oas ?_
             refine WL.nil ?_
             exact ag ((k + 1, s + 1, r102)) [16, 17, 0, 1, 2, 3, 6, 7, 8, 10, 11, 12, 47, 55] (by (try dsimp only); exact ⟨by omega, hF2⟩) (by (try dsimp only); omega) rfl cov
           · refine W.skip ?_
             refine WQ.then ?_
             refine sr ?_
             refine omv ?_
             refine omv ?_
             refine omv ?_
             refine cgP _ rfl (fun w hp => juC_w l0 ({ r31.1 with K := b25 } : MA) x hF.ok (k : Int) 9 0 (hF.at0 (by omega)).1 w (HP.here hp cov)) (fun r102 h102 => ?_)
             simp only [List.cons_append, List.nil_append, List.append_nil, List.append_assoc]
             refine WL.back (mwL l0 ({ r31.1 with K := b25 } : MA) r102) ?_
             simp only [List.cons_append, List.nil_append, List.append_nil, List.append_assoc]
             have hF2 := hF.clear (by omega) h102.1 h102.2
             refine ov (v2 V_neq) ?_
             refine omv ?_
             refine oy rfl (by decide) ?_
             refine omv ?_
             refine oy rfl (by decide) ?_
             refine omv ?_
             refine oy rfl (by decide) ?_
             refine omv ?_
             refine oy rfl (by decide) ?_
             refine cgP (ι := Unit) (A := fun _ => True) (V := fun _ => .int .i64 7) (M := fun _ => mwL l0 ({ r31.1 with K := b25 } : MA) r102) _ rfl (fun w hp => (juN_w l0 ({ r31.1 with K := b25 } : MA) r102 hF2.ok (k : Int) 2 9 (by decide) (by rw [hF2.q]; exact hF.no (by omega)) w (HP.here hp cov)).mono fun e w' h => ⟨(), trivial, h⟩) (fun _ _ => ?_)
             simp only [List.cons_append, List.nil_append, List.append_nil, List.append_assoc]
             refine WL.back (mwL l0 ({ r31.1 with K := b25 } : MA) r102) ?_
             simp only [List.cons_append, List.nil_append, List.append_nil, List.append_assoc]
             refine oy rfl (by decide) ?_
             refine ov (v2 V_neq) ?_
             refine ov (V_pick_f rfl (by decide) rfl) ?_
             refine nq ?_
             refine W.cond_false rfl (by decide) ?_
             refine W.skip ?_
             refine WQ.block_normal ?_
             refine WQ.then ?_
             refine W.region ?_
             refine omv ?_
             first | refine ov vaddN ?_ | refine ov vadd ?_
             refine oas ?_
             refine WL.nil ?_
             exact ag ((k + 1, s, r102)) [16, 17, 0, 1, 2, 3, 6, 7, 8, 10, 11, 12, 47, 55] (by (try dsimp only); exact ⟨by omega, hF2⟩) (by (try dsimp only); omega) rfl cov
         · refine W.region ?_
           refine omv ?_
           refine omv ?_
           refine ov vlenS ?_
           refine ov (v2 V_geq) ?_
           refine omv ?_
           refine on rfl (decide_eq_true (by omega)) ?_
           refine on rfl (decide_eq_true (by omega)) ?_
           refine on rfl (decide_eq_true (by omega)) ?_
           refine on rfl (decide_eq_true (by omega)) ?_
           refine on rfl (decide_eq_true (by omega)) ?_
           refine ov (V_pick_t rfl (decide_eq_true (by omega)) rfl) ?_
           refine nq ?_
           refine W.cond_true rfl rfl ?_
           refine sr ?_
           refine oas ?_
           refine nq ?_
           refine W.region ?_
           refine omv ?_
           first | refine ov vaddN ?_ | refine ov vadd ?_
           refine oas ?_
           refine nx ?_
           refine omv ?_
           refine omv ?_
           refine omv ?_
           refine cgP _ rfl (fun w hp => juS_md l0 ({ r31.1 with K := b25 } : MA) x hF.ok 64 hF.lv (k : Int) 4 5 6 9 (mdi (by omega) (by omega)) 0 (hF.at0 (by omega)).1 (hF.at0 (by omega)).2 (by omega) (hF.sn _ (by omega)) (by have := hF.g; have := hF.sk; omega) (by have := hF.sl; omega) w (HP.here hp cov)) (fun r102 h102 => ?_)
           simp only [List.cons_append, List.nil_append, List.append_nil, List.append_assoc]
           refine WL.back (mwL l0 ({ r31.1 with K := b25 } : MA) r102) ?_
           simp only [List.cons_append, List.nil_append, List.append_nil, List.append_assoc]
           have hF2 := hF.strike (by omega) h102.1 h102.2
           refine ov (v2 V_neq) ?_
           refine omv ?_
           refine oy rfl (by decide) ?_
           refine omv ?_
           refine oy rfl (by decide) ?_
           refine omv ?_
           refine oy rfl (by decide) ?_
           refine omv ?_
           refine oy rfl (by decide) ?_
           refine cgP (ι := Unit) (A := fun _ => True) (V := fun _ => .int .i64 7) (M := fun _ => mwL l0 ({ r31.1 with K := b25 } : MA) r102) _ rfl (fun w hp => (juN_w l0 ({ r31.1 with K := b25 } : MA) r102 hF2.ok (k : Int) 1 9 (by decide) (by rw [hF2.q]; exact hF.no (by omega)) w (HP.here hp cov)).mono fun e w' h => ⟨(), trivial, h⟩) (fun _ _ => ?_)
           simp only [List.cons_append, List.nil_append, List.append_nil, List.append_assoc]
           refine WL.back (mwL l0 ({ r31.1 with K := b25 } : MA) r102) ?_
           simp only [List.cons_append, List.nil_append, List.append_nil, List.append_assoc]
           refine oy rfl (by decide) ?_
           refine ov (v2 V_neq) ?_
           refine ov (V_pick_f rfl (by decide) rfl) ?_
           refine nq ?_
           refine W.cond_false rfl (by decide) ?_
           refine W.skip ?_
           refine WQ.block_normal ?_
           refine WQ.then ?_
           refine W.region ?_
           refine omv ?_
           first | refine ov vaddN ?_ | refine ov vadd ?_
           refine oas ?_
           refine WL.nil ?_
           exact ag ((k + 1, s + 1, r102)) [16, 17, 0, 1, 2, 3, 6, 7, 8, 10, 11, 12, 47, 55] (by (try dsimp only); exact ⟨by omega, hF2⟩) (by (try dsimp only); omega) rfl cov
       · refine W.exit ?_
         refine WQ.then_exit ?_
         refine WQ.then_exit ?_
         refine WQ.block_hit ?_
         refine WQ.then ?_
         refine W.seq ?_
         obtain rfl : k = min i 8 := by omega
         refine W.region ?_
         refine omv ?_
         refine ov (vlda 32) ?_
         refine cgG rfl (fun w hp => made24_calls l0 e0 hb0 9 4 5 6 (mdi (by omega) (by omega)) w) (fun o114 h114 => ?_)
         refine cgP _ rfl (fun w hp => in24_md l0 ({ r31.1 with K := b25 } : MA) x hF.ok e0 hb0 9 4 5 6 7 hM9 o114 h114 0 (hF.e9 (by omega)) w (HP.here hp cov) (fun w1 M h1 => Sr.pastP hp h1 (hs := fun w hp => HP.sgr hp dell (by simp [(hM9).len]) h114 iv_one))) (fun r115 h115 => ?_)
         simp only [List.cons_append, List.nil_append, List.append_nil, List.append_assoc]
         refine WL.back (mwL l0 ({ r31.1 with K := b25 } : MA) r115) ?_
         simp only [List.cons_append, List.nil_append, List.append_nil, List.append_assoc]
         refine omv ?_
         refine ov vex ?_
         refine ov vex ?_
         refine oas ?_
         refine oas ?_
         refine nx ?_
         refine omv ?_
         refine ov (vlda 32) ?_
         refine cgG rfl (fun w hp => made24_calls l0 e0 hb0 0 4 5 6 (mdi (by omega) (by omega)) w) (fun o121 h121 => ?_)
         refine cgP _ rfl (fun w hp => in24_md l0 ({ r31.1 with K := b25 } : MA) r115 h115.1 e0 hb0 0 4 5 6 7 hM0 o121 h121 (if min i 8 = 0 then 0 else 9) (hF.e0 (by omega) h115.2) w (HP.here hp cov) (fun w1 M h1 => Sr.pastP hp h1 (hs := fun w hp => HP.sgr hp dell (by simp [(hM0).len]) h121 iv_one))) (fun r122 h122 => ?_)
         simp only [List.cons_append, List.nil_append, List.append_nil, List.append_assoc]
         refine WL.back (mwL l0 ({ r31.1 with K := b25 } : MA) r122) ?_
         simp only [List.cons_append, List.nil_append, List.append_nil, List.append_assoc]
         obtain ⟨hS2, hQ2⟩ := hF.last h115.2 h122.2
         refine omv ?_
         refine ov vex ?_
         refine ov vex ?_
         refine oas ?_
         refine oas ?_
         refine nq ?_
         refine W.seq ?_
         by_cases c5 : min i 8 = 0
         · rw [if_pos c5]
           refine W.region ?_
           refine omv ?_
           refine omv ?_
           refine oy rfl rfl ?_
           refine omv ?_
           refine oy rfl rfl ?_
           refine cgP (ι := Unit) (A := fun _ => True) (V := fun _ => .int .i64 (cnt r122.S.m 4 9 : Nat)) (M := fun _ => mwL l0 ({ r31.1 with K := b25 } : MA) r122) _ rfl (fun w hp => (count_w l0 ({ r31.1 with K := b25 } : MA) r122 h122.1 (by rw [hS2]; have := hF.sl; omega) 4 9 (by omega) w (HP.here hp cov)).mono fun e w' h => ⟨(), trivial, h⟩) (fun _ _ => ?_)
           simp only [List.cons_append, List.nil_append, List.append_nil, List.append_assoc]
           refine WL.back (mwL l0 ({ r31.1 with K := b25 } : MA) r122) ?_
           simp only [List.cons_append, List.nil_append, List.append_nil, List.append_assoc]
           rw [hS2, hF.c]
           refine oy rfl rfl ?_
           refine omv ?_
           refine oy rfl rfl ?_
           refine ov (v2 V_eql) ?_
           refine ov (V_pick_t rfl rfl rfl) ?_
           refine omv ?_
           refine oy rfl (decide_eq_true rfl) ?_
           refine omv ?_
           refine oy rfl (decide_eq_true rfl) ?_
           refine ov (v2 V_eql) ?_
           refine ov (V_pick_t rfl (decide_eq_true rfl) rfl) ?_
           refine omv ?_
           refine oy rfl (by decide) ?_
           refine omv ?_
           refine oy rfl (by decide) ?_
           refine ov (v2 V_eql) ?_
           refine oy rfl (by decide) ?_
           refine omv ?_
           refine on rfl (decide_eq_true (by omega)) ?_
           refine on rfl (decide_eq_true (by omega)) ?_
           refine oy rfl (by decide) ?_
           refine ov (V_pick_t rfl (decide_eq_true (by omega)) rfl) ?_
           refine ov (V_pick_t rfl (by decide) rfl) ?_
           refine omv ?_
           refine oy rfl rfl ?_
           refine omv ?_
           refine oy rfl rfl ?_
           refine cg rfl (fun w hp => queue_w l0 ({ r31.1 with K := b25 } : MA) r122 h122.1 w hp) (fun b146 h146 => ?_)
           simp only [List.cons_append, List.nil_append, List.append_nil, List.append_assoc]
           refine WL.back (gLM 103 b146.1 (qs r122).length (b146.2.flatMap rlV) 151) ?_
           refine WL.back (b146.2.flatMap rbL) ?_
           simp only [List.cons_append, List.nil_append, List.append_nil, List.append_assoc]
           refine oy rfl rfl ?_
           refine ov vlenS ?_
           refine oy rfl rfl ?_
           refine ov (v2 V_geq) ?_
           refine ov (V_pick_t rfl rfl rfl) ?_
           refine oas ?_
           refine nq ?_
           refine W.ret ?_
           refine WQ.ret1 Try.results10 (.tmp rfl) ?_
           intro w' hp; exact ⟨by first | rfl | (simp; done) | (simp; omega), hp.forget⟩
         · rw [if_neg c5]
           refine W.region ?_
           refine omv ?_
           refine omv ?_
           refine oy rfl rfl ?_
           refine omv ?_
           refine oy rfl rfl ?_
           refine cgP (ι := Unit) (A := fun _ => True) (V := fun _ => .int .i64 (cnt r122.S.m 4 9 : Nat)) (M := fun _ => mwL l0 ({ r31.1 with K := b25 } : MA) r122) _ rfl (fun w hp => (count_w l0 ({ r31.1 with K := b25 } : MA) r122 h122.1 (by rw [hS2]; have := hF.sl; omega) 4 9 (by omega) w (HP.here hp cov)).mono fun e w' h => ⟨(), trivial, h⟩) (fun _ _ => ?_)
           simp only [List.cons_append, List.nil_append, List.append_nil, List.append_assoc]
           refine WL.back (mwL l0 ({ r31.1 with K := b25 } : MA) r122) ?_
           simp only [List.cons_append, List.nil_append, List.append_nil, List.append_assoc]
           rw [hS2, hF.c]
           refine oy rfl rfl ?_
           refine omv ?_
           refine oy rfl rfl ?_
           refine ov (v2 V_eql) ?_
           refine ov (V_pick_t rfl rfl rfl) ?_
           refine omv ?_
           refine oy rfl (decide_eq_true rfl) ?_
           refine omv ?_
           refine oy rfl (decide_eq_true rfl) ?_
           refine ov (v2 V_eql) ?_
           refine ov (V_pick_t rfl (decide_eq_true rfl) rfl) ?_
           refine omv ?_
           refine oy rfl (by decide) ?_
           refine omv ?_
           refine oy rfl (by decide) ?_
           refine ov (v2 V_eql) ?_
           refine oy rfl (by decide) ?_
           refine omv ?_
           refine oy rfl (decide_eq_false (by omega)) ?_
           refine omv ?_
           refine oy rfl (decide_eq_false (by omega)) ?_
           refine ov (v2 V_eql) ?_
           refine oy rfl (by decide) ?_
           refine ov (V_pick_f rfl (decide_eq_false (by omega)) rfl) ?_
           refine ov (V_pick_t rfl (by decide) rfl) ?_
           refine omv ?_
           refine oy rfl rfl ?_
           refine omv ?_
           refine oy rfl rfl ?_
           refine cg rfl (fun w hp => queue_w l0 ({ r31.1 with K := b25 } : MA) r122 h122.1 w hp) (fun b146 h146 => ?_)
           simp only [List.cons_append, List.nil_append, List.append_nil, List.append_assoc]
           refine WL.back (gLM 103 b146.1 (qs r122).length (b146.2.flatMap rlV) 151) ?_
           refine WL.back (b146.2.flatMap rbL) ?_
           simp only [List.cons_append, List.nil_append, List.append_nil, List.append_assoc]
           refine oy rfl rfl ?_
           refine ov vlenS ?_
           refine oy rfl rfl ?_
           refine ov (v2 V_geq) ?_
           refine ov (V_pick_t rfl rfl rfl) ?_
           refine oas ?_
           refine nq ?_
           refine W.ret ?_
           refine WQ.ret1 Try.results10 (.tmp rfl) ?_
           intro w' hp; exact ⟨by first | rfl | (simp; done) | (simp; omega), hp.forget⟩

end Go.Proofs.Ytmeckbjinmgbbaa