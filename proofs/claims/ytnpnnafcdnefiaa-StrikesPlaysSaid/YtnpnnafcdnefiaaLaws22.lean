/- The statements of layer 22: their walks. -/
import Derived.Test.YtnpnnafcdnefiaaHeld
set_option linter.unusedVariables false
set_option linter.unusedSimpArgs false

namespace Go.Proofs.Ytnpnnafcdnefiaa
open Go.X
theorem Sr.pastP {c : Cx} {L Lr M M0 : List (Nat × Blk)} {w w' : World} {s n : Nat} {A : Option Addr} {xs : List Value} (hp : HP c.w0 w c.O L) (h : HP w w' (M0.map (·.1)) M) (hdel : PR M0 L Lr := by exact pr) (hs : Sr c Lr s A n xs) : SrW w' s A n xs :=
  hs w' ((hp.transP hdel h).sub (List.sublist_append_right _ _))
theorem GR.le59 {g : GR} (hg : g.OK) (h : ∀ l ∈ g.ll, l.length ≤ 59) : ∀ r ∈ g.rs, r.n ≤ 59 := fun r hr => by
  have := h r.l (List.mem_map.2 ⟨r, hr, rfl⟩)
  rw [(hg.2 r hr).1] at this; exact this
theorem GR.nil_of {g : GR} (h : g.ll = []) : g.rs.length = 0 := by rw [← GR.ll_len, h]; rfl
theorem opL_le {D : DS} (hok : DOK D) : ∀ l ∈ opL D, l.length ≤ 59 := fun l hl => (opL_ok hok l hl).1
theorem ab_bytes : bytes [97, 98] := fun c hc => by simp at hc; omega

theorem open22_nil (w : World) : Calls Try.prog 17 [.pointer none].toArray w fun e w' => e = .returned (.tuple #[.pointer none, .int .i64 1]) ∧ HP w w' [] [] := by
 refine calls_of_WM Try.func17 rfl Try.ntmps17 rfl rfl (HP.refl w []) ?_
 refine sr ?_
 refine oas ?_
 refine oas ?_
 refine nq ?_
 refine W.seq ?_
 refine sr ?_
 refine omv ?_
 refine ov (V_eqlP (by kernel_rfl) rfl rfl) ?_
 refine nq ?_
 refine W.cond_true rfl rfl ?_
 refine sr ?_
 refine oas ?_
 refine oas ?_
 refine nq ?_
 refine W.ret ?_
 refine WQ.then_ret ?_
 refine WQ.leaveE2 Try.results17 (.tmp rfl) (.tmp rfl) ?_
 intro w' hp; exact ⟨by first | rfl | (simp; done) | (simp [*]; done) | simp_all, hp.forget⟩

theorem awake22_calls (w : World) : Calls Try.prog 15 ([] : List Value).toArray w fun e w' => e = .returned (.bool true) ∧ HP w w' [] [] := by
 have k0 := newD_ok (n := 1) (by omega) (by omega)
 refine calls_of_W Try.func15 rfl Try.ntmps15 rfl rfl (HP.refl w []) ?_
 refine sr ?_
 refine oas ?_
 refine nx ?_
 refine cg rfl (fun w hp => new21_calls 1 (by omega) (by omega) w) (fun b13 h13 => ?_)
 refine omv ?_
 refine ov vex ?_
 refine ov vex ?_
 refine oas ?_
 refine oas ?_
 refine nx ?_
 refine omv ?_
 refine cgP _ rfl (fun w hp => open22_calls b13 (newD 1) k0 w (HP.here hp cov)) (fun r18 h18 => ?_)
 simp only [List.cons_append, List.nil_append, List.append_nil, List.append_assoc]
 refine omv ?_
 refine ov vex ?_
 refine ov vex ?_
 refine oas ?_
 refine oas ?_
 refine nq ?_
 refine W.seq ?_
 refine sr ?_
 refine omv ?_
 refine ov (V_eqlP (by kernel_rfl) rfl rfl) ?_
 refine omv ?_
 refine oy rfl rfl ?_
 refine omv ?_
 refine oy rfl rfl ?_
 refine ov (v2 V_neq) ?_
 refine ov (V_pick_f rfl rfl rfl) ?_
 refine nq ?_
 refine W.cond_false rfl (by decide) ?_
 refine W.skip ?_
 refine WQ.then ?_
 refine W.seq ?_
 have hl18 : r18.2.ll = [] := h18.2.trans (Full.new.all (by show 1 ≤ 64; omega))
 have hn18 := GR.nil_of hl18
 refine W.region ?_
 refine omv ?_
 refine obsI (k := .u8) 5 1 [97, 98] (fun b28 => ?_)
 refine oro ?_
 refine cgP _ rfl (fun w hp => append22_calls b13 (newD 1) k0 r18.1 r18.2 h18.1 (by rw [hn18]; exact Nat.zero_le _) (some ⟨b28, 0, none⟩) 2 2 [97, 98] ab_bytes (Nat.le_refl _) rfl w (HP.here hp cov) (fun w1 M h1 => Sr.pastP hp h1 (hs := by exact Sr.ownR (by repeat (first | exact At.headR | apply At.tail)) iv_one))) (fun r30 h30 => ?_)
 simp only [List.cons_append, List.nil_append, List.append_nil, List.append_assoc]
 refine oas ?_
 refine nq ?_
 refine W.seq ?_
 have hF := (Full.new (n := 1)).ap newD_live (b := [97, 98]) ⟨by decide, ab_bytes⟩ (by show 0 < 1; omega)
 obtain ⟨hE1, _, hlv⟩ := (newD_live (n := 1)).ap (m := 0) (b := [97, 98]) (by decide) (by show 0 < 1; omega)
 have hl30 : r30.ll = [[97, 98]] := by rw [h30.2, hl18]; unfold apL; rw [show ([] : List (List Int)).length = 0 from rfl, if_pos hE1]; rfl
 have hn30 : r30.rs.length = 1 := by rw [← GR.ll_len, hl30]; rfl
 rw [hn18] at *
 rw [hE1]
 have k1 : DOK (apD (newD 1) 0 [97, 98]) := apD_ok k0 ab_bytes
 have n1 : (apD (newD 1) 0 [97, 98]).n = 1 := apD_n
 have op1 := hF.all (by rw [apD_n]; show 1 ≤ 64; omega)
 rw [show ([] : List (List Int)).length = 0 from rfl] at op1
 generalize apD (newD 1) 0 [97, 98] = D1 at k1 n1 op1 ⊢
 refine W.region ?_
 refine omv ?_
 refine cgP _ rfl (fun w hp => append22_calls b13 D1 k1 r18.1 r30 h30.1 (by rw [hn30, n1]; exact Nat.le_refl _) none 0 0 [] bytes_nil (Nat.le_refl _) rfl w (HP.here hp cov) (fun w1 M h1 => SrW.nilI)) (fun r32 h32 => ?_)
 simp only [List.cons_append, List.nil_append, List.append_nil, List.append_assoc]
 refine oas ?_
 refine nq ?_
 refine W.seq ?_
 obtain ⟨hE2, hD2⟩ := Live.ap_full (D := D1) (m := r30.rs.length) (b := []) (by decide) (by omega)
 rw [hE2, hD2]
 refine W.region ?_
 refine omv ?_
 refine cgP _ rfl (fun w hp => open22_calls b13 D1 k1 w (HP.here hp cov)) (fun r35 h35 => ?_)
 simp only [List.cons_append, List.nil_append, List.append_nil, List.append_assoc]
 refine omv ?_
 refine ov vex ?_
 refine ov vex ?_
 refine oas ?_
 refine oas ?_
 refine nq ?_
 refine W.seq ?_
 have hl35 : r35.2.ll = [[97, 98]] := h35.2.trans op1
 have hn35 : r35.2.rs.length = 1 := by rw [← GR.ll_len, hl35]; rfl
 refine W.region ?_
 refine cp rfl (fun w hp => open22_nil w) ?_
 refine omv ?_
 refine ov vex ?_
 refine ov vex ?_
 refine oas ?_
 refine oas ?_
 refine nq ?_
 refine W.seq ?_
 refine sr ?_
 refine omv ?_
 refine ov (V_eqlP (by kernel_rfl) rfl rfl) ?_
 refine nq ?_
 refine W.cond_false rfl rfl ?_
 refine W.skip ?_
 refine WQ.then ?_
 refine sr ?_
 refine omv ?_
 refine cgP _ rfl (fun w hp => alll22_calls b13 D1 r35.1 r35.2 h35.1 (by rw [hn35]; decide) (GR.le59 h35.1 (by rw [h35.2]; exact opL_le k1)) w (HP.here hp cov)) (fun r45 h45 => ?_)
 simp only [List.cons_append, List.nil_append, List.append_nil, List.append_assoc]
 refine oas ?_
 refine nq ?_
 refine W.seq ?_
 have hl45 : r45.ll = [[97, 98]] := h45.2.trans hl35
 have hn45 : r45.rs.length = 1 := by rw [← GR.ll_len, hl45]; rfl
 obtain ⟨gb, gc, grs, hgo, hgc⟩ := GrOK.open h45.1.1 (by omega)
 obtain ⟨rv, hrv⟩ : ∃ rv, r45.rs[0]? = some rv := ⟨_, List.getElem?_eq_getElem (by omega)⟩
 have hrm := List.mem_of_getElem? hrv
 have hrl : rv.l = [97, 98] := by
   have : r45.ll[0]? = some rv.l := by unfold GR.ll; rw [List.getElem?_map, hrv]; rfl
   rw [hl45] at this; injection this with this; exact this.symm
 refine W.region ?_
 refine omv ?_
 refine ov (v2 V_eql) ?_
 refine omv ?_
 refine oy rfl (by decide) ?_
 refine omv ?_
 refine oy rfl (by decide) ?_
 refine ov (v2 V_eql) ?_
 refine ov (V_pick_t rfl (by decide) rfl) ?_
 refine omv ?_
 refine oy rfl (by decide) ?_
 refine omv ?_
 refine oy rfl (by decide) ?_
 refine ov (v2 V_eql) ?_
 refine ov (V_pick_t rfl (by decide) rfl) ?_
 refine omv ?_
 refine oy rfl (by decide) ?_
 refine omv ?_
 refine oy rfl (by decide) ?_
 refine ov vlenS ?_
 refine oy rfl (by decide) ?_
 refine ov (v2 V_eql) ?_
 refine ov (V_pick_t rfl (by decide) rfl) ?_
 refine omv ?_
 refine oy rfl (decide_eq_true (by rw [hn45]; rfl)) ?_
 refine omv ?_
 refine oy rfl (decide_eq_true (by rw [hn45]; rfl)) ?_
 refine ov (viR (i := 0) hgo) ?_
 refine oy rfl (decide_eq_true (by rw [hn45]; rfl)) ?_
 refine ov (vldR hgo hrv h45.1) ?_
 refine oy rfl (decide_eq_true (by rw [hn45]; rfl)) ?_
 refine ov (vbs (hs := fun w hp => GR.row hp hrm)) ?_
 refine oy rfl (decide_eq_true (by rw [hn45]; rfl)) ?_
 refine ov (veqSc (l' := [97, 98]) rfl (h1 := by rw [hrl]; exact ab_bytes)) ?_
 refine ov (V_pick_t rfl (decide_eq_true (by rw [hn45]; rfl)) rfl) ?_
 refine omv ?_
 refine oy rfl (decide_eq_true hrl) ?_
 refine omv ?_
 refine oy rfl (decide_eq_true hrl) ?_
 refine ov (v2 V_eql) ?_
 refine ov (V_pick_t rfl (decide_eq_true hrl) rfl) ?_
 refine oas ?_
 refine nq ?_
 refine W.ret ?_
 refine WQ.ret1 Try.results15 (.tmp rfl) ?_
 intro w' hp; exact ⟨rfl, hp.forget⟩

end Go.Proofs.Ytnpnnafcdnefiaa