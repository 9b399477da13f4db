/- JournalFull. -/
import Derived.Test.YtnpnnafcdnefiaaLaws22
set_option linter.unusedVariables false
set_option linter.unusedSimpArgs false

namespace Go.Proofs.Ytnpnnafcdnefiaa
open Go.X
def two (i : Nat) : List Int := [(i : Int), 7]
def twos (k : Nat) : List (List Int) := (List.range k).map two
theorem twos_len {k : Nat} : (twos k).length = k := by simp [twos]
theorem twos_succ {k : Nat} : twos (k + 1) = twos k ++ [two k] := by simp [twos, List.range_succ]
theorem twos_get {k i : Nat} (h : i < k) : (twos k)[i]? = some (two i) := by simp [twos, h]
theorem two_bytes {i : Nat} (h : i < 256) : bytes (two i) := fun c hc => by
  simp [two] at hc; omega
structure FulI (D : DS) (g : GR) (mn i : Nat) : Prop where
  ok : DOK D
  live : Live D
  n : D.n = mn
  full : Full D g.ll
  gok : g.OK
  ll : g.ll = twos (min i mn)
theorem FulI.len {D : DS} {g : GR} {mn i : Nat} (h : FulI D g mn i) : g.rs.length = min i mn := by rw [← GR.ll_len, h.ll, twos_len]
theorem FulI.yes {D : DS} {g r : GR} {mn i : Nat} (h : FulI D g mn i) (hi : i < mn) (h256 : i < 256) (hr : r.OK ∧ r.ll = apL D g.ll (two i)) : apE D g.rs.length (two i) = 0 ∧ FulI (apD D g.rs.length (two i)) r mn (i + 1) := by
  have hl := h.len
  have hn := h.n
  have hm : g.rs.length < D.n := by omega
  have hb : (two i).length ≤ 59 ∧ bytes (two i) := ⟨by simp [two], two_bytes h256⟩
  obtain ⟨e1, e2, e3⟩ := h.live.ap hb.1 hm
  have hll : r.ll = g.ll ++ [two i] := by rw [hr.2]; unfold apL; rw [GR.ll_len, if_pos e1]
  have hf := h.full.ap h.live hb (by rw [GR.ll_len]; exact hm)
  rw [GR.ll_len] at hf
  refine ⟨e1, apD_ok h.ok hb.2, e3, by rw [apD_n]; exact hn, by rw [hll]; exact hf, hr.1, ?_⟩
  rw [hll, h.ll, show min i mn = i by omega, show min (i + 1) mn = i + 1 by omega, twos_succ]
theorem FulI.no {D : DS} {g r : GR} {mn i : Nat} (h : FulI D g mn i) (hi : ¬ i < mn) (hr : r.OK ∧ r.ll = apL D g.ll (two i)) : apE D g.rs.length (two i) = 8 ∧ FulI (apD D g.rs.length (two i)) r mn (i + 1) := by
  have hl := h.len
  have hn := h.n
  obtain ⟨e1, e2⟩ := Live.ap_full (D := D) (m := g.rs.length) (b := two i) (by simp [two]) (by omega)
  have hll : r.ll = g.ll := by rw [hr.2]; unfold apL; rw [GR.ll_len, e1, if_neg (by decide)]
  rw [e2]
  refine ⟨e1, h.ok, h.live, hn, by rw [hll]; exact h.full, hr.1, ?_⟩
  rw [hll, h.ll, show min i mn = mn by omega, show min (i + 1) mn = mn by omega]

theorem journalFull_calls (many n : Int) (w : World) :
    Calls Try.prog 3 [.int .i64 many, .int .i64 n].toArray w fun e w' => e = .returned (.bool true) ∧ HP w w' [] [] := by
 refine calls_of_W Try.func3 rfl Try.ntmps3 rfl rfl (HP.refl w []) ?_
 refine sr ?_
 refine oas ?_
 refine nx ?_
 refine cp rfl (fun w hp => awake22_calls w) ?_
 refine oas ?_
 refine nq ?_
 refine W.seq ?_
 by_cases hm : 1 ≤ many ∧ many ≤ 64
 · obtain ⟨mn, rfl⟩ : ∃ m : Nat, many = m := ⟨many.toNat, by omega⟩
   refine W.region ?_
   refine omv ?_
   refine cg rfl (fun w hp => new21_calls mn (by omega) (by omega) w) (fun b19 h19 => ?_)
   refine omv ?_
   refine ov vex ?_
   refine ov vex ?_
   refine oas ?_
   refine oas ?_
   refine nq ?_
   refine W.seq ?_
   refine W.seq ?_
   by_cases hn0 : n < 0
   · by_cases hn8 : n > 80
     · refine W.region ?_
       refine omv ?_
       refine ov (V_eqlP (by kernel_rfl) rfl rfl) ?_
       refine omv ?_
       refine oy rfl rfl ?_
       refine omv ?_
       refine oy rfl rfl ?_
       refine ov (v2 V_neq) ?_
       refine ov (V_pick_f rfl rfl rfl) ?_
       refine omv ?_
       refine oy rfl (by decide) ?_
       refine omv ?_
       refine oy rfl (by decide) ?_
       refine ov (v2 V_lss) ?_
       refine ov (V_pick_f rfl (by decide) rfl) ?_
       refine omv ?_
       refine on rfl (decide_eq_true hn0) ?_
       refine on rfl (decide_eq_true hn0) ?_
       refine ov (V_pick_t rfl (decide_eq_true hn0) rfl) ?_
       refine nq ?_
       refine W.cond_true rfl rfl ?_
       refine sr ?_
       refine omv ?_
       refine omv ?_
       refine oy rfl rfl ?_
       refine omv ?_
       refine oy rfl rfl ?_
       refine ov (V_neqP (by kernel_rfl) rfl rfl) ?_
       refine oy rfl rfl ?_
       refine omv ?_
       refine oy rfl rfl ?_
       refine ov (v2 V_eql) ?_
       refine oy rfl rfl ?_
       refine ov (V_eqlB (by kernel_rfl) rfl rfl) ?_
       refine ov (V_pick_t rfl rfl rfl) ?_
       refine oas ?_
       refine nq ?_
       refine W.ret ?_
       refine WQ.then_ret ?_
       refine WQ.ret1 Try.results3 (.tmp rfl) ?_
       intro w' hp; exact ⟨by first | rfl | (simp; done) | (simp [*]; done) | simp_all, hp.forget⟩
     · refine W.region ?_
       refine omv ?_
       refine ov (V_eqlP (by kernel_rfl) rfl rfl) ?_
       refine omv ?_
       refine oy rfl rfl ?_
       refine omv ?_
       refine oy rfl rfl ?_
       refine ov (v2 V_neq) ?_
       refine ov (V_pick_f rfl rfl rfl) ?_
       refine omv ?_
       refine oy rfl (by decide) ?_
       refine omv ?_
       refine oy rfl (by decide) ?_
       refine ov (v2 V_lss) ?_
       refine ov (V_pick_f rfl (by decide) rfl) ?_
       refine omv ?_
       refine on rfl (decide_eq_true hn0) ?_
       refine on rfl (decide_eq_true hn0) ?_
       refine ov (V_pick_t rfl (decide_eq_true hn0) rfl) ?_
       refine nq ?_
       refine W.cond_true rfl rfl ?_
       refine sr ?_
       refine omv ?_
       refine omv ?_
       refine oy rfl rfl ?_
       refine omv ?_
       refine oy rfl rfl ?_
       refine ov (V_neqP (by kernel_rfl) rfl rfl) ?_
       refine oy rfl rfl ?_
       refine omv ?_
       refine oy rfl rfl ?_
       refine ov (v2 V_eql) ?_
       refine oy rfl rfl ?_
       refine ov (V_eqlB (by kernel_rfl) rfl rfl) ?_
       refine ov (V_pick_t rfl rfl rfl) ?_
       refine oas ?_
       refine nq ?_
       refine W.ret ?_
       refine WQ.then_ret ?_
       refine WQ.ret1 Try.results3 (.tmp rfl) ?_
       intro w' hp; exact ⟨by first | rfl | (simp; done) | (simp [*]; done) | simp_all, hp.forget⟩
   · by_cases hn8 : n > 80
     · refine W.region ?_
       refine omv ?_
       refine ov (V_eqlP (by kernel_rfl) rfl rfl) ?_
       refine omv ?_
       refine oy rfl rfl ?_
       refine omv ?_
       refine oy rfl rfl ?_
       refine ov (v2 V_neq) ?_
       refine ov (V_pick_f rfl rfl rfl) ?_
       refine omv ?_
       refine oy rfl (by decide) ?_
       refine omv ?_
       refine oy rfl (by decide) ?_
       refine ov (v2 V_lss) ?_
       refine ov (V_pick_f rfl (by decide) rfl) ?_
       refine omv ?_
       refine oy rfl (decide_eq_false hn0) ?_
       refine omv ?_
       refine oy rfl (decide_eq_false hn0) ?_
       refine ov (v2 V_gtr) ?_
       refine ov (V_pick_f rfl (decide_eq_false hn0) rfl) ?_
       refine nq ?_
       refine W.cond_true rfl (decide_eq_true hn8) ?_
       refine sr ?_
       refine omv ?_
       refine omv ?_
       refine oy rfl rfl ?_
       refine omv ?_
       refine oy rfl rfl ?_
       refine ov (V_neqP (by kernel_rfl) rfl rfl) ?_
       refine oy rfl rfl ?_
       refine omv ?_
       refine oy rfl rfl ?_
       refine ov (v2 V_eql) ?_
       refine oy rfl rfl ?_
       refine ov (V_eqlB (by kernel_rfl) rfl rfl) ?_
       refine ov (V_pick_t rfl rfl rfl) ?_
       refine oas ?_
       refine nq ?_
       refine W.ret ?_
       refine WQ.then_ret ?_
       refine WQ.ret1 Try.results3 (.tmp rfl) ?_
       intro w' hp; exact ⟨by first | rfl | (simp; done) | (simp [*]; done) | simp_all, hp.forget⟩
     · refine W.region ?_
       refine omv ?_
       refine ov (V_eqlP (by kernel_rfl) rfl rfl) ?_
       refine omv ?_
       refine oy rfl rfl ?_
       refine omv ?_
       refine oy rfl rfl ?_
       refine ov (v2 V_neq) ?_
       refine ov (V_pick_f rfl rfl rfl) ?_
       refine omv ?_
       refine oy rfl (by decide) ?_
       refine omv ?_
       refine oy rfl (by decide) ?_
       refine ov (v2 V_lss) ?_
       refine ov (V_pick_f rfl (by decide) rfl) ?_
       refine omv ?_
       refine oy rfl (decide_eq_false hn0) ?_
       refine omv ?_
       refine oy rfl (decide_eq_false hn0) ?_
       refine ov (v2 V_gtr) ?_
       refine ov (V_pick_f rfl (decide_eq_false hn0) rfl) ?_
       refine nq ?_
       refine W.cond_false rfl (decide_eq_false hn8) ?_
       refine W.skip ?_
       refine WQ.then ?_
       refine W.seq ?_
       obtain ⟨m, rfl⟩ : ∃ m : Nat, n = m := ⟨n.toNat, by omega⟩
       have k0 := newD_ok (n := mn) (by omega) (by omega)
       refine W.region ?_
       refine omv ?_
       refine cgP _ rfl (fun w hp => open22_calls b19 (newD mn) k0 w (HP.here hp cov)) (fun r46 h46 => ?_)
       simp only [List.cons_append, List.nil_append, List.append_nil, List.append_assoc]
       refine omv ?_
       refine ov vex ?_
       refine ov vex ?_
       refine oas ?_
       refine oas ?_
       refine nq ?_
       refine W.seq ?_
       refine sr ?_
       refine omv ?_
       refine ov (V_eqlP (by kernel_rfl) rfl rfl) ?_
       refine omv ?_
       refine oy rfl rfl ?_
       refine omv ?_
       refine oy rfl rfl ?_
       refine ov (v2 V_neq) ?_
       refine ov (V_pick_f rfl rfl rfl) ?_
       refine nq ?_
       refine W.cond_false rfl (by decide) ?_
       refine W.skip ?_
       refine WQ.then ?_
       refine W.seq ?_
       refine W.seq ?_
       have hl46 : r46.2.ll = [] := h46.2.trans (Full.new.all (by show mn ≤ 64; omega))
       refine W.region ?_
       refine oas ?_
       refine nq ?_
       refine W.block ?_
       -- LOOP 0
       refine W.pick (S' := [(10, _), (0, _), (1, _), (4, _), (5, _), (6, _), (7, _), (8, _), (9, _), (35, _), (54, _)]) [10, 0, 1, 4, 5, 6, 7, 8, 9, 35, 54] rfl ?_
       refine W.loopG (σ := Nat × DS × GR) (fun ⟨i, D, g⟩ => i ≤ m ∧ FulI D g mn i) (fun ⟨i, D, g⟩ => [(10, .int .i64 (i : Nat))]) (fun ⟨i, D, g⟩ => [(b19.d, .cells [(1, [.slice (some ⟨b19.s, 0, none⟩) D.n D.n]), (1, [.map (some b19.m)]), (1, [.int .i64 D.fuse]), (1, [.bool D.dead])] 101), (b19.s, .cells [(D.n * 64, iv .u8 D.sure.flatten)] 58), (b19.m, .obj (mapO .i64 (D.m.map sE) D.ck)), (r46.1, .cells [(1, [.pointer (some ⟨b19.d, 0, none⟩)]), (1, [.int .i64 (g.rs.length : Nat)]), (1, [.int .i64 (D.n : Nat)]), (1, [.slice (gA g.o) g.rs.length (gC g.o)])] 103)]) [] (fun ⟨i, D, g⟩ => gRL 5 31 g) (fun ⟨i, D, g⟩ => m - i) (0, newD mn, r46.2) rfl cov ⟨Nat.zero_le _, k0, newD_live, rfl, by rw [hl46]; exact Full.new, h46.1, by rw [hl46, Nat.zero_min]; rfl⟩ ?_
       rintro ⟨i, D, g⟩ ⟨hi, hI⟩; dsimp only at hi hI ⊢
       refine W.seq ?_
       refine sr ?_
       refine omv ?_
       refine omv ?_
       refine ov (v2 V_lss) ?_
       refine nq ?_
       refine W.cond_dec rfl (fun g1 => ?_) (fun g1 => ?_)
       · refine W.skip ?_
         refine WQ.then ?_
         refine W.seq ?_
         refine W.block ?_
         refine sr ?_
         refine omv ?_
         refine omv ?_
         first | refine ov (vcvN .u8) ?_ | refine ov (vcv .u8) ?_
         refine obsI (k := .u8) 5 1 [_, 7] (fun b63 => ?_)
         refine cgP _ rfl (fun w hp => append22_calls b19 D hI.ok r46.1 g hI.gok (by have := hI.len; have := hI.n; omega) (some ⟨b63, 0, none⟩) 2 2 (two i) (two_bytes (by omega)) (Nat.le_refl _) rfl w (HP.here hp cov) (fun w1 M h1 => Sr.pastP hp h1 (hs := by exact Sr.own at_ iv_one))) (fun r64 h64 => ?_)
         simp only [List.cons_append, List.nil_append, List.append_nil, List.append_assoc]
         refine oas ?_
         refine nq ?_
         refine W.seq ?_
         by_cases hik : i < mn
         · obtain ⟨hE, hnx⟩ := hI.yes hik (by omega) h64
           rw [hE]
           refine W.region ?_
           refine omv ?_
           refine ov (v2 V_eql) ?_
           refine omv ?_
           refine omv ?_
           refine ov (v2 V_lss) ?_
           refine ov (V_neqB (by kernel_rfl) rfl rfl) ?_
           refine omv ?_
           refine oy rfl (by simp [hik]) ?_
           refine omv ?_
           refine oy rfl (by simp [hik]) ?_
           refine ov (v2 V_neq) ?_
           refine oy rfl (by simp [hik]) ?_
           refine omv ?_
           refine on rfl (by decide) ?_
           refine on rfl (by decide) ?_
           refine oy rfl (by simp [hik]) ?_
           refine ov (V_pick_f rfl (by decide) rfl) ?_
           refine ov (V_pick_f rfl (by simp [hik]) rfl) ?_
           refine nq ?_
           refine W.cond_false rfl rfl ?_
           refine W.skip ?_
           refine WQ.block_normal ?_
           refine WQ.then ?_
           refine W.region ?_
           refine omv ?_
           first | refine ov vaddN ?_ | refine ov vadd ?_
           refine oas ?_
           refine WL.nil ?_
           exact ag (i + 1, apD D g.rs.length (two i), r64) [10, 0, 1, 4, 5, 6, 7, 8, 9, 35, 54] (by (try dsimp only); exact ⟨by omega, hnx⟩) (by (try dsimp only); omega) rfl cov
         · obtain ⟨hE, hnx⟩ := hI.no hik h64
           rw [hE]
           refine W.region ?_
           refine omv ?_
           refine ov (v2 V_eql) ?_
           refine omv ?_
           refine omv ?_
           refine ov (v2 V_lss) ?_
           refine ov (V_neqB (by kernel_rfl) rfl rfl) ?_
           refine omv ?_
           refine oy rfl (by simp; omega) ?_
           refine omv ?_
           refine oy rfl (by simp; omega) ?_
           refine ov (v2 V_neq) ?_
           refine oy rfl (by simp; omega) ?_
           refine omv ?_
           refine oy rfl (by decide) ?_
           refine omv ?_
           refine oy rfl (by decide) ?_
           refine ov (v2 V_neq) ?_
           refine oy rfl (by simp; omega) ?_
           refine ov (V_pick_t rfl (by decide) rfl) ?_
           refine ov (V_pick_f rfl (by simp; omega) rfl) ?_
           refine nq ?_
           refine W.cond_false rfl (by decide) ?_
           refine W.skip ?_
           refine WQ.block_normal ?_
           refine WQ.then ?_
           refine W.region ?_
           refine omv ?_
           first | refine ov vaddN ?_ | refine ov vadd ?_
           refine oas ?_
           refine WL.nil ?_
           exact ag (i + 1, apD D g.rs.length (two i), r64) [10, 0, 1, 4, 5, 6, 7, 8, 9, 35, 54] (by (try dsimp only); exact ⟨by omega, hnx⟩) (by (try dsimp only); omega) rfl cov
       · refine W.exit ?_
         refine WQ.then_exit ?_
         refine WQ.then_exit ?_
         refine WQ.block_hit ?_
         refine WQ.then ?_
         refine W.seq ?_
         obtain rfl : i = m := by omega
         simp only [List.cons_append, List.nil_append, List.append_nil, List.append_assoc]
         have hD64 := hI.ok.n64
         have hDn := hI.n
         refine W.region ?_
         refine omv ?_
         refine cgP _ rfl (fun w hp => open22_calls b19 D hI.ok w (HP.here hp cov)) (fun r81 h81 => ?_)
         simp only [List.cons_append, List.nil_append, List.append_nil, List.append_assoc]
         refine omv ?_
         refine ov vex ?_
         refine ov vex ?_
         refine oas ?_
         refine oas ?_
         refine nq ?_
         refine W.seq ?_
         refine sr ?_
         refine omv ?_
         refine ov (V_eqlP (by kernel_rfl) rfl rfl) ?_
         refine omv ?_
         refine oy rfl rfl ?_
         refine omv ?_
         refine oy rfl rfl ?_
         refine ov (v2 V_neq) ?_
         refine ov (V_pick_f rfl rfl rfl) ?_
         refine nq ?_
         refine W.cond_false rfl (by decide) ?_
         refine W.skip ?_
         refine WQ.then ?_
         refine W.seq ?_
         have hl81 : r81.2.ll = g.ll := h81.2.trans (hI.full.all hD64)
         have hn81 : r81.2.rs.length = min i mn := by rw [← GR.ll_len, hl81, hI.ll, twos_len]
         refine W.region ?_
         refine omv ?_
         refine cgP _ rfl (fun w hp => alll22_calls b19 D r81.1 r81.2 h81.1 (by omega) (GR.le59 h81.1 (by rw [h81.2]; exact opL_le hI.ok)) w (HP.here hp cov)) (fun r91 h91 => ?_)
         simp only [List.cons_append, List.nil_append, List.append_nil, List.append_assoc]
         refine oas ?_
         refine nq ?_
         refine W.seq ?_
         refine W.seq ?_
         have hl91 : r91.ll = twos (min i mn) := by rw [h91.2, hl81, hI.ll]
         have hn91 : r91.rs.length = min i mn := by rw [← GR.ll_len, hl91, twos_len]
         refine W.region ?_
         refine omv ?_
         refine ov vlenS ?_
         refine omv ?_
         refine omv ?_
         refine ov (V_min rfl) ?_
         refine ov (v2 V_neq) ?_
         refine omv ?_
         refine oy rfl (decide_eq_false (by rw [hn91]; omega)) ?_
         refine omv ?_
         refine oy rfl (decide_eq_false (by rw [hn91]; omega)) ?_
         refine cm rfl (fun w hp => len22_calls b19 D r81.1 r81.2 w (HP.here hp cov)) ?_
         refine oy rfl (decide_eq_false (by rw [hn91]; omega)) ?_
         refine omv ?_
         refine oy rfl (decide_eq_false (by rw [hn91]; omega)) ?_
         refine ov vlenS ?_
         refine oy rfl (decide_eq_false (by rw [hn91]; omega)) ?_
         refine ov (v2 V_neq) ?_
         refine ov (V_pick_f rfl (decide_eq_false (by rw [hn91]; omega)) rfl) ?_
         refine nq ?_
         refine W.cond_false rfl (decide_eq_false (by rw [hn91, hn81]; omega)) ?_
         refine W.skip ?_
         refine WQ.then ?_
         refine W.seq ?_
         refine sr ?_
         refine oas ?_
         refine nq ?_
         refine W.block ?_
         -- LOOP 1
         refine W.pick (S' := [(15, _), (0, _), (1, _), (4, _), (5, _), (6, _), (7, _), (8, _), (9, _), (10, _), (12, _), (13, _), (14, _), (35, _), (54, _), (57, _), (89, _), (104, _)]) [15, 0, 1, 4, 5, 6, 7, 8, 9, 10, 12, 13, 14, 35, 54, 57, 89, 104] rfl ?_
         refine W.loopG (σ := Nat) (fun q => q ≤ min i mn) (fun q => [(15, .int .i64 (q : Nat))]) (fun q => []) [] (fun q => gRL 5 31 r91) (fun q => min i mn - q) 0 rfl cov (Nat.zero_le _) ?_
         rintro q hi
         refine W.seq ?_
         refine sr ?_
         refine omv ?_
         refine omv ?_
         refine ov vlenS ?_
         refine ov (v2 V_lss) ?_
         refine nq ?_
         refine W.cond_dec rfl (fun g2 => ?_) (fun g2 => ?_)
         · refine W.skip ?_
           refine WQ.then ?_
           refine W.seq ?_
           refine W.block ?_
           refine W.seq ?_
           obtain ⟨gb, gc, grs, hgo, hgc⟩ := GrOK.open h91.1.1 (by omega)
           obtain ⟨rv, hrv⟩ : ∃ rv, r91.rs[q]? = some rv := ⟨_, List.getElem?_eq_getElem (by omega)⟩
           have hrm := List.mem_of_getElem? hrv
           have hrl : rv.l = two q := by
             have : r91.ll[q]? = some rv.l := by unfold GR.ll; rw [List.getElem?_map, hrv]; rfl
             rw [hl91, twos_get (by omega)] at this; injection this with this; exact this.symm
           have hrb : bytes rv.l := (h91.1.2 rv hrm).2.2
           have hq256 : q < 256 := by omega
           have hqb : bytes [(q : Int), 7] := two_bytes hq256
           refine dr (.q 0 (.q 1 (.q 2 (.q 3 (.q 4 (.q 5 (.q 6 (.l 7 (.l 8 (.q 9 (.done))))))))))) (gRL 5 31 r91) ?_
           refine dq rfl (V_move rfl) ?_
           refine dq rfl (V_move rfl) ?_
           refine dq rfl (viR hgo) ?_
           refine dq rfl (vldR hgo hrv h91.1) ?_
           refine dq rfl (vbs (hs := fun w hp => GR.row hp hrm)) ?_
           refine dq rfl (V_move rfl) ?_
           first | refine dq rfl (vcvN .u8) ?_ | refine dq rfl (vcv .u8) ?_
           refine WD.l ?_
           refine dbsI (k := .u8) rfl 5 1 [_, 7] (fun b118 => ?_)
           refine WD.l ?_
           refine dv rfl vbs ?_
           refine dq rfl vneS ?_
           refine WD.done ?_
           refine WQ.then ?_
           refine W.cond_false rfl (by simp [hrl, two]) ?_
           refine W.skip ?_
           refine WQ.block_normal ?_
           refine WQ.then ?_
           refine W.region ?_
           refine omv ?_
           first | refine ov vaddN ?_ | refine ov vadd ?_
           refine oas ?_
           refine WL.nil ?_
           exact ag (q + 1) [15, 0, 1, 4, 5, 6, 7, 8, 9, 10, 12, 13, 14, 35, 54, 57, 89, 104] (sc) (by (try dsimp only); omega) rfl cov
         · refine W.exit ?_
           refine WQ.then_exit ?_
           refine WQ.then_exit ?_
           refine WQ.block_hit ?_
           refine WQ.then ?_
           refine sr ?_
           refine omv ?_
           refine oas ?_
           refine nq ?_
           refine W.ret ?_
           refine WQ.ret1 Try.results3 (.tmp rfl) ?_
           intro w' hp; exact ⟨by first | rfl | (simp; done) | (simp [*]; done) | simp_all, hp.forget⟩
 · refine W.region ?_
   refine omv ?_
   refine cp rfl (fun w hp => new21_bad many hm w) ?_
   refine omv ?_
   refine ov vex ?_
   refine ov vex ?_
   refine oas ?_
   refine oas ?_
   refine nq ?_
   refine W.seq ?_
   refine W.seq ?_
   by_cases hn0 : n < 0
   · by_cases hn8 : n > 80
     · refine W.region ?_
       refine omv ?_
       refine ov (V_eqlP (by kernel_rfl) rfl rfl) ?_
       refine omv ?_
       refine on rfl rfl ?_
       refine on rfl rfl ?_
       refine ov (V_pick_t rfl rfl rfl) ?_
       refine omv ?_
       refine on rfl rfl ?_
       refine on rfl rfl ?_
       refine ov (V_pick_t rfl rfl rfl) ?_
       refine omv ?_
       refine on rfl rfl ?_
       refine on rfl rfl ?_
       refine ov (V_pick_t rfl rfl rfl) ?_
       refine nq ?_
       refine W.cond_true rfl rfl ?_
       refine sr ?_
       refine omv ?_
       refine omv ?_
       refine oy rfl rfl ?_
       refine omv ?_
       refine oy rfl rfl ?_
       refine ov (V_neqP (by kernel_rfl) rfl rfl) ?_
       refine oy rfl rfl ?_
       refine omv ?_
       refine oy rfl rfl ?_
       refine ov (v2 V_eql) ?_
       refine oy rfl rfl ?_
       refine ov (V_eqlB (by kernel_rfl) rfl rfl) ?_
       refine ov (V_pick_t rfl rfl rfl) ?_
       refine oas ?_
       refine nq ?_
       refine W.ret ?_
       refine WQ.then_ret ?_
       refine WQ.ret1 Try.results3 (.tmp rfl) ?_
       intro w' hp; exact ⟨by first | rfl | (simp; done) | (simp [*]; done) | simp_all, hp.forget⟩
     · refine W.region ?_
       refine omv ?_
       refine ov (V_eqlP (by kernel_rfl) rfl rfl) ?_
       refine omv ?_
       refine on rfl rfl ?_
       refine on rfl rfl ?_
       refine ov (V_pick_t rfl rfl rfl) ?_
       refine omv ?_
       refine on rfl rfl ?_
       refine on rfl rfl ?_
       refine ov (V_pick_t rfl rfl rfl) ?_
       refine omv ?_
       refine on rfl rfl ?_
       refine on rfl rfl ?_
       refine ov (V_pick_t rfl rfl rfl) ?_
       refine nq ?_
       refine W.cond_true rfl rfl ?_
       refine sr ?_
       refine omv ?_
       refine omv ?_
       refine oy rfl rfl ?_
       refine omv ?_
       refine oy rfl rfl ?_
       refine ov (V_neqP (by kernel_rfl) rfl rfl) ?_
       refine oy rfl rfl ?_
       refine omv ?_
       refine oy rfl rfl ?_
       refine ov (v2 V_eql) ?_
       refine oy rfl rfl ?_
       refine ov (V_eqlB (by kernel_rfl) rfl rfl) ?_
       refine ov (V_pick_t rfl rfl rfl) ?_
       refine oas ?_
       refine nq ?_
       refine W.ret ?_
       refine WQ.then_ret ?_
       refine WQ.ret1 Try.results3 (.tmp rfl) ?_
       intro w' hp; exact ⟨by first | rfl | (simp; done) | (simp [*]; done) | simp_all, hp.forget⟩
   · by_cases hn8 : n > 80
     · refine W.region ?_
       refine omv ?_
       refine ov (V_eqlP (by kernel_rfl) rfl rfl) ?_
       refine omv ?_
       refine on rfl rfl ?_
       refine on rfl rfl ?_
       refine ov (V_pick_t rfl rfl rfl) ?_
       refine omv ?_
       refine on rfl rfl ?_
       refine on rfl rfl ?_
       refine ov (V_pick_t rfl rfl rfl) ?_
       refine omv ?_
       refine on rfl rfl ?_
       refine on rfl rfl ?_
       refine ov (V_pick_t rfl rfl rfl) ?_
       refine nq ?_
       refine W.cond_true rfl rfl ?_
       refine sr ?_
       refine omv ?_
       refine omv ?_
       refine oy rfl rfl ?_
       refine omv ?_
       refine oy rfl rfl ?_
       refine ov (V_neqP (by kernel_rfl) rfl rfl) ?_
       refine oy rfl rfl ?_
       refine omv ?_
       refine oy rfl rfl ?_
       refine ov (v2 V_eql) ?_
       refine oy rfl rfl ?_
       refine ov (V_eqlB (by kernel_rfl) rfl rfl) ?_
       refine ov (V_pick_t rfl rfl rfl) ?_
       refine oas ?_
       refine nq ?_
       refine W.ret ?_
       refine WQ.then_ret ?_
       refine WQ.ret1 Try.results3 (.tmp rfl) ?_
       intro w' hp; exact ⟨by first | rfl | (simp; done) | (simp [*]; done) | simp_all, hp.forget⟩
     · refine W.region ?_
       refine omv ?_
       refine ov (V_eqlP (by kernel_rfl) rfl rfl) ?_
       refine omv ?_
       refine on rfl rfl ?_
       refine on rfl rfl ?_
       refine ov (V_pick_t rfl rfl rfl) ?_
       refine omv ?_
       refine on rfl rfl ?_
       refine on rfl rfl ?_
       refine ov (V_pick_t rfl rfl rfl) ?_
       refine omv ?_
       refine on rfl rfl ?_
       refine on rfl rfl ?_
       refine ov (V_pick_t rfl rfl rfl) ?_
       refine nq ?_
       refine W.cond_true rfl rfl ?_
       refine sr ?_
       refine omv ?_
       refine omv ?_
       refine oy rfl rfl ?_
       refine omv ?_
       refine oy rfl rfl ?_
       refine ov (V_neqP (by kernel_rfl) rfl rfl) ?_
       refine oy rfl rfl ?_
       refine omv ?_
       refine oy rfl rfl ?_
       refine ov (v2 V_eql) ?_
       refine oy rfl rfl ?_
       refine ov (V_eqlB (by kernel_rfl) rfl rfl) ?_
       refine ov (V_pick_t rfl rfl rfl) ?_
       refine oas ?_
       refine nq ?_
       refine W.ret ?_
       refine WQ.then_ret ?_
       refine WQ.ret1 Try.results3 (.tmp rfl) ?_
       intro w' hp; exact ⟨by first | rfl | (simp; done) | (simp [*]; done) | simp_all, hp.forget⟩

end Go.Proofs.Ytnpnnafcdnefiaa