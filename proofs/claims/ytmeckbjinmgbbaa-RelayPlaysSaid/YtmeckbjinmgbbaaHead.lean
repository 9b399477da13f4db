/- Heads and envelopes, as bytes. -/
import Derived.Test.YtmeckbjinmgbbaaStamp5
import Derived.Test.YtmeckbjinmgbbaaXC
set_option linter.unusedVariables false
set_option linter.unusedSimpArgs false

namespace Go.Proofs.Ytmeckbjinmgbbaa
open Go.X
def hdB (p n : Int) : Bool := timeB p && timeB n
def hdL (pub : List Int) (p n : Int) : List Int := pub ++ highF p 4 ++ highF n 4
@[simp] theorem hdL_len {pub : List Int} {p n : Int} : (hdL pub p n).length = pub.length + 8 := by simp [hdL]
theorem hdL_bytes {pub : List Int} {p n : Int} (h : bytes pub) : bytes (hdL pub p n) := (h.app highF_bytes).app highF_bytes
/-- May an envelope be, with so long a body? -/
def heB (e : EnvS) (k : Nat) : Bool := acB e.fr && acB e.to && hdB e.prev e.n && decide (k ≤ 600)
theorem heB_of {e : EnvS} {k : Nat} (h : heB e k = true) : (0 ≤ e.fr ∧ e.fr < 8) ∧ (0 ≤ e.to ∧ e.to < 8) ∧ (0 ≤ e.prev ∧ e.prev ≤ 1000000) ∧ (0 ≤ e.n ∧ e.n ≤ 1000000) ∧ k ≤ 600 := by
  simp only [heB, hdB, acB, timeB, Bool.and_eq_true, decide_eq_true_eq] at h
  exact ⟨h.1.1.1, h.1.1.2, h.1.2.1, h.1.2.2, h.2⟩
def enL (e : EnvS) (l : List Int) : List Int := [e.fr, e.to] ++ e.commit ++ hdL e.pub e.prev e.n ++ highF l.length 2 ++ l
structure EnOK (e : EnvS) (A : Option Addr) (n cap : Nat) (l : List Int) : Prop where
  body : e.body = .slice A n cap
  c : e.commit.length = 32
  cb : bytes e.commit
  p : e.pub.length = 32
  pb : bytes e.pub
  lb : bytes l
  nl : n = l.length
  capn : n ≤ cap
  big : n ≤ 9223372036854775807
theorem enL_len {e : EnvS} {l : List Int} (h1 : e.commit.length = 32) (h2 : e.pub.length = 32) : (enL e l).length = 76 + l.length := by simp [enL, h1, h2]; omega
theorem enL_bytes {e : EnvS} {l : List Int} (h : heB e l.length = true) (h1 : bytes e.commit) (h2 : bytes e.pub) (h3 : bytes l) : bytes (enL e l) := by
  have hb := heB_of h
  exact ((((bytes_cons.2 ⟨⟨by omega, by omega⟩, bytes_cons.2 ⟨⟨by omega, by omega⟩, bytes_nil⟩⟩).app h1).app (hdL_bytes h2)).app highF_bytes).app h3

theorem hright_calls (pub : List Int) (p n : Int) (hpl : pub.length = 32) (w : World) :
    Calls Try.prog 113 [AG [(32, iv .u8 pub), (1, [.int .i64 p]), (1, [.int .i64 n])]].toArray w fun e w' => e = .returned (.bool (hdB p n)) ∧ HP w w' [] [] := by
 refine calls_of_W Try.func113 rfl Try.ntmps113 rfl rfl (HP.refl w []) ?_
 refine sr ?_
 refine obxa (fun b1 => ?_)
 refine oas ?_
 refine nx ?_
 refine ov (vfa0 32 1) ?_
 refine ov vld ?_
 refine ov (vfa0 33 1) ?_
 refine ov vld ?_
 refine ov (V_min rfl) ?_
 refine ov (v2 V_geq) ?_
 refine omv ?_
 refine WL.splitD rfl (fun g1 => ?_) (fun g1 => ?_)
 · refine oy rfl (decide_eq_true g1) ?_
   refine ov (vfa0 32 1) ?_
   refine oy rfl (decide_eq_true g1) ?_
   refine ov vld ?_
   refine oy rfl (decide_eq_true g1) ?_
   refine ov (vfa0 33 1) ?_
   refine oy rfl (decide_eq_true g1) ?_
   refine ov vld ?_
   refine oy rfl (decide_eq_true g1) ?_
   refine ov (V_max rfl) ?_
   refine oy rfl (decide_eq_true g1) ?_
   refine ov (v2 V_leq) ?_
   refine ov (V_pick_td rfl g1 rfl) ?_
   refine oas ?_
   refine nq ?_
   refine W.ret ?_
   refine WQ.ret1 Try.results113 (.tmp rfl) ?_
   intro w' hp; exact ⟨congrArg (fun b => Ending.returned (.bool b)) (by simp only [hdB, timeB]; first | rfl | (rw [Bool.eq_iff_iff]; simp; omega)), hp.forget⟩
 · refine on rfl (decide_eq_false g1) ?_
   refine on rfl (decide_eq_false g1) ?_
   refine on rfl (decide_eq_false g1) ?_
   refine on rfl (decide_eq_false g1) ?_
   refine on rfl (decide_eq_false g1) ?_
   refine on rfl (decide_eq_false g1) ?_
   refine ov (V_pick_fd rfl g1 rfl) ?_
   refine oas ?_
   refine nq ?_
   refine W.ret ?_
   refine WQ.ret1 Try.results113 (.tmp rfl) ?_
   intro w' hp; exact ⟨congrArg (fun b => Ending.returned (.bool b)) (by simp only [hdB, timeB]; first | rfl | (rw [Bool.eq_iff_iff]; simp; omega)), hp.forget⟩

theorem rhright_calls (pub : List Int) (p n : Int) (hpl : pub.length = 32) (w : World) :
    Calls Try.prog 139 [AG [(32, iv .u8 pub), (1, [.int .i64 p]), (1, [.int .i64 n])]].toArray w fun e w' => e = .returned (.bool (hdB p n)) ∧ HP w w' [] [] := by
 refine calls_of_W Try.func139 rfl Try.ntmps139 rfl rfl (HP.refl w []) ?_
 refine sr ?_
 refine obxa (fun b1 => ?_)
 refine oas ?_
 refine nx ?_
 refine ov (vfa0 32 1) ?_
 refine ov vld ?_
 refine ov (v2 V_geq) ?_
 refine omv ?_
 refine WL.splitD rfl (fun g1 => ?_) (fun g1 => ?_)
 · refine oy rfl (decide_eq_true g1) ?_
   refine ov (vfa0 32 1) ?_
   refine oy rfl (decide_eq_true g1) ?_
   refine ov vld ?_
   refine oy rfl (decide_eq_true g1) ?_
   refine ov (v2 V_leq) ?_
   refine ov (V_pick_td rfl g1 rfl) ?_
   refine omv ?_
   refine WL.splitD rfl (fun g2 => ?_) (fun g2 => ?_)
   · refine oy rfl (decide_eq_true g2) ?_
     refine ov (vfa0 33 1) ?_
     refine oy rfl (decide_eq_true g2) ?_
     refine ov vld ?_
     refine oy rfl (decide_eq_true g2) ?_
     refine ov (v2 V_geq) ?_
     refine ov (V_pick_td rfl g2 rfl) ?_
     refine omv ?_
     refine WL.splitD rfl (fun g3 => ?_) (fun g3 => ?_)
     · refine oy rfl (decide_eq_true g3) ?_
       refine ov (vfa0 33 1) ?_
       refine oy rfl (decide_eq_true g3) ?_
       refine ov vld ?_
       refine oy rfl (decide_eq_true g3) ?_
       refine ov (v2 V_leq) ?_
       refine ov (V_pick_td rfl g3 rfl) ?_
       refine oas ?_
       refine nq ?_
       refine W.ret ?_
       refine WQ.ret1 Try.results139 (.tmp rfl) ?_
       intro w' hp; exact ⟨congrArg (fun b => Ending.returned (.bool b)) (by simp only [hdB, timeB]; first | rfl | (rw [Bool.eq_iff_iff]; simp; omega)), hp.forget⟩
     · refine on rfl (decide_eq_false g3) ?_
       refine on rfl (decide_eq_false g3) ?_
       refine on rfl (decide_eq_false g3) ?_
       refine ov (V_pick_fd rfl g3 rfl) ?_
       refine oas ?_
       refine nq ?_
       refine W.ret ?_
       refine WQ.ret1 Try.results139 (.tmp rfl) ?_
       intro w' hp; exact ⟨congrArg (fun b => Ending.returned (.bool b)) (by simp only [hdB, timeB]; first | rfl | (rw [Bool.eq_iff_iff]; simp; omega)), hp.forget⟩
   · refine on rfl (decide_eq_false g2) ?_
     refine on rfl (decide_eq_false g2) ?_
     refine on rfl (decide_eq_false g2) ?_
     refine ov (V_pick_fd rfl g2 rfl) ?_
     refine omv ?_
     refine on rfl rfl ?_
     refine on rfl rfl ?_
     refine on rfl rfl ?_
     refine ov (V_pick_f rfl rfl rfl) ?_
     refine oas ?_
     refine nq ?_
     refine W.ret ?_
     refine WQ.ret1 Try.results139 (.tmp rfl) ?_
     intro w' hp; exact ⟨congrArg (fun b => Ending.returned (.bool b)) (by simp only [hdB, timeB]; first | rfl | (rw [Bool.eq_iff_iff]; simp; omega)), hp.forget⟩
 · refine on rfl (decide_eq_false g1) ?_
   refine on rfl (decide_eq_false g1) ?_
   refine on rfl (decide_eq_false g1) ?_
   refine ov (V_pick_fd rfl g1 rfl) ?_
   refine omv ?_
   refine on rfl rfl ?_
   refine on rfl rfl ?_
   refine on rfl rfl ?_
   refine ov (V_pick_f rfl rfl rfl) ?_
   refine omv ?_
   refine on rfl rfl ?_
   refine on rfl rfl ?_
   refine on rfl rfl ?_
   refine ov (V_pick_f rfl rfl rfl) ?_
   refine oas ?_
   refine nq ?_
   refine W.ret ?_
   refine WQ.ret1 Try.results139 (.tmp rfl) ?_
   intro w' hp; exact ⟨congrArg (fun b => Ending.returned (.bool b)) (by simp only [hdB, timeB]; first | rfl | (rw [Bool.eq_iff_iff]; simp; omega)), hp.forget⟩

theorem hbytes_calls (pub : List Int) (p n : Int) (hpl : pub.length = 32) (hpb : bytes pub) (hh : hdB p n = true) (w : World) :
    Calls Try.prog 77 [AG [(32, iv .u8 pub), (1, [.int .i64 p]), (1, [.int .i64 n])]].toArray w fun e w' => ∃ o : Gr, GrOK o 40 ∧ e = .returned (.tuple #[.slice (gA o) 40 (gC o), .int .i64 0]) ∧ HP w w' [] (gL o 40 (iv .u8 (hdL pub p n)) 5) := by
 refine calls_of_W Try.func77 rfl Try.ntmps77 rfl rfl (HP.refl w []) ?_
 refine sr ?_
 refine obxa (fun b1 => ?_)
 refine oas ?_
 refine oas ?_
 refine nq ?_
 refine W.seq ?_
 refine sr ?_
 refine ov (vlda 34) ?_
 refine cp rfl (fun w hp => hright_calls pub p n hpl w) ?_
 refine ov vnot ?_
 refine nq ?_
 refine W.cond_false rfl (by rw [hh]; rfl) ?_
 refine W.skip ?_
 refine WQ.then ?_
 refine W.seq ?_
 have hhb : (0 ≤ p ∧ p ≤ 1000000) ∧ 0 ≤ n ∧ n ≤ 1000000 := by simpa [hdB, timeB] using hh
 refine W.region ?_
 refine obsI (k := .u8) 5 1 [] (fun b8 => ?_)
 refine ov (vfa0 0 32) ?_
 refine ov (vslF 1 32) ?_
 refine oap0 5 1 (fun b11 c11 r11 h11 => ?_)
 refine oas ?_
 refine nx ?_
 refine omv ?_
 refine ov (vfa0 32 1) ?_
 refine ov vld ?_
 first | refine ov (vcvN .u64) ?_ | refine ov (vcv .u64) ?_
 refine cg rfl (fun w hp => high_calls _ 4 w sc) (fun b16 h16 => ?_)
 refine oap 5 1 (fun b17 c17 r17 h17 => ?_)
 refine oas ?_
 refine nx ?_
 refine omv ?_
 refine ov (vfa0 33 1) ?_
 refine ov vld ?_
 first | refine ov (vcvN .u64) ?_ | refine ov (vcv .u64) ?_
 refine cg rfl (fun w hp => high_calls _ 4 w sc) (fun b22 h22 => ?_)
 refine oap 5 1 (fun b23 c23 r23 h23 => ?_)
 refine oas ?_
 refine oas ?_
 refine nq ?_
 refine W.ret ?_
 refine WQ.ret2 Try.results77 (.tmp rfl) (.tmp rfl) ?_
 intro w' hp; exact ⟨some (b23, c23, r23), h23, rfl, hp.cov cov⟩

theorem rhbytes_calls (pub : List Int) (p n : Int) (hpl : pub.length = 32) (hpb : bytes pub) (hh : hdB p n = true) (w : World) :
    Calls Try.prog 121 [AG [(32, iv .u8 pub), (1, [.int .i64 p]), (1, [.int .i64 n])]].toArray w fun e w' => ∃ o : Gr, GrOK o 40 ∧ e = .returned (.tuple #[.slice (gA o) 40 (gC o), .int .i64 0]) ∧ HP w w' [] (gL o 40 (iv .u8 (hdL pub p n)) 5) := by
 refine calls_of_W Try.func121 rfl Try.ntmps121 rfl rfl (HP.refl w []) ?_
 refine sr ?_
 refine obxa (fun b1 => ?_)
 refine oas ?_
 refine oas ?_
 refine nq ?_
 refine W.seq ?_
 refine sr ?_
 refine ov (vlda 34) ?_
 refine cp rfl (fun w hp => rhright_calls pub p n hpl w) ?_
 refine ov vnot ?_
 refine nq ?_
 refine W.cond_false rfl (by rw [hh]; rfl) ?_
 refine W.skip ?_
 refine WQ.then ?_
 refine W.seq ?_
 have hhb : (0 ≤ p ∧ p ≤ 1000000) ∧ 0 ≤ n ∧ n ≤ 1000000 := by simpa [hdB, timeB] using hh
 refine W.region ?_
 refine obsI (k := .u8) 5 1 [] (fun b8 => ?_)
 refine ov (vfa0 0 32) ?_
 refine ov (vslF 1 32) ?_
 refine oap0 5 1 (fun b11 c11 r11 h11 => ?_)
 refine oas ?_
 refine nx ?_
 refine omv ?_
 refine ov (vfa0 32 1) ?_
 refine ov vld ?_
 first | refine ov (vcvN .u64) ?_ | refine ov (vcv .u64) ?_
 refine cgG rfl (fun w hp => rhigh_calls _ 4 w sc sc) (fun o16 h16 => ?_)
 refine oap 5 1 (fun b17 c17 r17 h17 => ?_)
 refine oas ?_
 refine nx ?_
 refine omv ?_
 refine ov (vfa0 33 1) ?_
 refine ov vld ?_
 first | refine ov (vcvN .u64) ?_ | refine ov (vcv .u64) ?_
 refine cgG rfl (fun w hp => rhigh_calls _ 4 w sc sc) (fun o22 h22 => ?_)
 refine oap 5 1 (fun b23 c23 r23 h23 => ?_)
 refine oas ?_
 refine oas ?_
 refine nq ?_
 refine W.ret ?_
 refine WQ.ret2 Try.results121 (.tmp rfl) (.tmp rfl) ?_
 intro w' hp; exact ⟨some (b23, c23, r23), h23, rfl, hp.cov cov⟩

theorem hren_calls (e : EnvS) (A : Option Addr) (n cap : Nat) (l : List Int) (he : EnOK e A n cap l) (w : World) :
    Calls Try.prog 76 [AG (enV e)].toArray w fun e' w' => e' = .returned (.bool (heB e n)) ∧ HP w w' [] [] := by
 obtain ⟨hbd, hec, hecb, hep, hepb, hlb, hnl, hcp, hbig⟩ := he
 unfold enV
 rw [hbd]
 refine calls_of_W Try.func76 rfl Try.ntmps76 rfl rfl (HP.refl w []) ?_
 refine sr ?_
 refine obxa (fun b1 => ?_)
 refine oas ?_
 refine nx ?_
 refine ov (vfa0 0 1) ?_
 refine ov vld ?_
 refine ov (vfa0 1 1) ?_
 refine ov vld ?_
 refine ov (V_min rfl) ?_
 refine ov (v2 V_geq) ?_
 refine omv ?_
 refine WL.splitD rfl (fun g1 => ?_) (fun g1 => ?_)
 · refine oy rfl (decide_eq_true g1) ?_
   refine ov (vfa0 0 1) ?_
   refine oy rfl (decide_eq_true g1) ?_
   refine ov vld ?_
   refine oy rfl (decide_eq_true g1) ?_
   refine ov (vfa0 1 1) ?_
   refine oy rfl (decide_eq_true g1) ?_
   refine ov vld ?_
   refine oy rfl (decide_eq_true g1) ?_
   refine ov (V_max rfl) ?_
   refine oy rfl (decide_eq_true g1) ?_
   refine ov (v2 V_lss) ?_
   refine ov (V_pick_td rfl g1 rfl) ?_
   refine omv ?_
   refine WL.splitD rfl (fun g2 => ?_) (fun g2 => ?_)
   · refine oy rfl (decide_eq_true g2) ?_
     refine ov (vfa0 34 34) ?_
     refine oy rfl (decide_eq_true g2) ?_
     refine ov (vlda 34) ?_
     refine oy rfl (decide_eq_true g2) ?_
     refine cp rfl (fun w hp => hright_calls e.pub e.prev e.n hep w) ?_
     refine ov (V_pick_td rfl g2 rfl) ?_
     refine omv ?_
     refine WL.split rfl (fun g3 => ?_) (fun g3 => ?_)
     · refine oy rfl g3 ?_
       refine ov (vfa0 68 1) ?_
       refine oy rfl g3 ?_
       refine ov vld ?_
       refine oy rfl g3 ?_
       refine ov vlenS ?_
       refine oy rfl g3 ?_
       refine ov (v2 V_leq) ?_
       refine ov (V_pick_t rfl g3 rfl) ?_
       refine oas ?_
       refine nq ?_
       refine W.ret ?_
       refine WQ.ret1 Try.results76 (.tmp rfl) ?_
       intro w' hp; exact ⟨congrArg (fun b => Ending.returned (.bool b)) (by simp only [heB, acB]; first | rfl | (rw [Bool.eq_iff_iff]; simp [*]; done) | (rw [Bool.eq_iff_iff]; simp [*]; omega)), hp.forget⟩
     · refine on rfl g3 ?_
       refine on rfl g3 ?_
       refine on rfl g3 ?_
       refine on rfl g3 ?_
       refine ov (V_pick_f rfl g3 rfl) ?_
       refine oas ?_
       refine nq ?_
       refine W.ret ?_
       refine WQ.ret1 Try.results76 (.tmp rfl) ?_
       intro w' hp; exact ⟨congrArg (fun b => Ending.returned (.bool b)) (by simp only [heB, acB]; first | rfl | (rw [Bool.eq_iff_iff]; simp [*]; done) | (rw [Bool.eq_iff_iff]; simp [*]; omega)), hp.forget⟩
   · refine on rfl (decide_eq_false g2) ?_
     refine on rfl (decide_eq_false g2) ?_
     refine on rfl (decide_eq_false g2) ?_
     refine ov (V_pick_fd rfl g2 rfl) ?_
     refine omv ?_
     refine on rfl rfl ?_
     refine on rfl rfl ?_
     refine on rfl rfl ?_
     refine on rfl rfl ?_
     refine ov (V_pick_f rfl rfl rfl) ?_
     refine oas ?_
     refine nq ?_
     refine W.ret ?_
     refine WQ.ret1 Try.results76 (.tmp rfl) ?_
     intro w' hp; exact ⟨congrArg (fun b => Ending.returned (.bool b)) (by simp only [heB, acB]; first | rfl | (rw [Bool.eq_iff_iff]; simp [*]; done) | (rw [Bool.eq_iff_iff]; simp [*]; omega)), hp.forget⟩
 · refine on rfl (decide_eq_false g1) ?_
   refine on rfl (decide_eq_false g1) ?_
   refine on rfl (decide_eq_false g1) ?_
   refine on rfl (decide_eq_false g1) ?_
   refine on rfl (decide_eq_false g1) ?_
   refine on rfl (decide_eq_false g1) ?_
   refine ov (V_pick_fd rfl g1 rfl) ?_
   refine omv ?_
   refine on rfl rfl ?_
   refine on rfl rfl ?_
   refine on rfl rfl ?_
   refine ov (V_pick_f rfl rfl rfl) ?_
   refine omv ?_
   refine on rfl rfl ?_
   refine on rfl rfl ?_
   refine on rfl rfl ?_
   refine on rfl rfl ?_
   refine ov (V_pick_f rfl rfl rfl) ?_
   refine oas ?_
   refine nq ?_
   refine W.ret ?_
   refine WQ.ret1 Try.results76 (.tmp rfl) ?_
   intro w' hp; exact ⟨congrArg (fun b => Ending.returned (.bool b)) (by simp only [heB, acB]; first | rfl | (rw [Bool.eq_iff_iff]; simp [*]; done) | (rw [Bool.eq_iff_iff]; simp [*]; omega)), hp.forget⟩

theorem rhren_calls (e : EnvS) (A : Option Addr) (n cap : Nat) (l : List Int) (he : EnOK e A n cap l) (w : World) :
    Calls Try.prog 120 [AG (enV e)].toArray w fun e' w' => e' = .returned (.bool (heB e n)) ∧ HP w w' [] [] := by
 obtain ⟨hbd, hec, hecb, hep, hepb, hlb, hnl, hcp, hbig⟩ := he
 unfold enV
 rw [hbd]
 refine calls_of_W Try.func120 rfl Try.ntmps120 rfl rfl (HP.refl w []) ?_
 refine sr ?_
 refine obxa (fun b1 => ?_)
 refine oas ?_
 refine nx ?_
 refine ov (vfa0 0 1) ?_
 refine ov vld ?_
 refine ov (v2 V_geq) ?_
 refine omv ?_
 refine WL.splitD rfl (fun g1 => ?_) (fun g1 => ?_)
 · refine oy rfl (decide_eq_true g1) ?_
   refine ov (vfa0 0 1) ?_
   refine oy rfl (decide_eq_true g1) ?_
   refine ov vld ?_
   refine oy rfl (decide_eq_true g1) ?_
   refine ov (v2 V_leq) ?_
   refine ov (V_pick_td rfl g1 rfl) ?_
   refine omv ?_
   refine WL.splitD rfl (fun g2 => ?_) (fun g2 => ?_)
   · refine oy rfl (decide_eq_true g2) ?_
     refine ov (vfa0 1 1) ?_
     refine oy rfl (decide_eq_true g2) ?_
     refine ov vld ?_
     refine oy rfl (decide_eq_true g2) ?_
     refine ov (v2 V_geq) ?_
     refine ov (V_pick_td rfl g2 rfl) ?_
     refine omv ?_
     refine WL.splitD rfl (fun g3 => ?_) (fun g3 => ?_)
     · refine oy rfl (decide_eq_true g3) ?_
       refine ov (vfa0 1 1) ?_
       refine oy rfl (decide_eq_true g3) ?_
       refine ov vld ?_
       refine oy rfl (decide_eq_true g3) ?_
       refine ov (v2 V_leq) ?_
       refine ov (V_pick_td rfl g3 rfl) ?_
       refine omv ?_
       refine WL.splitD rfl (fun g4 => ?_) (fun g4 => ?_)
       · refine oy rfl (decide_eq_true g4) ?_
         refine ov (vfa0 34 34) ?_
         refine oy rfl (decide_eq_true g4) ?_
         refine ov (vlda 34) ?_
         refine oy rfl (decide_eq_true g4) ?_
         refine cp rfl (fun w hp => rhright_calls e.pub e.prev e.n hep w) ?_
         refine ov (V_pick_td rfl g4 rfl) ?_
         refine omv ?_
         refine WL.split rfl (fun g5 => ?_) (fun g5 => ?_)
         · refine oy rfl g5 ?_
           refine ov (vfa0 68 1) ?_
           refine oy rfl g5 ?_
           refine ov vld ?_
           refine oy rfl g5 ?_
           refine ov vlenS ?_
           refine oy rfl g5 ?_
           refine ov (v2 V_leq) ?_
           refine ov (V_pick_t rfl g5 rfl) ?_
           refine oas ?_
           refine nq ?_
           refine W.ret ?_
           refine WQ.ret1 Try.results120 (.tmp rfl) ?_
           intro w' hp; exact ⟨congrArg (fun b => Ending.returned (.bool b)) (by simp only [heB, acB]; first | rfl | (rw [Bool.eq_iff_iff]; simp [*]; done) | (rw [Bool.eq_iff_iff]; simp [*]; omega)), hp.forget⟩
         · refine on rfl g5 ?_
           refine on rfl g5 ?_
           refine on rfl g5 ?_
           refine on rfl g5 ?_
           refine ov (V_pick_f rfl g5 rfl) ?_
           refine oas ?_
           refine nq ?_
           refine W.ret ?_
           refine WQ.ret1 Try.results120 (.tmp rfl) ?_
           intro w' hp; exact ⟨congrArg (fun b => Ending.returned (.bool b)) (by simp only [heB, acB]; first | rfl | (rw [Bool.eq_iff_iff]; simp [*]; done) | (rw [Bool.eq_iff_iff]; simp [*]; omega)), hp.forget⟩
       · refine on rfl (decide_eq_false g4) ?_
         refine on rfl (decide_eq_false g4) ?_
         refine on rfl (decide_eq_false g4) ?_
         refine ov (V_pick_fd rfl g4 rfl) ?_
         refine omv ?_
         refine on rfl rfl ?_
         refine on rfl rfl ?_
         refine on rfl rfl ?_
         refine on rfl rfl ?_
         refine ov (V_pick_f rfl rfl rfl) ?_
         refine oas ?_
         refine nq ?_
         refine W.ret ?_
         refine WQ.ret1 Try.results120 (.tmp rfl) ?_
         intro w' hp; exact ⟨congrArg (fun b => Ending.returned (.bool b)) (by simp only [heB, acB]; first | rfl | (rw [Bool.eq_iff_iff]; simp [*]; done) | (rw [Bool.eq_iff_iff]; simp [*]; omega)), hp.forget⟩
     · refine on rfl (decide_eq_false g3) ?_
       refine on rfl (decide_eq_false g3) ?_
       refine on rfl (decide_eq_false g3) ?_
       refine ov (V_pick_fd rfl g3 rfl) ?_
       refine omv ?_
       refine on rfl rfl ?_
       refine on rfl rfl ?_
       refine on rfl rfl ?_
       refine ov (V_pick_f rfl rfl rfl) ?_
       refine omv ?_
       refine on rfl rfl ?_
       refine on rfl rfl ?_
       refine on rfl rfl ?_
       refine on rfl rfl ?_
       refine ov (V_pick_f rfl rfl rfl) ?_
       refine oas ?_
       refine nq ?_
       refine W.ret ?_
       refine WQ.ret1 Try.results120 (.tmp rfl) ?_
       intro w' hp; exact ⟨congrArg (fun b => Ending.returned (.bool b)) (by simp only [heB, acB]; first | rfl | (rw [Bool.eq_iff_iff]; simp [*]; done) | (rw [Bool.eq_iff_iff]; simp [*]; omega)), hp.forget⟩
   · refine on rfl (decide_eq_false g2) ?_
     refine on rfl (decide_eq_false g2) ?_
     refine on rfl (decide_eq_false g2) ?_
     refine ov (V_pick_fd rfl g2 rfl) ?_
     refine omv ?_
     refine on rfl rfl ?_
     refine on rfl rfl ?_
     refine on rfl rfl ?_
     refine ov (V_pick_f rfl rfl rfl) ?_
     refine omv ?_
     refine on rfl rfl ?_
     refine on rfl rfl ?_
     refine on rfl rfl ?_
     refine ov (V_pick_f rfl rfl rfl) ?_
     refine omv ?_
     refine on rfl rfl ?_
     refine on rfl rfl ?_
     refine on rfl rfl ?_
     refine on rfl rfl ?_
     refine ov (V_pick_f rfl rfl rfl) ?_
     refine oas ?_
     refine nq ?_
     refine W.ret ?_
     refine WQ.ret1 Try.results120 (.tmp rfl) ?_
     intro w' hp; exact ⟨congrArg (fun b => Ending.returned (.bool b)) (by simp only [heB, acB]; first | rfl | (rw [Bool.eq_iff_iff]; simp [*]; done) | (rw [Bool.eq_iff_iff]; simp [*]; omega)), hp.forget⟩
 · refine on rfl (decide_eq_false g1) ?_
   refine on rfl (decide_eq_false g1) ?_
   refine on rfl (decide_eq_false g1) ?_
   refine ov (V_pick_fd rfl g1 rfl) ?_
   refine omv ?_
   refine on rfl rfl ?_
   refine on rfl rfl ?_
   refine on rfl rfl ?_
   refine ov (V_pick_f rfl rfl rfl) ?_
   refine omv ?_
   refine on rfl rfl ?_
   refine on rfl rfl ?_
   refine on rfl rfl ?_
   refine ov (V_pick_f rfl rfl rfl) ?_
   refine omv ?_
   refine on rfl rfl ?_
   refine on rfl rfl ?_
   refine on rfl rfl ?_
   refine ov (V_pick_f rfl rfl rfl) ?_
   refine omv ?_
   refine on rfl rfl ?_
   refine on rfl rfl ?_
   refine on rfl rfl ?_
   refine on rfl rfl ?_
   refine ov (V_pick_f rfl rfl rfl) ?_
   refine oas ?_
   refine nq ?_
   refine W.ret ?_
   refine WQ.ret1 Try.results120 (.tmp rfl) ?_
   intro w' hp; exact ⟨congrArg (fun b => Ending.returned (.bool b)) (by simp only [heB, acB]; first | rfl | (rw [Bool.eq_iff_iff]; simp [*]; done) | (rw [Bool.eq_iff_iff]; simp [*]; omega)), hp.forget⟩

end Go.Proofs.Ytmeckbjinmgbbaa