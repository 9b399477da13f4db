/- The document's relay: tags, an envelope sent. -/
import Derived.Test.YtmeckbjinmgbbaaR20
set_option linter.unusedVariables false
set_option linter.unusedSimpArgs false

namespace Go.Proofs.Ytmeckbjinmgbbaa
open Go.X
theorem zbytesR {n : Nat} : bytes (List.replicate n 0) := fun c hc => by rw [List.eq_of_mem_replicate hc]; omega

theorem rtag20_calls (link : List Int) (hl : link.length = 32) (hlb : bytes link) (e : EnvS) (A : Option Addr) (n cap : Nat) (l : List Int) (he : EnOK e A n cap l) (hh : heB e n = true) (w : World) (hs : SrW w 1 A n (iv .u8 l)) :
    Calls Try.prog 61 [AG [(32, iv .u8 link)], AG (enV e)].toArray w fun e' w' => e' = .returned (.tuple #[AG [(32, iv .u8 (tgL link e l))], .int .i64 0]) ∧ HP w w' [] [] := by
 have he0 := he
 obtain ⟨hbd, hec, hecb, hep, hepb, hlb2, hnl, hcp, hbig⟩ := he
 subst hnl
 have hb5 := (heB_of hh).2.2.2.2
 have heb := enL_bytes hh hecb hepb hlb2
 have hel := enL_len (l := l) hec hep
 unfold enV
 refine calls_of_W Try.func61 rfl Try.ntmps61 rfl rfl (HP.refl w []) ?_
 refine sr ?_
 refine obxa (fun b2 => ?_)
 refine obxa (fun b3 => ?_)
 refine oal [(32, List.replicate 32 (.int .u8 0))] (fun b4 => ?_)
 refine oas ?_
 refine nx ?_
 refine ov (vlda 69) ?_
 refine cgG rfl (fun w hp => rhenv_calls e A l.length cap l he0 hh w (hs.old0 w hp)) (fun o10 h10 => ?_)
 refine omv ?_
 refine ov vex ?_
 refine ov vex ?_
 refine oas ?_
 refine oas ?_
 refine nq ?_
 refine W.seq ?_
 refine sr ?_
 refine omv ?_
 refine ov (v2 V_neq) ?_
 refine nq ?_
 refine W.cond_false rfl rfl ?_
 refine W.skip ?_
 refine WQ.then ?_
 refine sr ?_
 refine ov (vlda 32) ?_
 refine omv ?_
 refine cp rfl (fun w hp => rtag_calls _ _ _ _ _ w sc sc sw sc sc sc) ?_
 refine osta 32 ?_
 refine oas ?_
 refine nq ?_
 refine W.ret ?_
 refine WQ.ret2 Try.results61 (.cellA 32 (by kernel_rfl) rfl at_ (by rfl)) (.tmp rfl) ?_
 intro w' hp; exact ⟨by first | rfl | (simp; done) | (simp [*]; done) | simp_all, hp.forget⟩

theorem rtag20_bad (link : List Int) (hl : link.length = 32) (e : EnvS) (A : Option Addr) (n cap : Nat) (l : List Int) (he : EnOK e A n cap l) (hh : ¬ heB e n = true) (w : World) :
    Calls Try.prog 61 [AG [(32, iv .u8 link)], AG (enV e)].toArray w fun e' w' => e' = .returned (.tuple #[AG [(32, iv .u8 (List.replicate 32 0))], .int .i64 1]) ∧ HP w w' [] [] := by
 have he0 := he
 obtain ⟨hbd, hec, hecb, hep, hepb, hlb2, hnl, hcp, hbig⟩ := he
 subst hnl
 unfold enV
 refine calls_of_W Try.func61 rfl Try.ntmps61 rfl rfl (HP.refl w []) ?_
 refine sr ?_
 refine obxa (fun b2 => ?_)
 refine obxa (fun b3 => ?_)
 refine oal [(32, List.replicate 32 (.int .u8 0))] (fun b4 => ?_)
 refine oas ?_
 refine nx ?_
 refine ov (vlda 69) ?_
 refine cp rfl (fun w hp => rhenv_calls_bad e A l.length cap l he0 hh w) ?_
 refine omv ?_
 refine ov vex ?_
 refine ov vex ?_
 refine oas ?_
 refine oas ?_
 refine nq ?_
 refine W.seq ?_
 refine sr ?_
 refine omv ?_
 refine ov (v2 V_neq) ?_
 refine nq ?_
 refine W.cond_true rfl rfl ?_
 refine sr ?_
 refine ov (vbI 32 .u8 0 []) ?_
 refine omv ?_
 refine osta 32 ?_
 refine oas ?_
 refine nq ?_
 refine W.ret ?_
 refine WQ.then_ret ?_
 refine WQ.ret2 Try.results61 (.cellA 32 (by kernel_rfl) rfl at_ (by rfl)) (.tmp rfl) ?_
 intro w' hp; exact ⟨by first | rfl | (simp; done) | (simp [*]; done) | simp_all, hp.forget⟩

theorem rsend20_bad1 (b : Nat) (e : EnvS) (A : Option Addr) (n cap : Nat) (l : List Int) (he : EnOK e A n cap l) (hh : ¬ heB e n = true) (tag : List Int) (htl : tag.length = 32) (htb : bytes tag) (now : Int) (w : World) :
    Calls Try.prog 62 [.pointer (some ⟨b, 0, none⟩), AG (enV e), AG [(32, iv .u8 tag)], .int .i64 now].toArray w fun e' w' => e' = .returned (.tuple #[AG (stV StampS.zero), .int .i64 1]) ∧ HP w w' [] [] := by
 have he0 := he
 obtain ⟨hbd, hec, hecb, hep, hepb, hlb2, hnl, hcp, hbig⟩ := he
 subst hnl
 unfold enV
 refine calls_of_W Try.func62 rfl Try.ntmps62 rfl rfl (HP.refl w []) ?_
 refine sr ?_
 refine obxa (fun b5 => ?_)
 refine obxa (fun b6 => ?_)
 refine oal [(1, [.int .i64 0]), (1, [.int .i64 0]), (1, [.int .i64 0]), (1, [.int .i64 0]), (32, List.replicate 32 (.int .u8 0)), (32, List.replicate 32 (.int .u8 0))] (fun b8 => ?_)
 refine oas ?_
 refine nx ?_
 refine ov (vbI 32 .u8 0 []) ?_
 refine ov (vlda 69) ?_
 refine cp rfl (fun w hp => rtag20_bad (List.replicate 32 0) rfl e A l.length cap l he0 hh w) ?_
 refine omv ?_
 refine ov vex ?_
 refine ov vex ?_
 refine oal [(32, List.replicate 32 (.int .u8 0))] (fun b10 => ?_)
 refine osta 32 ?_
 refine oas ?_
 refine nq ?_
 refine W.seq ?_
 refine sr ?_
 refine omv ?_
 refine ov (v2 V_neq) ?_
 refine omv ?_
 refine on rfl rfl ?_
 refine on rfl rfl ?_
 refine on rfl rfl ?_
 refine on rfl rfl ?_
 refine on rfl rfl ?_
 refine ov (V_pick_t rfl rfl rfl) ?_
 refine omv ?_
 refine on rfl rfl ?_
 refine on rfl rfl ?_
 refine on rfl rfl ?_
 refine ov (V_pick_t rfl rfl rfl) ?_
 refine nq ?_
 refine W.cond_true rfl rfl ?_
 refine sr ?_
 refine ov (V_build (by kernel_rfl) (zi (zs := [(1, [.int .i64 0]), (1, [.int .i64 0]), (1, [.int .i64 0]), (1, [.int .i64 0]), (32, List.replicate 32 (.int .u8 0)), (32, List.replicate 32 (.int .u8 0))])) (.nil _)) ?_
 refine osta 68 ?_
 refine oas ?_
 refine nq ?_
 refine W.ret ?_
 refine WQ.then_ret ?_
 refine WQ.ret2 Try.results62 (.cellA 68 (by kernel_rfl) rfl at_ (by rfl)) (.tmp rfl) ?_
 intro w' hp; exact ⟨rfl, hp.forget⟩

theorem rsend20_bad2 (b : Nat) (e : EnvS) (A : Option Addr) (n cap : Nat) (l : List Int) (he : EnOK e A n cap l) (hh : heB e n = true) (tag : List Int) (htl : tag.length = 32) (htb : bytes tag) (now : Int) (hbad : e.fr = e.to ∨ now < 0 ∨ 1000000 < now) (w : World) (hs : SrW w 1 A n (iv .u8 l)) :
    Calls Try.prog 62 [.pointer (some ⟨b, 0, none⟩), AG (enV e), AG [(32, iv .u8 tag)], .int .i64 now].toArray w fun e' w' => e' = .returned (.tuple #[AG (stV StampS.zero), .int .i64 1]) ∧ HP w w' [] [] := by
 have he0 := he
 obtain ⟨hbd, hec, hecb, hep, hepb, hlb2, hnl, hcp, hbig⟩ := he
 subst hnl
 unfold enV
 refine calls_of_W Try.func62 rfl Try.ntmps62 rfl rfl (HP.refl w []) ?_
 refine sr ?_
 refine obxa (fun b5 => ?_)
 refine obxa (fun b6 => ?_)
 refine oal [(1, [.int .i64 0]), (1, [.int .i64 0]), (1, [.int .i64 0]), (1, [.int .i64 0]), (32, List.replicate 32 (.int .u8 0)), (32, List.replicate 32 (.int .u8 0))] (fun b8 => ?_)
 refine oas ?_
 refine nx ?_
 refine ov (vbI 32 .u8 0 []) ?_
 refine ov (vlda 69) ?_
 refine cp rfl (fun w hp => rtag20_calls (List.replicate 32 0) rfl zbytesR e A l.length cap l he0 hh w (hs.old0 w hp)) ?_
 refine omv ?_
 refine ov vex ?_
 refine ov vex ?_
 refine oal [(32, List.replicate 32 (.int .u8 0))] (fun b10 => ?_)
 refine osta 32 ?_
 refine oas ?_
 refine nq ?_
 refine W.seq ?_
 refine W.seq ?_
 by_cases h1 : e.fr = e.to
 · refine W.region ?_
   refine omv ?_
   refine ov (v2 V_neq) ?_
   refine omv ?_
   refine oy rfl rfl ?_
   refine ov (vfa0 0 1) ?_
   refine oy rfl rfl ?_
   refine ov vld ?_
   refine oy rfl rfl ?_
   refine ov (vfa0 1 1) ?_
   refine oy rfl rfl ?_
   refine ov vld ?_
   refine oy rfl rfl ?_
   refine ov (v2 V_eql) ?_
   refine ov (V_pick_f rfl rfl rfl) ?_
   refine omv ?_
   refine on rfl (decide_eq_true h1) ?_
   refine on rfl (decide_eq_true h1) ?_
   refine on rfl (decide_eq_true h1) ?_
   refine ov (V_pick_t rfl (decide_eq_true h1) rfl) ?_
   refine nq ?_
   refine W.cond_true rfl rfl ?_
   refine sr ?_
   refine ov (V_build (by kernel_rfl) (zi (zs := [(1, [.int .i64 0]), (1, [.int .i64 0]), (1, [.int .i64 0]), (1, [.int .i64 0]), (32, List.replicate 32 (.int .u8 0)), (32, List.replicate 32 (.int .u8 0))])) (.nil _)) ?_
   refine osta 68 ?_
   refine oas ?_
   refine nq ?_
   refine W.ret ?_
   refine WQ.then_ret ?_
   refine WQ.ret2 Try.results62 (.cellA 68 (by kernel_rfl) rfl at_ (by rfl)) (.tmp rfl) ?_
   intro w' hp; exact ⟨rfl, hp.forget⟩
 · refine W.region ?_
   refine omv ?_
   refine ov (v2 V_neq) ?_
   refine omv ?_
   refine oy rfl rfl ?_
   refine ov (vfa0 0 1) ?_
   refine oy rfl rfl ?_
   refine ov vld ?_
   refine oy rfl rfl ?_
   refine ov (vfa0 1 1) ?_
   refine oy rfl rfl ?_
   refine ov vld ?_
   refine oy rfl rfl ?_
   refine ov (v2 V_eql) ?_
   refine ov (V_pick_f rfl rfl rfl) ?_
   refine omv ?_
   refine oy rfl (decide_eq_false h1) ?_
   refine omv ?_
   refine oy rfl (decide_eq_false h1) ?_
   refine cp rfl (fun w hp => rtime_calls _ w) ?_
   refine oy rfl (decide_eq_false h1) ?_
   refine ov vnot ?_
   refine ov (V_pick_f rfl (decide_eq_false h1) rfl) ?_
   refine nq ?_
   refine W.cond_true rfl (by rw [show timeB now = false by simp [timeB]; omega]; rfl) ?_
   refine sr ?_
   refine ov (V_build (by kernel_rfl) (zi (zs := [(1, [.int .i64 0]), (1, [.int .i64 0]), (1, [.int .i64 0]), (1, [.int .i64 0]), (32, List.replicate 32 (.int .u8 0)), (32, List.replicate 32 (.int .u8 0))])) (.nil _)) ?_
   refine osta 68 ?_
   refine oas ?_
   refine nq ?_
   refine W.ret ?_
   refine WQ.then_ret ?_
   refine WQ.ret2 Try.results62 (.cellA 68 (by kernel_rfl) rfl at_ (by rfl)) (.tmp rfl) ?_
   intro w' hp; exact ⟨rfl, hp.forget⟩

theorem rsend20_none1 (root : List Int) (hrl : root.length = 32) (hrb : bytes root) (ticks : Int) (hti : 1 ≤ ticks) (b : Nat) (ps : List (Option Nat)) (h8 : ps.length = 8) (e : EnvS) (A : Option Addr) (n cap : Nat) (l : List Int) (he : EnOK e A n cap l) (hh : heB e n = true) (tag : List Int) (htl : tag.length = 32) (htb : bytes tag) (now : Int) (hok : ¬ (e.fr = e.to ∨ now < 0 ∨ 1000000 < now)) (hno : ofP ps e.fr = none) (w : World) (hR : AtW w b (rlS root ticks ps)) (hs : SrW w 1 A n (iv .u8 l)) :
    Calls Try.prog 62 [.pointer (some ⟨b, 0, none⟩), AG (enV e), AG [(32, iv .u8 tag)], .int .i64 now].toArray w fun e' w' => e' = .returned (.tuple #[AG (stV StampS.zero), .int .i64 7]) ∧ HP w w' [] [] := by
 have he0 := he
 obtain ⟨hbd, hec, hecb, hep, hepb, hlb2, hnl, hcp, hbig⟩ := he
 subst hnl
 unfold enV
 refine calls_of_W Try.func62 rfl Try.ntmps62 rfl rfl (HP.refl w []) ?_
 refine sr ?_
 refine obxa (fun b5 => ?_)
 refine obxa (fun b6 => ?_)
 refine oal [(1, [.int .i64 0]), (1, [.int .i64 0]), (1, [.int .i64 0]), (1, [.int .i64 0]), (32, List.replicate 32 (.int .u8 0)), (32, List.replicate 32 (.int .u8 0))] (fun b8 => ?_)
 refine oas ?_
 refine nx ?_
 refine ov (vbI 32 .u8 0 []) ?_
 refine ov (vlda 69) ?_
 refine cp rfl (fun w hp => rtag20_calls (List.replicate 32 0) rfl zbytesR e A l.length cap l he0 hh w (hs.old0 w hp)) ?_
 refine omv ?_
 refine ov vex ?_
 refine ov vex ?_
 refine oal [(32, List.replicate 32 (.int .u8 0))] (fun b10 => ?_)
 refine osta 32 ?_
 refine oas ?_
 refine nq ?_
 refine W.seq ?_
 refine sr ?_
 refine omv ?_
 refine ov (v2 V_neq) ?_
 refine omv ?_
 refine oy rfl rfl ?_
 refine ov (vfa0 0 1) ?_
 refine oy rfl rfl ?_
 refine ov vld ?_
 refine oy rfl rfl ?_
 refine ov (vfa0 1 1) ?_
 refine oy rfl rfl ?_
 refine ov vld ?_
 refine oy rfl rfl ?_
 refine ov (v2 V_eql) ?_
 refine ov (V_pick_f rfl rfl rfl) ?_
 refine omv ?_
 refine oy rfl (decide_eq_false (by omega)) ?_
 refine omv ?_
 refine oy rfl (decide_eq_false (by omega)) ?_
 refine cp rfl (fun w hp => rtime_calls _ w) ?_
 refine oy rfl (decide_eq_false (by omega)) ?_
 refine ov vnot ?_
 refine ov (V_pick_f rfl (decide_eq_false (by omega)) rfl) ?_
 refine nq ?_
 refine W.cond_false rfl (by rw [show timeB now = true by simp [timeB]; omega]; rfl) ?_
 refine W.skip ?_
 refine WQ.then ?_
 refine sr ?_
 refine omv ?_
 refine ov (vfa0 0 1) ?_
 refine ov vld ?_
 refine cp (v := .pointer none) rfl (fun w hp => (rof20_calls root hrl ticks b ps h8 e.fr w hat).mono fun e w' ⟨h1, h2⟩ => ⟨by rw [h1, hno]; rfl, h2⟩) ?_
 refine oas ?_
 refine nx ?_
 refine omv ?_
 refine ov (vfa0 1 1) ?_
 refine ov vld ?_
 refine cp rfl (fun w hp => rof20_calls root hrl ticks b ps h8 e.to w hat) ?_
 refine oas ?_
 refine nq ?_
 refine W.seq ?_
 refine sr ?_
 refine omv ?_
 refine ov (V_eqlP (by kernel_rfl) rfl rfl) ?_
 refine omv ?_
 refine on rfl rfl ?_
 refine on rfl rfl ?_
 refine ov (V_pick_t rfl rfl rfl) ?_
 refine nq ?_
 refine W.cond_true rfl rfl ?_
 refine sr ?_
 refine ov (V_build (by kernel_rfl) (zi (zs := [(1, [.int .i64 0]), (1, [.int .i64 0]), (1, [.int .i64 0]), (1, [.int .i64 0]), (32, List.replicate 32 (.int .u8 0)), (32, List.replicate 32 (.int .u8 0))])) (.nil _)) ?_
 refine osta 68 ?_
 refine oas ?_
 refine nq ?_
 refine W.ret ?_
 refine WQ.then_ret ?_
 refine WQ.ret2 Try.results62 (.cellA 68 (by kernel_rfl) rfl at_ (by rfl)) (.tmp rfl) ?_
 intro w' hp; exact ⟨rfl, hp.forget⟩

theorem rsend20_none2 (root : List Int) (hrl : root.length = 32) (hrb : bytes root) (ticks : Int) (hti : 1 ≤ ticks) (b : Nat) (ps : List (Option Nat)) (h8 : ps.length = 8) (e : EnvS) (A : Option Addr) (n cap : Nat) (l : List Int) (he : EnOK e A n cap l) (hh : heB e n = true) (tag : List Int) (htl : tag.length = 32) (htb : bytes tag) (now : Int) (hok : ¬ (e.fr = e.to ∨ now < 0 ∨ 1000000 < now)) (p : Nat) (hyes : ofP ps e.fr = some p) (hno : ofP ps e.to = none) (w : World) (hR : AtW w b (rlS root ticks ps)) (hs : SrW w 1 A n (iv .u8 l)) :
    Calls Try.prog 62 [.pointer (some ⟨b, 0, none⟩), AG (enV e), AG [(32, iv .u8 tag)], .int .i64 now].toArray w fun e' w' => e' = .returned (.tuple #[AG (stV StampS.zero), .int .i64 7]) ∧ HP w w' [] [] := by
 have he0 := he
 obtain ⟨hbd, hec, hecb, hep, hepb, hlb2, hnl, hcp, hbig⟩ := he
 subst hnl
 unfold enV
 refine calls_of_W Try.func62 rfl Try.ntmps62 rfl rfl (HP.refl w []) ?_
 refine sr ?_
 refine obxa (fun b5 => ?_)
 refine obxa (fun b6 => ?_)
 refine oal [(1, [.int .i64 0]), (1, [.int .i64 0]), (1, [.int .i64 0]), (1, [.int .i64 0]), (32, List.replicate 32 (.int .u8 0)), (32, List.replicate 32 (.int .u8 0))] (fun b8 => ?_)
 refine oas ?_
 refine nx ?_
 refine ov (vbI 32 .u8 0 []) ?_
 refine ov (vlda 69) ?_
 refine cp rfl (fun w hp => rtag20_calls (List.replicate 32 0) rfl zbytesR e A l.length cap l he0 hh w (hs.old0 w hp)) ?_
 refine omv ?_
 refine ov vex ?_
 refine ov vex ?_
 refine oal [(32, List.replicate 32 (.int .u8 0))] (fun b10 => ?_)
 refine osta 32 ?_
 refine oas ?_
 refine nq ?_
 refine W.seq ?_
 refine sr ?_
 refine omv ?_
 refine ov (v2 V_neq) ?_
 refine omv ?_
 refine oy rfl rfl ?_
 refine ov (vfa0 0 1) ?_
 refine oy rfl rfl ?_
 refine ov vld ?_
 refine oy rfl rfl ?_
 refine ov (vfa0 1 1) ?_
 refine oy rfl rfl ?_
 refine ov vld ?_
 refine oy rfl rfl ?_
 refine ov (v2 V_eql) ?_
 refine ov (V_pick_f rfl rfl rfl) ?_
 refine omv ?_
 refine oy rfl (decide_eq_false (by omega)) ?_
 refine omv ?_
 refine oy rfl (decide_eq_false (by omega)) ?_
 refine cp rfl (fun w hp => rtime_calls _ w) ?_
 refine oy rfl (decide_eq_false (by omega)) ?_
 refine ov vnot ?_
 refine ov (V_pick_f rfl (decide_eq_false (by omega)) rfl) ?_
 refine nq ?_
 refine W.cond_false rfl (by rw [show timeB now = true by simp [timeB]; omega]; rfl) ?_
 refine W.skip ?_
 refine WQ.then ?_
 refine sr ?_
 refine omv ?_
 refine ov (vfa0 0 1) ?_
 refine ov vld ?_
 refine cp (v := .pointer (some ⟨p, 0, none⟩)) rfl (fun w hp => (rof20_calls root hrl ticks b ps h8 e.fr w hat).mono fun e w' ⟨h1, h2⟩ => ⟨by rw [h1, hyes]; rfl, h2⟩) ?_
 refine oas ?_
 refine nx ?_
 refine omv ?_
 refine ov (vfa0 1 1) ?_
 refine ov vld ?_
 refine cp (v := .pointer none) rfl (fun w hp => (rof20_calls root hrl ticks b ps h8 e.to w hat).mono fun e w' ⟨h1, h2⟩ => ⟨by rw [h1, hno]; rfl, h2⟩) ?_
 refine oas ?_
 refine nq ?_
 refine W.seq ?_
 refine sr ?_
 refine omv ?_
 refine ov (V_eqlP (by kernel_rfl) rfl rfl) ?_
 refine omv ?_
 refine oy rfl rfl ?_
 refine omv ?_
 refine oy rfl rfl ?_
 refine ov (V_eqlP (by kernel_rfl) rfl rfl) ?_
 refine ov (V_pick_f rfl rfl rfl) ?_
 refine nq ?_
 refine W.cond_true rfl rfl ?_
 refine sr ?_
 refine ov (V_build (by kernel_rfl) (zi (zs := [(1, [.int .i64 0]), (1, [.int .i64 0]), (1, [.int .i64 0]), (1, [.int .i64 0]), (32, List.replicate 32 (.int .u8 0)), (32, List.replicate 32 (.int .u8 0))])) (.nil _)) ?_
 refine osta 68 ?_
 refine oas ?_
 refine nq ?_
 refine W.ret ?_
 refine WQ.then_ret ?_
 refine WQ.ret2 Try.results62 (.cellA 68 (by kernel_rfl) rfl at_ (by rfl)) (.tmp rfl) ?_
 intro w' hp; exact ⟨rfl, hp.forget⟩

set_option maxHeartbeats 1000000 in
theorem rsend20_calls (root : List Int) (hrl : root.length = 32) (hrb : bytes root) (ticks : Int) (hti : 1 ≤ ticks) (b : Nat) (ps : List (Option Nat)) (h8 : ps.length = 8) (e : EnvS) (A : Option Addr) (n cap : Nat) (l : List Int) (he : EnOK e A n cap l) (hh : heB e n = true) (tag : List Int) (htl : tag.length = 32) (htb : bytes tag) (now : Int) (hok : ¬ (e.fr = e.to ∨ now < 0 ∨ 1000000 < now)) (a c : PAcc) (hpa : AOK a) (hpc : AOK c) (hfr : ofP ps e.fr = some a.p) (hto : ofP ps e.to = some c.p) (hmany : c.many ≤ 1000000) (w : World) (hp0 : HP w w (((b, .cells (rlS root ticks ps) 130) :: (accR a ++ accR c) : List (Nat × Blk)).map (·.1)) ((b, .cells (rlS root ticks ps) 130) :: (accR a ++ accR c) : List (Nat × Blk))) (hs : ∀ w' M, HP w w' (((b, .cells (rlS root ticks ps) 130) :: (accR a ++ accR c) : List (Nat × Blk)).map (·.1)) M → SrW w' 1 A n (iv .u8 l)) :
    Calls Try.prog 62 [.pointer (some ⟨b, 0, none⟩), AG (enV e), AG [(32, iv .u8 tag)], .int .i64 now].toArray w fun e' w' => ∃ r : PAcc × PAcc, (AOK r.1 ∧ AOK r.2 ∧ r.1.p = a.p ∧ r.2.p = c.p ∧ r.1.abs = sndA a.abs c.abs e l tag now ∧ r.2.abs = sndC root ticks a.abs c.abs e l tag now) ∧ e' = .returned (.tuple #[AG (stV (sndS root ticks a.abs c.abs e l tag now)), .int .i64 (sndE a.abs c.abs e l tag now)]) ∧ HP w w' (((b, .cells (rlS root ticks ps) 130) :: (accR a ++ accR c) : List (Nat × Blk)).map (·.1)) ((b, .cells (rlS root ticks ps) 130) :: (accR r.1 ++ accR r.2) : List (Nat × Blk)) := by
 have he0 := he
 obtain ⟨hbd, hec, hecb, hep, hepb, hlb2, hnl, hcp, hbig⟩ := he
 subst hnl
 obtain ⟨link, idn, sig, b3, hs3, susp, t, nt, many, p, bx, tk, o, ms, oA, on, oc, ks, oL⟩ := a
 have hpa0 := hpa
 obtain ⟨al, alb, ai, as_, ab, ams, ao, am, abk, aon, aoc, akl, ak8, aonce⟩ := hpa0
 dsimp only at al alb ai as_ ab ams ao am abk aon aoc akl ak8 hfr hto hmany ⊢
 obtain ⟨link2, idn2, sig2, b32, hs32, susp2, t2, nt2, many2, p2, bx2, tk2, o2, ms2, oA2, on2, oc2, ks2, oL2⟩ := c
 have hpc0 := hpc
 obtain ⟨al2, alb2, ai2, as_2, ab2, ams2, ao2, am2, abk2, aon2, aoc2, akl2, ak82, aonce2⟩ := hpc0
 dsimp only at al2 alb2 ai2 as_2 ab2 ams2 ao2 am2 abk2 aon2 aoc2 akl2 ak82 hfr hto hmany ⊢
 have hhb := heB_of hh
 have hsfc : (stampF root ticks e now).commit.length = 32 := stampF_c hec
 have hsft : (stampF root ticks e now).tag.length = 32 := stampF_t
 have hmay : mayB e now = true := by simp only [mayB, timeB, acB, Bool.and_eq_true, decide_eq_true_eq]; omega
 have E : sndR (PAcc.abs ⟨link, idn, sig, b3, hs3, susp, t, nt, many, p, bx, tk, o, ms, oA, on, oc, ks, oL⟩) (PAcc.abs ⟨link2, idn2, sig2, b32, hs32, susp2, t2, nt2, many2, p2, bx2, tk2, o2, ms2, oA2, on2, oc2, ks2, oL2⟩) e l tag = rtE link susp e l tag ms2.length := by unfold sndR PAcc.abs; dsimp only; rw [List.length_map]
 simp only [accR, hid0, List.cons_append, List.nil_append, List.append_assoc] at hp0 hs ⊢
 unfold enV
 refine calls_of_W Try.func62 rfl Try.ntmps62 rfl rfl hp0 ?_
 refine W.seq ?_
 refine W.back oL ?_
 simp only [List.cons_append, List.nil_append, List.append_nil, List.append_assoc]
 refine W.back (gLM 138 o ms.length (ms.flatMap mlV) 138) ?_
 simp only [List.cons_append, List.nil_append, List.append_nil, List.append_assoc]
 refine W.back (ms.flatMap mbL) ?_
 simp only [List.cons_append, List.nil_append, List.append_nil, List.append_assoc]
 refine W.back oL2 ?_
 simp only [List.cons_append, List.nil_append, List.append_nil, List.append_assoc]
 refine W.back (gLM 138 o2 ms2.length (ms2.flatMap mlV) 138) ?_
 simp only [List.cons_append, List.nil_append, List.append_nil, List.append_assoc]
 refine W.back (ms2.flatMap mbL) ?_
 simp only [List.cons_append, List.nil_append, List.append_nil, List.append_assoc]
 refine W.region ?_
 refine obxa (fun b5 => ?_)
 refine obxa (fun b6 => ?_)
 refine oal [(1, [.int .i64 0]), (1, [.int .i64 0]), (1, [.int .i64 0]), (1, [.int .i64 0]), (32, List.replicate 32 (.int .u8 0)), (32, List.replicate 32 (.int .u8 0))] (fun b8 => ?_)
 refine oas ?_
 refine nx ?_
 refine ov (vbI 32 .u8 0 []) ?_
 refine ov (vlda 69) ?_
 refine cp rfl (fun w hp => rtag20_calls (List.replicate 32 0) rfl zbytesR e A l.length cap l he0 hh w (hs w _ hp)) ?_
 refine omv ?_
 refine ov vex ?_
 refine ov vex ?_
 refine oal [(32, List.replicate 32 (.int .u8 0))] (fun b10 => ?_)
 refine osta 32 ?_
 refine oas ?_
 refine nq ?_
 refine W.seq ?_
 refine sr ?_
 refine omv ?_
 refine ov (v2 V_neq) ?_
 refine omv ?_
 refine oy rfl rfl ?_
 refine ov (vfa0 0 1) ?_
 refine oy rfl rfl ?_
 refine ov vld ?_
 refine oy rfl rfl ?_
 refine ov (vfa0 1 1) ?_
 refine oy rfl rfl ?_
 refine ov vld ?_
 refine oy rfl rfl ?_
 refine ov (v2 V_eql) ?_
 refine ov (V_pick_f rfl rfl rfl) ?_
 refine omv ?_
 refine oy rfl (decide_eq_false (by omega)) ?_
 refine omv ?_
 refine oy rfl (decide_eq_false (by omega)) ?_
 refine cp rfl (fun w hp => rtime_calls _ w) ?_
 refine oy rfl (decide_eq_false (by omega)) ?_
 refine ov vnot ?_
 refine ov (V_pick_f rfl (decide_eq_false (by omega)) rfl) ?_
 refine nq ?_
 refine W.cond_false rfl (by rw [show timeB now = true by simp [timeB]; omega]; rfl) ?_
 refine W.skip ?_
 refine WQ.then ?_
 refine sr ?_
 refine omv ?_
 refine ov (vfa0 0 1) ?_
 refine ov vld ?_
 refine cp (v := .pointer (some ⟨p, 0, none⟩)) rfl (fun w hp => (rof20_calls root hrl ticks b ps h8 e.fr w hat).mono fun e w' ⟨h1, h2⟩ => ⟨by rw [h1, hfr]; rfl, h2⟩) ?_
 refine oas ?_
 refine nx ?_
 refine omv ?_
 refine ov (vfa0 1 1) ?_
 refine ov vld ?_
 refine cp (v := .pointer (some ⟨p2, 0, none⟩)) rfl (fun w hp => (rof20_calls root hrl ticks b ps h8 e.to w hat).mono fun e w' ⟨h1, h2⟩ => ⟨by rw [h1, hto]; rfl, h2⟩) ?_
 refine oas ?_
 refine nq ?_
 refine W.seq ?_
 refine sr ?_
 refine omv ?_
 refine ov (V_eqlP (by kernel_rfl) rfl rfl) ?_
 refine omv ?_
 refine oy rfl rfl ?_
 refine omv ?_
 refine oy rfl rfl ?_
 refine ov (V_eqlP (by kernel_rfl) rfl rfl) ?_
 refine ov (V_pick_f rfl rfl rfl) ?_
 refine nq ?_
 refine W.cond_false rfl rfl ?_
 refine W.skip ?_
 refine WQ.then ?_
 refine W.seq ?_
 apply W.j1
 · intro hJ
   refine dr (.q 0 (.q 1 (.q 2 (.q 3 (.q 4 (.l2 5 (.q 6 (.q 7 (.q 8 (.l 9 (.l 10 (.q 11 (.done))))))) 9 (.l 5 (.q 6 (.q 7 (.q 8 (.l 10 (.q 11 (.done))))))))))))) [(b5, _), (p, _)] ?_
   refine dq rfl (V_move rfl) ?_
   refine dq rfl vnil ?_
   refine dq rfl (vfa0 0 32) ?_
   refine dq rfl (vlda 32) ?_
   refine dq rfl (vlda 69) ?_
   refine WD.l2 ?_ ?_
   · refine dcp rfl rfl (fun w hp => rtag20_calls link al alb e A l.length cap l he0 hh w (hs w _ hp)) ?_
     refine dq rfl (V_move rfl) ?_
     refine dq rfl vex ?_
     refine dq rfl vex ?_
     refine WD.l ?_
     refine dal rfl [(32, List.replicate 32 (.int .u8 0))] (fun b14 => ?_)
     refine WD.l ?_
     refine dsta rfl 32 ?_
     refine dq rfl (V_assign rfl) ?_
     refine WD.done ?_
     exact WQ.pick (S' := [(0, _), (1, _), (2, _), (3, _), (5, _), (6, _), (8, _), (9, _), (11, _), (12, _), (13, _), (14, _), (37, _), (52, _)]) [0, 1, 2, 3, 5, 6, 8, 9, 11, 12, 13, 14, 37, 52] rfl (hJ b14)
   · refine dal rfl [(32, List.replicate 32 (.int .u8 0))] (fun b14 => ?_)
     refine WD.l ?_
     refine dcp rfl rfl (fun w hp => rtag20_calls link al alb e A l.length cap l he0 hh w (hs w _ hp)) ?_
     refine dq rfl (V_move rfl) ?_
     refine dq rfl vex ?_
     refine dq rfl vex ?_
     refine WD.l ?_
     refine dsta rfl 32 ?_
     refine dq rfl (V_assign rfl) ?_
     refine WD.done ?_
     exact WQ.pick (S' := [(0, _), (1, _), (2, _), (3, _), (5, _), (6, _), (8, _), (9, _), (11, _), (12, _), (13, _), (14, _), (37, _), (52, _)]) [0, 1, 2, 3, 5, 6, 8, 9, 11, 12, 13, 14, 37, 52] rfl (hJ b14)
 intro b14
 refine WQ.then ?_
 refine W.seq ?_
 refine W.seq ?_
 by_cases htg : tgL link e l = tag
 · refine W.region ?_
   refine ov (vlda 32) ?_
   refine ov (vlda 32) ?_
   refine ov (vneqI 3 32 .u8) ?_
   refine nq ?_
   refine W.cond_false rfl (by simp [htg]) ?_
   refine W.skip ?_
   refine WQ.then ?_
   refine W.seq ?_
   refine sr ?_
   refine omv ?_
   refine ov vnil ?_
   refine ov (vfa0 132 1) ?_
   refine ov vld ?_
   refine nq ?_
   refine W.cond rfl (fun g1 => ?_) (fun g1 => ?_)
   · refine W.seq ?_
     refine W.region ?_
     refine ov (V_build (by kernel_rfl) (zi (zs := [(1, [.int .i64 0]), (1, [.int .i64 0]), (1, [.int .i64 0]), (1, [.int .i64 0]), (32, List.replicate 32 (.int .u8 0)), (32, List.replicate 32 (.int .u8 0))])) (.nil _)) ?_
     refine osta 68 ?_
     refine oas ?_
     refine nq ?_
     refine W.ret ?_
     refine WQ.then_ret ?_
     refine WQ.ret2 Try.results62 (.cellA 68 (by kernel_rfl) rfl at_ (by rfl)) (.tmp rfl) ?_
     intro w' hp; obtain rfl : susp = true := by assumption
     rw [rt11 htg] at E
     obtain ⟨e1, e2, e3, e4⟩ := snd_no (root := root) (ticks := ticks) (now := now) (show sndR (PAcc.abs ⟨link, idn, sig, b3, hs3, true, t, nt, many, p, bx, tk, o, ms, oA, on, oc, ks, oL⟩) (PAcc.abs ⟨link2, idn2, sig2, b32, hs32, susp2, t2, nt2, many2, p2, bx2, tk2, o2, ms2, oA2, on2, oc2, ks2, oL2⟩) e l tag ≠ 0 by rw [E]; decide)
     rw [e1, e2]
     rw [E]; exact ⟨(⟨link, idn, sig, b3, hs3, true, t, nt, many, p, bx, tk, o, ms, oA, on, oc, ks, oL⟩, ⟨link2, idn2, sig2, b32, hs32, susp2, t2, nt2, many2, p2, bx2, tk2, o2, ms2, oA2, on2, oc2, ks2, oL2⟩), ⟨hpa, hpc, rfl, rfl, e3.symm, e4.symm⟩, rfl, hp.cov cov⟩
   · refine W.skip ?_
     refine WQ.then ?_
     refine W.seq ?_
     refine sr ?_
     refine omv ?_
     refine ov vnil ?_
     refine ov (vfa0 130 1) ?_
     refine ov vld ?_
     refine ov vnil ?_
     refine ov (vfa 0 1) ?_
     refine ov vld ?_
     refine ov vlenS ?_
     refine ov (v2 V_geq) ?_
     refine nq ?_
     refine W.cond_dec rfl (fun g2 => ?_) (fun g2 => ?_)
     · refine W.seq ?_
       refine W.region ?_
       refine ov (V_build (by kernel_rfl) (zi (zs := [(1, [.int .i64 0]), (1, [.int .i64 0]), (1, [.int .i64 0]), (1, [.int .i64 0]), (32, List.replicate 32 (.int .u8 0)), (32, List.replicate 32 (.int .u8 0))])) (.nil _)) ?_
       refine osta 68 ?_
       refine oas ?_
       refine nq ?_
       refine W.ret ?_
       refine WQ.then_ret ?_
       refine WQ.ret2 Try.results62 (.cellA 68 (by kernel_rfl) rfl at_ (by rfl)) (.tmp rfl) ?_
       intro w' hp; obtain rfl : susp = false := by assumption
       rw [rt8 htg (by omega)] at E
       obtain ⟨e1, e2, e3, e4⟩ := snd_no (root := root) (ticks := ticks) (now := now) (show sndR (PAcc.abs ⟨link, idn, sig, b3, hs3, false, t, nt, many, p, bx, tk, o, ms, oA, on, oc, ks, oL⟩) (PAcc.abs ⟨link2, idn2, sig2, b32, hs32, susp2, t2, nt2, many2, p2, bx2, tk2, o2, ms2, oA2, on2, oc2, ks2, oL2⟩) e l tag ≠ 0 by rw [E]; decide)
       rw [e1, e2]
       rw [E]; exact ⟨(⟨link, idn, sig, b3, hs3, false, t, nt, many, p, bx, tk, o, ms, oA, on, oc, ks, oL⟩, ⟨link2, idn2, sig2, b32, hs32, susp2, t2, nt2, many2, p2, bx2, tk2, o2, ms2, oA2, on2, oc2, ks2, oL2⟩), ⟨hpa, hpc, rfl, rfl, e3.symm, e4.symm⟩, rfl, hp.cov cov⟩
     · refine W.skip ?_
       refine WQ.then ?_
       refine sr ?_
       refine omv ?_
       refine ov vnil ?_
       refine ov (vfa0 131 1) ?_
       refine ov vld ?_
       refine omv ?_
       refine cm rfl (fun w hp => rtake_calls tk 5 10 t nt now 247 w (HP.held hp (tk, .cells (bkt 5 10 t nt) 247) mm) abk) ?_
       refine oas ?_
       refine nq ?_
       refine W.seq ?_
       refine sr ?_
       refine omv ?_
       refine ov (v2 V_neq) ?_
       refine nq ?_
       refine W.cond_dec rfl (fun g3 => ?_) (fun g3 => ?_)
       · refine W.seq ?_
         refine W.region ?_
         refine ov (V_build (by kernel_rfl) (zi (zs := [(1, [.int .i64 0]), (1, [.int .i64 0]), (1, [.int .i64 0]), (1, [.int .i64 0]), (32, List.replicate 32 (.int .u8 0)), (32, List.replicate 32 (.int .u8 0))])) (.nil _)) ?_
         refine omv ?_
         refine osta 68 ?_
         refine oas ?_
         refine nq ?_
         refine W.ret ?_
         refine WQ.then_ret ?_
         refine WQ.ret2 Try.results62 (.cellA 68 (by kernel_rfl) rfl at_ (by rfl)) (.tmp rfl) ?_
         intro w' hp; obtain rfl : susp = false := by assumption
         rw [rt0 htg (by omega)] at E
         obtain ⟨e1, e2, e3, e4⟩ := snd_rate (root := root) (ticks := ticks) (now := now) (show sndR (PAcc.abs ⟨link, idn, sig, b3, hs3, false, t, nt, many, p, bx, tk, o, ms, oA, on, oc, ks, oL⟩) (PAcc.abs ⟨link2, idn2, sig2, b32, hs32, susp2, t2, nt2, many2, p2, bx2, tk2, o2, ms2, oA2, on2, oc2, ks2, oL2⟩) e l tag = 0 by rw [E]) (show takeE 5 10 t nt now ≠ 0 by assumption)
         rw [e1, e2]
         exact ⟨(⟨link, idn, sig, b3, hs3, false, takeT t now, takeN 5 10 t nt now, many, p, bx, tk, o, ms, oA, on, oc, ks, oL⟩, ⟨link2, idn2, sig2, b32, hs32, susp2, t2, nt2, many2, p2, bx2, tk2, o2, ms2, oA2, on2, oc2, ks2, oL2⟩), ⟨⟨al, alb, ai, as_, ab, ams, ao, am, abk.take now, aon, aoc, akl, ak8, aonce⟩, hpc, rfl, rfl, e3.symm, e4.symm⟩, rfl, hp.cov cov⟩
       · refine W.skip ?_
         refine WQ.then ?_
         refine W.seq ?_
         apply W.j1
         · intro hJ
           refine dr (.q 0 (.q 1 (.q 2 (.q 3 (.q 4 (.q 5 (.q 6 (.q 7 (.q 8 (.q 9 (.l2 10 (.q 11 (.q 12 (.q 13 (.l 14 (.l 15 (.q 16 (.done))))))) 14 (.l 10 (.q 11 (.q 12 (.q 13 (.l 15 (.q 16 (.done)))))))))))))))))) [(b5, _), (b, _)] ?_
           refine dq rfl (V_move rfl) ?_
           refine dq rfl vnil ?_
           refine dq rfl (vfa0 0 32) ?_
           refine dq rfl (vlda 32) ?_
           refine dq rfl (V_move rfl) ?_
           refine dq rfl vnil ?_
           refine dq rfl (vfa0 32 1) ?_
           refine dq rfl vld ?_
           refine dq rfl (vlda 69) ?_
           refine dq rfl (V_move rfl) ?_
           refine WD.l2 ?_ ?_
           · refine dcp rfl rfl (fun w hp => rstamp_calls root ticks e now hrl hrb hti hec hecb hep w) ?_
             refine dq rfl (V_move rfl) ?_
             unfold stV
             refine dq rfl vex ?_
             refine dq rfl vex ?_
             refine WD.l ?_
             refine dal rfl [(1, [.int .i64 0]), (1, [.int .i64 0]), (1, [.int .i64 0]), (1, [.int .i64 0]), (32, List.replicate 32 (.int .u8 0)), (32, List.replicate 32 (.int .u8 0))] (fun b16 => ?_)
             refine WD.l ?_
             refine dsta rfl 68 ?_
             refine dq rfl (V_assign rfl) ?_
             refine WD.done ?_
             exact WQ.pick (S' := [(0, _), (1, _), (2, _), (3, _), (5, _), (6, _), (8, _), (9, _), (11, _), (12, _), (13, _), (14, _), (16, _), (37, _), (52, _), (65, _), (70, _), (80, _), (89, _)]) [0, 1, 2, 3, 5, 6, 8, 9, 11, 12, 13, 14, 16, 37, 52, 65, 70, 80, 89] rfl (hJ b16)
           · refine dal rfl [(1, [.int .i64 0]), (1, [.int .i64 0]), (1, [.int .i64 0]), (1, [.int .i64 0]), (32, List.replicate 32 (.int .u8 0)), (32, List.replicate 32 (.int .u8 0))] (fun b16 => ?_)
             refine WD.l ?_
             refine dcp rfl rfl (fun w hp => rstamp_calls root ticks e now hrl hrb hti hec hecb hep w) ?_
             refine dq rfl (V_move rfl) ?_
             unfold stV
             refine dq rfl vex ?_
             refine dq rfl vex ?_
             refine WD.l ?_
             refine dsta rfl 68 ?_
             refine dq rfl (V_assign rfl) ?_
             refine WD.done ?_
             exact WQ.pick (S' := [(0, _), (1, _), (2, _), (3, _), (5, _), (6, _), (8, _), (9, _), (11, _), (12, _), (13, _), (14, _), (16, _), (37, _), (52, _), (65, _), (70, _), (80, _), (89, _)]) [0, 1, 2, 3, 5, 6, 8, 9, 11, 12, 13, 14, 16, 37, 52, 65, 70, 80, 89] rfl (hJ b16)
         intro b16
         refine WQ.then ?_
         refine W.seq ?_
         refine dr (.q 0 (.q 1 (.q 2 (.q 3 (.q 4 (.q 5 (.l 6 (.done)))))))) [(b16, _), (b5, _), (p2, _)] ?_
         refine dq rfl (V_move rfl) ?_
         refine dq rfl vnil ?_
         refine dq rfl (vfa0 130 1) ?_
         refine dq rfl vld ?_
         refine dq rfl (vlda 69) ?_
         refine dq rfl (vlda 68) ?_
         refine WD.l ?_
         refine dcgP _ rfl rfl (fun w hp => rput19_calls bx2 o2 ms2 many2 ao2 ams2 e A l.length cap l he0 hh (stampF root ticks e now) hsfc hsft (by omega) (by omega) w (HP.here hp cov) (fun w1 M h1 => hs w1 _ (HP.transP hp pr h1))) (fun r112 h112 => ?_)
         simp only [List.cons_append, List.nil_append, List.append_nil, List.append_assoc]
         refine WD.back (gLM 138 r112.2 (ms2 ++ [(⟨⟨many2 + 1, e.at none 0 0, stampF root ticks e now, l⟩, r112.1⟩ : ML)]).length ((ms2 ++ [(⟨⟨many2 + 1, e.at none 0 0, stampF root ticks e now, l⟩, r112.1⟩ : ML)]).flatMap mlV) 138) ?_
         simp only [List.cons_append, List.nil_append, List.append_nil, List.append_assoc]
         refine WD.back ((ms2 ++ [(⟨⟨many2 + 1, e.at none 0 0, stampF root ticks e now, l⟩, r112.1⟩ : ML)]).flatMap mbL) ?_
         simp only [List.cons_append, List.nil_append, List.append_nil, List.append_assoc]
         refine WD.done ?_
         refine WQ.then ?_
         refine sr ?_
         refine ov (vlda 68) ?_
         refine osta 68 ?_
         refine oas ?_
         refine nq ?_
         refine W.ret ?_
         refine WQ.ret2 Try.results62 (.cellA 68 (by kernel_rfl) rfl at_ (by rfl)) (.tmp rfl) ?_
         intro w' hp; obtain rfl : susp = false := by assumption
         rw [rt0 htg (by omega)] at E
         obtain ⟨e1, e2, e3, e4⟩ := snd_yes (root := root) (ticks := ticks) (now := now) (show sndR (PAcc.abs ⟨link, idn, sig, b3, hs3, false, t, nt, many, p, bx, tk, o, ms, oA, on, oc, ks, oL⟩) (PAcc.abs ⟨link2, idn2, sig2, b32, hs32, susp2, t2, nt2, many2, p2, bx2, tk2, o2, ms2, oA2, on2, oc2, ks2, oL2⟩) e l tag = 0 by rw [E]) (show takeE 5 10 t nt now = 0 by first | (simpa using g3) | (simpa using g2) | (simpa using g1))
         rw [e1, e2]
         rw [show stV (stampF root ticks e now) = [(1, [.int .i64 (stampF root ticks e now).epoch]), (1, [.int .i64 (stampF root ticks e now).fr]), (1, [.int .i64 (stampF root ticks e now).to]), (1, [.int .i64 (stampF root ticks e now).time]), (32, iv .u8 (stampF root ticks e now).commit), (32, iv .u8 (stampF root ticks e now).tag)] from rfl]
         have hnew : MOK (⟨⟨many2 + 1, e.at none 0 0, stampF root ticks e now, l⟩, r112.1⟩ : ML) := ⟨⟨rfl, hec, hecb, hep, hepb, hlb2, hsfc, hsft, hh⟩, h112.1⟩
         refine ⟨(⟨link, idn, sig, b3, hs3, false, takeT t now, takeN 5 10 t nt now, many, p, bx, tk, o, ms, oA, on, oc, ks, oL⟩, ⟨link2, idn2, sig2, b32, hs32, susp2, t2, nt2, many2 + 1, p2, bx2, tk2, r112.2, ms2 ++ [(⟨⟨many2 + 1, e.at none 0 0, stampF root ticks e now, l⟩, r112.1⟩ : ML)], oA2, on2, oc2, ks2, oL2⟩), ⟨⟨al, alb, ai, as_, ab, ams, ao, am, abk.take now, aon, aoc, akl, ak8, aonce⟩, ?_, rfl, rfl, e3.symm, ?_⟩, rfl, hp.cov cov⟩
         · exact ⟨al2, alb2, ai2, as_2, ab2, ams2.snoc hnew (by omega), by rw [List.length_append]; exact h112.2, by dsimp only; omega, abk2, aon2, aoc2, akl2, ak82, aonce2⟩
         · rw [e4]; unfold PAcc.abs AAcc.put; simp
 · refine W.region ?_
   refine ov (vlda 32) ?_
   refine ov (vlda 32) ?_
   refine ov (vneqI 3 32 .u8) ?_
   refine nq ?_
   refine W.cond_true rfl (by simp [Ne.symm htg]) ?_
   refine sr ?_
   refine ov (V_build (by kernel_rfl) (zi (zs := [(1, [.int .i64 0]), (1, [.int .i64 0]), (1, [.int .i64 0]), (1, [.int .i64 0]), (32, List.replicate 32 (.int .u8 0)), (32, List.replicate 32 (.int .u8 0))])) (.nil _)) ?_
   refine osta 68 ?_
   refine oas ?_
   refine nq ?_
   refine W.ret ?_
   refine WQ.then_ret ?_
   refine WQ.ret2 Try.results62 (.cellA 68 (by kernel_rfl) rfl at_ (by rfl)) (.tmp rfl) ?_
   intro w' hp; rw [rt4 htg] at E
   obtain ⟨e1, e2, e3, e4⟩ := snd_no (root := root) (ticks := ticks) (now := now) (show sndR (PAcc.abs ⟨link, idn, sig, b3, hs3, susp, t, nt, many, p, bx, tk, o, ms, oA, on, oc, ks, oL⟩) (PAcc.abs ⟨link2, idn2, sig2, b32, hs32, susp2, t2, nt2, many2, p2, bx2, tk2, o2, ms2, oA2, on2, oc2, ks2, oL2⟩) e l tag ≠ 0 by rw [E]; decide)
   rw [e1, e2]
   rw [E]; exact ⟨(⟨link, idn, sig, b3, hs3, susp, t, nt, many, p, bx, tk, o, ms, oA, on, oc, ks, oL⟩, ⟨link2, idn2, sig2, b32, hs32, susp2, t2, nt2, many2, p2, bx2, tk2, o2, ms2, oA2, on2, oc2, ks2, oL2⟩), ⟨hpa, hpc, rfl, rfl, e3.symm, e4.symm⟩, rfl, hp.cov cov⟩

end Go.Proofs.Ytmeckbjinmgbbaa