/- A relay: tags; whether an envelope may be sent. -/
import Derived.Test.YtmeckbjinmgbbaaFet
set_option linter.unusedVariables false
set_option linter.unusedSimpArgs false

namespace Go.Proofs.Ytmeckbjinmgbbaa
open Go.X
def tgL (link : List Int) (e : EnvS) (l : List Int) : List Int := macF link (enL e l)
@[simp] theorem tgL_len {link : List Int} {e : EnvS} {l : List Int} : (tgL link e l).length = 32 := macF_len
@[simp] theorem tgL_bytes {link : List Int} {e : EnvS} {l : List Int} : bytes (tgL link e l) := macF_bytes
def rtE (link : List Int) (susp : Bool) (e : EnvS) (l tag : List Int) (k : Nat) : Int := if tgL link e l ≠ tag then 4 else if susp = true then 11 else if 8 ≤ k then 8 else 0
theorem rt4 {link : List Int} {susp : Bool} {e : EnvS} {l tag : List Int} {k : Nat} (h : tgL link e l ≠ tag) : rtE link susp e l tag k = 4 := if_pos h
theorem rt11 {link : List Int} {e : EnvS} {l tag : List Int} {k : Nat} (h : tgL link e l = tag) : rtE link true e l tag k = 11 := by unfold rtE; rw [if_neg (by simp [h])]; rfl
theorem rt8 {link : List Int} {e : EnvS} {l tag : List Int} {k : Nat} (h : tgL link e l = tag) (h8 : 8 ≤ k) : rtE link false e l tag k = 8 := by unfold rtE; rw [if_neg (by simp [h]), if_neg (by simp), if_pos h8]
theorem rt0 {link : List Int} {e : EnvS} {l tag : List Int} {k : Nat} (h : tgL link e l = tag) (h8 : ¬ 8 ≤ k) : rtE link false e l tag k = 0 := by unfold rtE; rw [if_neg (by simp [h]), if_neg (by simp), if_neg h8]

theorem tag20_calls (link : List Int) (hl : link.length = 32) (hlb : bytes link) (e : EnvS) (A : Option Addr) (n cap : Nat) (l : List Int) (he : EnOK e A n cap l) (hh : heB e n = true) (w : World) (hs : SrW w 1 A n (iv .u8 l)) :
    Calls Try.prog 13 [AG [(32, iv .u8 link)], AG (enV e)].toArray w fun e' w' => e' = .returned (.tuple #[AG [(32, iv .u8 (tgL link e l))], .int .i64 0]) ∧ HP w w' [] [] := by
 have he0 := he
 obtain ⟨hbd, hec, hecb, hep, hepb, hlb2, hnl, hcp, hbig⟩ := he
 subst hnl
 have hb5 := (heB_of hh).2.2.2.2
 have heb := enL_bytes hh hecb hepb hlb2
 have hel := enL_len (l := l) hec hep
 unfold enV
 refine calls_of_W Try.func13 rfl Try.ntmps13 rfl rfl (HP.refl w []) ?_
 refine sr ?_
 refine obxa (fun b2 => ?_)
 refine obxa (fun b3 => ?_)
 refine oal [(32, List.replicate 32 (.int .u8 0))] (fun b4 => ?_)
 refine oas ?_
 refine nx ?_
 refine ov (vlda 69) ?_
 refine cgG rfl (fun w hp => henv_calls e A l.length cap l he0 hh w sw) (fun o10 h10 => ?_)
 refine omv ?_
 refine ov vex ?_
 refine ov vex ?_
 refine oas ?_
 refine oas ?_
 refine nq ?_
 refine W.seq ?_
 refine sr ?_
 refine omv ?_
 refine ov (v2 V_neq) ?_
 refine nq ?_
 refine W.cond_false rfl rfl ?_
 refine W.skip ?_
 refine WQ.then ?_
 refine sr ?_
 refine ov (vslF 1 32) ?_
 refine omv ?_
 refine cp rfl (fun w hp => mac_calls _ _ _ _ _ _ _ _ w sw sc sc sc sw sc sc sc) ?_
 refine ov vex ?_
 refine ov vex ?_
 refine osta 32 ?_
 refine oas ?_
 refine nq ?_
 refine W.ret ?_
 refine WQ.ret2 Try.results13 (.cellA 32 (by kernel_rfl) rfl at_ (by rfl)) (.tmp rfl) ?_
 intro w' hp; exact ⟨by first | rfl | (simp; done) | (simp [*]; done) | simp_all, hp.forget⟩

theorem tag20_bad (link : List Int) (hl : link.length = 32) (e : EnvS) (A : Option Addr) (n cap : Nat) (l : List Int) (he : EnOK e A n cap l) (hh : ¬ heB e n = true) (w : World) :
    Calls Try.prog 13 [AG [(32, iv .u8 link)], AG (enV e)].toArray w fun e' w' => e' = .returned (.tuple #[AG [(32, iv .u8 (List.replicate 32 0))], .int .i64 1]) ∧ HP w w' [] [] := by
 have he0 := he
 obtain ⟨hbd, hec, hecb, hep, hepb, hlb2, hnl, hcp, hbig⟩ := he
 subst hnl
 unfold enV
 refine calls_of_W Try.func13 rfl Try.ntmps13 rfl rfl (HP.refl w []) ?_
 refine sr ?_
 refine obxa (fun b2 => ?_)
 refine obxa (fun b3 => ?_)
 refine oal [(32, List.replicate 32 (.int .u8 0))] (fun b4 => ?_)
 refine oas ?_
 refine nx ?_
 refine ov (vlda 69) ?_
 refine cp rfl (fun w hp => henv_calls_bad e A l.length cap l he0 hh w) ?_
 refine omv ?_
 refine ov vex ?_
 refine ov vex ?_
 refine oas ?_
 refine oas ?_
 refine nq ?_
 refine W.seq ?_
 refine sr ?_
 refine omv ?_
 refine ov (v2 V_neq) ?_
 refine nq ?_
 refine W.cond_true rfl rfl ?_
 refine sr ?_
 refine ov (vbI 32 .u8 0 []) ?_
 refine omv ?_
 refine osta 32 ?_
 refine oas ?_
 refine nq ?_
 refine W.ret ?_
 refine WQ.then_ret ?_
 refine WQ.ret2 Try.results13 (.cellA 32 (by kernel_rfl) rfl at_ (by rfl)) (.tmp rfl) ?_
 intro w' hp; exact ⟨by first | rfl | (simp; done) | (simp [*]; done) | simp_all, hp.forget⟩

theorem rt20_calls (a : PAcc) (pa : Nat) (hok : AOK a) (b2 : Nat) (o : Gr) (ms : List ML) (many : Int) (ho : GrOK o ms.length) (hms : MsOK ms) (e : EnvS) (A : Option Addr) (n cap : Nat) (l : List Int) (he : EnOK e A n cap l) (hh : heB e n = true) (tag : List Int) (htl : tag.length = 32) (htb : bytes tag) (w : World) (hp0 : HP w w ((((pa, .cells [(32, iv .u8 a.link), (32, iv .u8 a.idn), (32, iv .u8 a.sig), (32, iv .u8 a.b3), (1, [.bool a.hs]), (1, [.slice a.oA a.on a.oc]), (1, [.pointer (some ⟨a.bx, 0, none⟩)]), (1, [.pointer (some ⟨a.tk, 0, none⟩)]), (1, [.bool a.susp])] 105) :: (((b2, .cells [(1, [.slice (gA o) ms.length (gC o)]), (1, [.int .i64 many])] 190) :: (gLM 138 o ms.length (ms.flatMap mlV) 68 ++ ms.flatMap mbL)) : List (Nat × Blk))) : List (Nat × Blk)).map (·.1)) (((pa, .cells [(32, iv .u8 a.link), (32, iv .u8 a.idn), (32, iv .u8 a.sig), (32, iv .u8 a.b3), (1, [.bool a.hs]), (1, [.slice a.oA a.on a.oc]), (1, [.pointer (some ⟨a.bx, 0, none⟩)]), (1, [.pointer (some ⟨a.tk, 0, none⟩)]), (1, [.bool a.susp])] 105) :: (((b2, .cells [(1, [.slice (gA o) ms.length (gC o)]), (1, [.int .i64 many])] 190) :: (gLM 138 o ms.length (ms.flatMap mlV) 68 ++ ms.flatMap mbL)) : List (Nat × Blk))) : List (Nat × Blk))) (hs : ∀ w' M, HP w w' ((((pa, .cells [(32, iv .u8 a.link), (32, iv .u8 a.idn), (32, iv .u8 a.sig), (32, iv .u8 a.b3), (1, [.bool a.hs]), (1, [.slice a.oA a.on a.oc]), (1, [.pointer (some ⟨a.bx, 0, none⟩)]), (1, [.pointer (some ⟨a.tk, 0, none⟩)]), (1, [.bool a.susp])] 105) :: (((b2, .cells [(1, [.slice (gA o) ms.length (gC o)]), (1, [.int .i64 many])] 190) :: (gLM 138 o ms.length (ms.flatMap mlV) 68 ++ ms.flatMap mbL)) : List (Nat × Blk))) : List (Nat × Blk)).map (·.1)) M → SrW w' 1 A n (iv .u8 l)) :
    Calls Try.prog 42 [.pointer (some ⟨pa, 0, none⟩), AG (enV e), AG [(32, iv .u8 tag)], .func (.func 41) #[.pointer (some ⟨b2, 0, none⟩)] #[]].toArray w fun e' w' => e' = .returned (.int .i64 (rtE a.link a.susp e l tag ms.length)) ∧ HP w w' ((((pa, .cells [(32, iv .u8 a.link), (32, iv .u8 a.idn), (32, iv .u8 a.sig), (32, iv .u8 a.b3), (1, [.bool a.hs]), (1, [.slice a.oA a.on a.oc]), (1, [.pointer (some ⟨a.bx, 0, none⟩)]), (1, [.pointer (some ⟨a.tk, 0, none⟩)]), (1, [.bool a.susp])] 105) :: (((b2, .cells [(1, [.slice (gA o) ms.length (gC o)]), (1, [.int .i64 many])] 190) :: (gLM 138 o ms.length (ms.flatMap mlV) 68 ++ ms.flatMap mbL)) : List (Nat × Blk))) : List (Nat × Blk)).map (·.1)) (((pa, .cells [(32, iv .u8 a.link), (32, iv .u8 a.idn), (32, iv .u8 a.sig), (32, iv .u8 a.b3), (1, [.bool a.hs]), (1, [.slice a.oA a.on a.oc]), (1, [.pointer (some ⟨a.bx, 0, none⟩)]), (1, [.pointer (some ⟨a.tk, 0, none⟩)]), (1, [.bool a.susp])] 105) :: (((b2, .cells [(1, [.slice (gA o) ms.length (gC o)]), (1, [.int .i64 many])] 190) :: (gLM 138 o ms.length (ms.flatMap mlV) 68 ++ ms.flatMap mbL)) : List (Nat × Blk))) : List (Nat × Blk)) := by
 have he0 := he
 obtain ⟨hbd, hec, hecb, hep, hepb, hlb2, hnl, hcp, hbig⟩ := he
 subst hnl
 obtain ⟨link, idn, sig, b3, hs3, susp, t, nt, many2, p, bx, tk, o2, ms2, oA, on, oc, ks, oL⟩ := a
 obtain ⟨al, alb, ai, as_, ab, ams, ao, am, abk, aon, aoc, akl, ak8, aonce⟩ := hok
 dsimp only at al alb ai as_ ab hp0 hs ⊢
 unfold enV
 refine calls_of_W Try.func42 rfl Try.ntmps42 rfl rfl hp0 ?_
 refine sr ?_
 refine obxa (fun b5 => ?_)
 refine obxa (fun b6 => ?_)
 refine oas ?_
 refine nq ?_
 refine W.seq ?_
 apply W.j1
 · intro hJ
   refine dr (.q 0 (.q 1 (.q 2 (.q 3 (.q 4 (.l2 5 (.q 6 (.q 7 (.q 8 (.l 9 (.l 10 (.q 11 (.done))))))) 9 (.l 5 (.q 6 (.q 7 (.q 8 (.l 10 (.q 11 (.done))))))))))))) [(b5, _), (pa, _)] ?_
   refine dq rfl (V_move rfl) ?_
   refine dq rfl vnil ?_
   refine dq rfl (vfa0 0 32) ?_
   refine dq rfl (vlda 32) ?_
   refine dq rfl (vlda 69) ?_
   refine WD.l2 ?_ ?_
   · refine dcp rfl rfl (fun w hp => tag20_calls link al alb e A l.length cap l he0 hh w (hs w _ hp)) ?_
     refine dq rfl (V_move rfl) ?_
     refine dq rfl vex ?_
     refine dq rfl vex ?_
     refine WD.l ?_
     refine dal rfl [(32, List.replicate 32 (.int .u8 0))] (fun b9 => ?_)
     refine WD.l ?_
     refine dsta rfl 32 ?_
     refine dq rfl (V_assign rfl) ?_
     refine WD.done ?_
     exact WQ.pick (S' := [(0, _), (1, _), (2, _), (3, _), (6, _), (8, _), (9, _), (10, _)]) [0, 1, 2, 3, 6, 8, 9, 10] rfl (hJ b9)
   · refine dal rfl [(32, List.replicate 32 (.int .u8 0))] (fun b9 => ?_)
     refine WD.l ?_
     refine dcp rfl rfl (fun w hp => tag20_calls link al alb e A l.length cap l he0 hh w (hs w _ hp)) ?_
     refine dq rfl (V_move rfl) ?_
     refine dq rfl vex ?_
     refine dq rfl vex ?_
     refine WD.l ?_
     refine dsta rfl 32 ?_
     refine dq rfl (V_assign rfl) ?_
     refine WD.done ?_
     exact WQ.pick (S' := [(0, _), (1, _), (2, _), (3, _), (6, _), (8, _), (9, _), (10, _)]) [0, 1, 2, 3, 6, 8, 9, 10] rfl (hJ b9)
 intro b9
 refine WQ.then ?_
 refine W.seq ?_
 refine W.block ?_
 refine W.seq ?_
 refine dr (.q 0 (.q 1 (.q 2 (.q 3 (.q 4 (.l 5 (.q 6 (.q 7 (.q 8 (.done)))))))))) [] ?_
 refine dq rfl (V_move rfl) ?_
 refine dq rfl (v2 V_neq) ?_
 refine dq rfl (V_move rfl) ?_
 refine dy rfl rfl rfl (vslF 1 32) ?_
 refine dy rfl rfl rfl (vslF 1 32) ?_
 refine WD.l ?_
 refine dcp rfl rfl (fun w hp => same_calls _ _ _ _ _ _ _ _ w sw sc sw sc sc) ?_ (hg := gy rfl rfl)
 refine dy rfl rfl rfl vnot ?_
 refine dq rfl (V_pick_f rfl rfl rfl) ?_
 refine dq rfl (V_assign rfl) ?_
 refine WD.done ?_
 refine WQ.then ?_
 refine W.cond rfl (fun g1 => ?_) (fun g1 => ?_)
 · refine W.seq ?_
   refine W.region ?_
   refine oas ?_
   refine nq ?_
   refine W.ret ?_
   refine WQ.block_ret ?_
   refine WQ.then_ret ?_
   refine WQ.ret1 Try.results42 (.tmp rfl) ?_
   intro w' hp; rw [rt4 (by simpa using g1)]; exact ⟨rfl, hp.cov cov⟩
 · refine W.seq ?_
   refine W.region ?_
   refine omv ?_
   refine ov vnil ?_
   refine ov (vfa0 132 1) ?_
   refine ov vld ?_
   refine oas ?_
   refine nq ?_
   refine W.cond rfl (fun g2 => ?_) (fun g2 => ?_)
   · refine W.seq ?_
     refine W.region ?_
     refine oas ?_
     refine nq ?_
     refine W.ret ?_
     refine WQ.block_ret ?_
     refine WQ.then_ret ?_
     refine WQ.ret1 Try.results42 (.tmp rfl) ?_
     intro w' hp; obtain rfl : susp = true := g2
     rw [rt11 (by simpa using g1)]; exact ⟨rfl, hp.cov cov⟩
   · refine W.seq ?_
     refine W.region ?_
     refine omv ?_
     refine cgPV _ rfl rfl (fun w hp => list19_calls b2 o ms many ho hms w (HP.here hp cov)) (fun r36 h36 => ?_)
     simp only [List.cons_append, List.nil_append, List.append_nil, List.append_assoc]
     refine WL.back (gLM 138 o ms.length (ms.flatMap mlV) 68) ?_
     simp only [List.cons_append, List.nil_append, List.append_nil, List.append_assoc]
     refine WL.back (ms.flatMap mbL) ?_
     simp only [List.cons_append, List.nil_append, List.append_nil, List.append_assoc]
     refine WL.back (gLM 138 r36.1 r36.2.length (r36.2.flatMap mlV) 68) ?_
     simp only [List.cons_append, List.nil_append, List.append_nil, List.append_assoc]
     refine WL.back (r36.2.flatMap mbL) ?_
     simp only [List.cons_append, List.nil_append, List.append_nil, List.append_assoc]
     have hml : r36.2.length = ms.length := by simpa using congrArg List.length h36.1
     refine ov vlenS ?_
     refine ov (v2 V_geq) ?_
     refine oas ?_
     refine nq ?_
     refine W.cond_dec rfl (fun g3 => ?_) (fun g3 => ?_)
     · refine W.seq ?_
       refine W.region ?_
       refine oas ?_
       refine nq ?_
       refine W.ret ?_
       refine WQ.block_ret ?_
       refine WQ.then_ret ?_
       refine WQ.ret1 Try.results42 (.tmp rfl) ?_
       intro w' hp; obtain rfl : susp = false := g2
       rw [rt8 (by simpa using g1) (by omega)]; exact ⟨rfl, hp.cov cov⟩
     · refine W.skip ?_
       refine WQ.block_normal ?_
       refine WQ.then ?_
       refine sr ?_
       refine oas ?_
       refine nq ?_
       refine W.ret ?_
       refine WQ.ret1 Try.results42 (.tmp rfl) ?_
       intro w' hp; obtain rfl : susp = false := g2
       rw [rt0 (by simpa using g1) (by omega)]; exact ⟨rfl, hp.cov cov⟩

end Go.Proofs.Ytmeckbjinmgbbaa