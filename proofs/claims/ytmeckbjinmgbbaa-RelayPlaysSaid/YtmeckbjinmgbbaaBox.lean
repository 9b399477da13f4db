/- Boxes of mails. -/
import Derived.Test.YtmeckbjinmgbbaaOwn
set_option linter.unusedVariables false
set_option linter.unusedSimpArgs false

namespace Go.Proofs.Ytmeckbjinmgbbaa
open Go.X
/-- What a mail says, wherever its body lies. -/
structure AM where
  id : Int
  e : EnvS
  s : StampS
  l : List Int
structure AM.OK (a : AM) : Prop where
  nb : a.e.body = .slice none 0 0
  c : a.e.commit.length = 32
  cb : bytes a.e.commit
  p : a.e.pub.length = 32
  pb : bytes a.e.pub
  lb : bytes a.l
  sc : a.s.commit.length = 32
  st : a.s.tag.length = 32
  h : heB a.e a.l.length = true
abbrev ML := AM × Gr
def MOK (m : ML) : Prop := m.1.OK ∧ GrOK m.2 m.1.l.length
def mlE (m : ML) : EnvS := m.1.e.at (gA m.2) m.1.l.length (gC m.2)
def mlV (m : ML) : List Value := flat (mlS m.1.id (mlE m) m.1.s)
def mbL (m : ML) : List (Nat × Blk) := gL m.2 m.1.l.length (iv .u8 m.1.l) 5
theorem MOK.big {m : ML} (h : MOK m) : m.1.l.length ≤ 600 := (heB_of h.1.h).2.2.2.2
theorem MOK.en {m : ML} (h : MOK m) : EnOK (mlE m) (gA m.2) m.1.l.length (gC m.2) m.1.l :=
  ⟨rfl, h.1.c, h.1.cb, h.1.p, h.1.pb, h.1.lb, rfl, GrOK.cap h.2, by have := h.big; omega⟩
theorem mlV_len {m : ML} (h : MOK m) : (mlV m).length = 138 := by
  simp [mlV, mlS, flat, enV, stV, mlE, EnvS.at, iv_len, h.1.c, h.1.p, h.1.sc, h.1.st]
theorem mlV_one {ms : List ML} : ∀ v ∈ ms.flatMap mlV, Go.X.one v = true := fun v hv => by
  obtain ⟨m, _, he⟩ := List.mem_flatMap.1 hv
  simp only [mlV, mlS, flat, enV, stV, mlE, EnvS.at, List.cons_append, List.nil_append, List.flatMap_cons, List.flatMap_nil, List.append_nil, List.mem_append, List.mem_cons, List.not_mem_nil, or_false] at he
  rcases he with rfl | rfl | rfl | he | he | rfl | rfl | rfl | rfl | rfl | rfl | rfl | he | he <;> first | rfl | exact iv_one _ he
theorem own_one {id : Int} {e : EnvS} {s : StampS} {A : Option Addr} {n cap : Nat} : ∀ v ∈ flat (mlS id (e.at A n cap) s), Go.X.one v = true := fun v he => by
  simp only [mlS, flat, enV, stV, EnvS.at, List.cons_append, List.nil_append, List.flatMap_cons, List.flatMap_nil, List.append_nil, List.mem_append, List.mem_cons, List.not_mem_nil, or_false] at he
  rcases he with rfl | rfl | rfl | he | he | rfl | rfl | rfl | rfl | rfl | rfl | rfl | he | he <;> first | rfl | exact iv_one _ he
theorem own_len {id : Int} {e : EnvS} {s : StampS} {A : Option Addr} {n cap : Nat} {A' : Option Addr} {n' cap' : Nat} {l : List Int} (he : EnOK e A' n' cap' l) (h1 : s.commit.length = 32) (h2 : s.tag.length = 32) : (flat (mlS id (e.at A n cap) s)).length = 138 := by
  simp [mlS, flat, enV, stV, EnvS.at, iv_len, he.c, he.p, h1, h2]
def MsOK (ms : List ML) : Prop := (∀ m ∈ ms, MOK m) ∧ ms.length ≤ 8
theorem mls_len {ms : List ML} (h : ∀ m ∈ ms, MOK m) : (ms.flatMap mlV).length = ms.length * 138 := flatMap_len' fun m hm => mlV_len (h m hm)

theorem put19_calls (b : Nat) (o : Gr) (ms : List ML) (many : Int) (ho : GrOK o ms.length) (hms : MsOK ms) (e : EnvS) (A : Option Addr) (n cap : Nat) (l : List Int) (he : EnOK e A n cap l) (hh : heB e n = true) (s : StampS) (hsc : s.commit.length = 32) (hst : s.tag.length = 32) (hroom : ms.length < 8) (hmany : 0 ≤ many ∧ many ≤ 1000000) (w : World) (hp0 : HP w w ((((b, .cells [(1, [.slice (gA o) ms.length (gC o)]), (1, [.int .i64 many])] 190) :: (gLM 138 o ms.length (ms.flatMap mlV) 68 ++ ms.flatMap mbL)) : List (Nat × Blk)).map (·.1)) (((b, .cells [(1, [.slice (gA o) ms.length (gC o)]), (1, [.int .i64 many])] 190) :: (gLM 138 o ms.length (ms.flatMap mlV) 68 ++ ms.flatMap mbL)) : List (Nat × Blk))) (hs : ∀ w' M, HP w w' ((((b, .cells [(1, [.slice (gA o) ms.length (gC o)]), (1, [.int .i64 many])] 190) :: (gLM 138 o ms.length (ms.flatMap mlV) 68 ++ ms.flatMap mbL)) : List (Nat × Blk)).map (·.1)) M → SrW w' 1 A n (iv .u8 l)) :
    Calls Try.prog 45 [.pointer (some ⟨b, 0, none⟩), AG (enV e), AG (stV s)].toArray w fun e' w' => ∃ r : Nat × Gr, GrOK r.2 (ms.length + 1) ∧ e' = .returned (.tuple #[.int .i64 (many + 1), .int .i64 0]) ∧ HP w w' ((((b, .cells [(1, [.slice (gA o) ms.length (gC o)]), (1, [.int .i64 many])] 190) :: (gLM 138 o ms.length (ms.flatMap mlV) 68 ++ ms.flatMap mbL)) : List (Nat × Blk)).map (·.1)) (((b, .cells [(1, [.slice (gA r.2) (ms ++ [(⟨⟨many + 1, e.at none 0 0, s, l⟩, some (r.1, n, [])⟩ : ML)]).length (gC r.2)]), (1, [.int .i64 (many + 1)])] 190) :: (gLM 138 r.2 (ms ++ [(⟨⟨many + 1, e.at none 0 0, s, l⟩, some (r.1, n, [])⟩ : ML)]).length ((ms ++ [(⟨⟨many + 1, e.at none 0 0, s, l⟩, some (r.1, n, [])⟩ : ML)]).flatMap mlV) 68 ++ (ms ++ [(⟨⟨many + 1, e.at none 0 0, s, l⟩, some (r.1, n, [])⟩ : ML)]).flatMap mbL)) : List (Nat × Blk)) := by
 have he0 := he
 obtain ⟨hbd, hec, hecb, hep, hepb, hlb, hnl, hcp, hbig⟩ := he
 subst hnl
 have h138 := mls_len hms.1
 refine calls_of_W Try.func45 rfl Try.ntmps45 rfl rfl hp0 ?_
 refine sr ?_
 refine obxa (fun b4 => ?_)
 refine obxa (fun b5 => ?_)
 refine oas ?_
 refine oas ?_
 refine nq ?_
 refine W.seq ?_
 refine sr ?_
 refine ov (vlda 69) ?_
 refine cgG rfl (fun w hp => henv_calls e A l.length cap l he0 hh w (hs w _ hp)) (fun o12 h12 => ?_)
 refine omv ?_
 refine ov vex ?_
 refine ov vex ?_
 refine oas ?_
 refine oas ?_
 refine nx ?_
 refine omv ?_
 refine ov (v2 V_neq) ?_
 refine nq ?_
 refine W.cond_false rfl (by simp) ?_
 refine W.skip ?_
 refine WQ.then ?_
 refine W.seq ?_
 refine sr ?_
 refine omv ?_
 refine ov vnil ?_
 refine ov (vfa0 0 1) ?_
 refine ov vld ?_
 refine ov vlenS ?_
 refine ov (v2 V_geq) ?_
 refine nq ?_
 refine W.cond_false rfl (decide_eq_false (by omega)) ?_
 refine W.skip ?_
 refine WQ.then ?_
 refine sr ?_
 refine omv ?_
 refine ov vnil ?_
 refine ov (vfa0 1 1) ?_
 refine ov vld ?_
 first | refine ov vaddN ?_ | refine ov vadd ?_
 refine ov vnil ?_
 refine ov (vfa0 1 1) ?_
 refine ost ?_
 refine nq ?_
 refine W.seq ?_
 refine dr (.q 0 (.q 1 (.q 2 (.q 3 (.q 5 (.q 6 (.q 7 (.q 9 (.q 10 (.l2 4 (.l 8 (.q 11 (.l 12 (.l 13 (.l 14 (.q 15 (.q 16 (.l 17 (.done))))))))) 8 (.q 11 (.l2 4 (.l 12 (.l 13 (.l 14 (.q 15 (.q 16 (.l 17 (.done))))))) 12 (.l2 4 (.l 13 (.l 14 (.q 15 (.q 16 (.l 17 (.done)))))) 13 (.l 4 (.l 14 (.q 15 (.q 16 (.l 17 (.done))))))))))))))))))) [(b5, _), (b4, _)] ?_
 refine dq rfl (V_move rfl) ?_
 refine dq rfl (V_move rfl) ?_
 refine dq rfl vnil ?_
 refine dq rfl (vfa0 0 1) ?_
 refine dq rfl (V_move rfl) ?_
 refine dq rfl vnil ?_
 refine dq rfl (vfa0 1 1) ?_
 refine dq rfl (vlda 69) ?_
 refine dq rfl (vlda 68) ?_
 refine WD.l2 ?_ ?_
 · refine dv rfl vld ?_
   refine WD.l ?_
   refine dv rfl vld ?_
   refine dq rfl (V_build (by kernel_rfl) (zi (zs := [(1, [.int .i64 0]), (1, [.int .i64 0]), (1, [.int .i64 0]), (32, List.replicate 32 (.int .u8 0)), (32, List.replicate 32 (.int .u8 0)), (1, [.int .i64 0]), (1, [.int .i64 0]), (1, [.slice none 0 0]), (1, [.int .i64 0]), (1, [.int .i64 0]), (1, [.int .i64 0]), (1, [.int .i64 0]), (32, List.replicate 32 (.int .u8 0)), (32, List.replicate 32 (.int .u8 0))])) (.one (k := 0) rfl rfl (by kernel_rfl) rfl (.agg (k := 1) (n := 69) rfl fit fln (by kernel_rfl) rfl (.agg (k := 70) (n := 68) rfl fit fln (by kernel_rfl) rfl (.nil _))))) ?_
   refine WD.l ?_
   refine dcg rfl rfl (fun w hp => own19_calls (many + 1) e A l.length cap l he0 s hsc hst (by have := heB_of hh; omega) w (hs w _ hp)) (fun b43 h43 => ?_)
   refine WD.l ?_
   refine dbsM rfl 68 138 224 (fun b44 => ?_) (h1 := own_one) (hl := own_len he0 hsc hst)
   refine WD.l ?_
   refine dapMG rfl 68 224 (fun o45 h45 _ => ?_) (m := 1) (ys := flat (mlS (many + 1) (e.at (some ⟨b43, 0, none⟩) l.length l.length) s)) (fun w hp => (HP.sown hp (b := b44) (by repeat (first | exact List.Mem.head _ | apply List.Mem.tail)) own_one).mul) h138 ho
   refine dq rfl vnil ?_
   refine dq rfl (vfa0 0 1) ?_
   refine WD.l ?_
   refine dst rfl ?_
   refine WD.done ?_
   refine WQ.then ?_
   refine sr ?_
   refine omv ?_
   refine ov vnil ?_
   refine ov (vfa0 1 1) ?_
   refine ov vld ?_
   refine oas ?_
   refine oas ?_
   refine nq ?_
   refine W.ret ?_
   refine WQ.ret2 Try.results45 (.tmp rfl) (.tmp rfl) ?_
   intro w' hp; refine ⟨(b43, o45), h45, rfl, ?_⟩; rw [List.flatMap_append, List.flatMap_append, List.length_append, List.flatMap_singleton, List.flatMap_singleton]; exact hp.cov cov
 · refine dv rfl vld ?_
   refine dq rfl (V_build (by kernel_rfl) (zi (zs := [(1, [.int .i64 0]), (1, [.int .i64 0]), (1, [.int .i64 0]), (32, List.replicate 32 (.int .u8 0)), (32, List.replicate 32 (.int .u8 0)), (1, [.int .i64 0]), (1, [.int .i64 0]), (1, [.slice none 0 0]), (1, [.int .i64 0]), (1, [.int .i64 0]), (1, [.int .i64 0]), (1, [.int .i64 0]), (32, List.replicate 32 (.int .u8 0)), (32, List.replicate 32 (.int .u8 0))])) (.one (k := 0) rfl rfl (by kernel_rfl) rfl (.agg (k := 1) (n := 69) rfl fit fln (by kernel_rfl) rfl (.agg (k := 70) (n := 68) rfl fit fln (by kernel_rfl) rfl (.nil _))))) ?_
   refine WD.l2 ?_ ?_
   · refine dv rfl vld ?_
     refine WD.l ?_
     refine dcg rfl rfl (fun w hp => own19_calls (many + 1) e A l.length cap l he0 s hsc hst (by have := heB_of hh; omega) w (hs w _ hp)) (fun b43 h43 => ?_)
     refine WD.l ?_
     refine dbsM rfl 68 138 224 (fun b44 => ?_) (h1 := own_one) (hl := own_len he0 hsc hst)
     refine WD.l ?_
     refine dapMG rfl 68 224 (fun o45 h45 _ => ?_) (m := 1) (ys := flat (mlS (many + 1) (e.at (some ⟨b43, 0, none⟩) l.length l.length) s)) (fun w hp => (HP.sown hp (b := b44) (by repeat (first | exact List.Mem.head _ | apply List.Mem.tail)) own_one).mul) h138 ho
     refine dq rfl vnil ?_
     refine dq rfl (vfa0 0 1) ?_
     refine WD.l ?_
     refine dst rfl ?_
     refine WD.done ?_
     refine WQ.then ?_
     refine sr ?_
     refine omv ?_
     refine ov vnil ?_
     refine ov (vfa0 1 1) ?_
     refine ov vld ?_
     refine oas ?_
     refine oas ?_
     refine nq ?_
     refine W.ret ?_
     refine WQ.ret2 Try.results45 (.tmp rfl) (.tmp rfl) ?_
     intro w' hp; refine ⟨(b43, o45), h45, rfl, ?_⟩; rw [List.flatMap_append, List.flatMap_append, List.length_append, List.flatMap_singleton, List.flatMap_singleton]; exact hp.cov cov
   · refine dcg rfl rfl (fun w hp => own19_calls (many + 1) e A l.length cap l he0 s hsc hst (by have := heB_of hh; omega) w (hs w _ hp)) (fun b43 h43 => ?_)
     refine WD.l2 ?_ ?_
     · refine dv rfl vld ?_
       refine WD.l ?_
       refine dbsM rfl 68 138 224 (fun b44 => ?_) (h1 := own_one) (hl := own_len he0 hsc hst)
       refine WD.l ?_
       refine dapMG rfl 68 224 (fun o45 h45 _ => ?_) (m := 1) (ys := flat (mlS (many + 1) (e.at (some ⟨b43, 0, none⟩) l.length l.length) s)) (fun w hp => (HP.sown hp (b := b44) (by repeat (first | exact List.Mem.head _ | apply List.Mem.tail)) own_one).mul) h138 ho
       refine dq rfl vnil ?_
       refine dq rfl (vfa0 0 1) ?_
       refine WD.l ?_
       refine dst rfl ?_
       refine WD.done ?_
       refine WQ.then ?_
       refine sr ?_
       refine omv ?_
       refine ov vnil ?_
       refine ov (vfa0 1 1) ?_
       refine ov vld ?_
       refine oas ?_
       refine oas ?_
       refine nq ?_
       refine W.ret ?_
       refine WQ.ret2 Try.results45 (.tmp rfl) (.tmp rfl) ?_
       intro w' hp; refine ⟨(b43, o45), h45, rfl, ?_⟩; rw [List.flatMap_append, List.flatMap_append, List.length_append, List.flatMap_singleton, List.flatMap_singleton]; exact hp.cov cov
     · refine dbsM rfl 68 138 224 (fun b44 => ?_) (h1 := own_one) (hl := own_len he0 hsc hst)
       refine WD.l ?_
       refine dv rfl vld ?_
       refine WD.l ?_
       refine dapMG rfl 68 224 (fun o45 h45 _ => ?_) (m := 1) (ys := flat (mlS (many + 1) (e.at (some ⟨b43, 0, none⟩) l.length l.length) s)) (fun w hp => (HP.sown hp (b := b44) (by repeat (first | exact List.Mem.head _ | apply List.Mem.tail)) own_one).mul) h138 ho
       refine dq rfl vnil ?_
       refine dq rfl (vfa0 0 1) ?_
       refine WD.l ?_
       refine dst rfl ?_
       refine WD.done ?_
       refine WQ.then ?_
       refine sr ?_
       refine omv ?_
       refine ov vnil ?_
       refine ov (vfa0 1 1) ?_
       refine ov vld ?_
       refine oas ?_
       refine oas ?_
       refine nq ?_
       refine W.ret ?_
       refine WQ.ret2 Try.results45 (.tmp rfl) (.tmp rfl) ?_
       intro w' hp; refine ⟨(b43, o45), h45, rfl, ?_⟩; rw [List.flatMap_append, List.flatMap_append, List.length_append, List.flatMap_singleton, List.flatMap_singleton]; exact hp.cov cov

end Go.Proofs.Ytmeckbjinmgbbaa