/- The document's boxes. -/
import Derived.Test.YtmeckbjinmgbbaaAck
import Derived.Test.YtmeckbjinmgbbaaXC
set_option linter.unusedVariables false
set_option linter.unusedSimpArgs false

namespace Go.Proofs.Ytmeckbjinmgbbaa
open Go.X
theorem mls_cut {w : World} {A : Option Addr} {n c i : Nat} {xs : List Value} (h : SrW w 138 A n xs) (hl : xs.length = n * 138) (hi : i < n) (hc : n ≤ c) : SrW w 138 (cutA A (i + 1) c 138) (n - (i + 1)) (xs.drop ((i + 1) * 138)) := by
  have h1 := h.cut (l := i + 1) (h := n) (m := c) (by omega) (by omega) hc
  rw [List.take_of_length_le (by rw [List.length_drop]; omega)] at h1
  exact h1

set_option maxHeartbeats 2000000 in
theorem rput19_calls (b : Nat) (o : Gr) (ms : List ML) (many : Int) (ho : GrOK o ms.length) (hms : MsOK ms) (e : EnvS) (A : Option Addr) (n cap : Nat) (l : List Int) (he : EnOK e A n cap l) (hh : heB e n = true) (s : StampS) (hsc : s.commit.length = 32) (hst : s.tag.length = 32) (hroom : ms.length < 8) (hmany : 0 ≤ many ∧ many ≤ 1000000) (w : World) (hp0 : HP w w ((((b, .cells [(1, [.slice (gA o) ms.length (gC o)]), (1, [.int .i64 many])] 133) :: (gLM 138 o ms.length (ms.flatMap mlV) 138 ++ ms.flatMap mbL)) : List (Nat × Blk)).map (·.1)) (((b, .cells [(1, [.slice (gA o) ms.length (gC o)]), (1, [.int .i64 many])] 133) :: (gLM 138 o ms.length (ms.flatMap mlV) 138 ++ ms.flatMap mbL)) : List (Nat × Blk))) (hs : ∀ w' M, HP w w' ((((b, .cells [(1, [.slice (gA o) ms.length (gC o)]), (1, [.int .i64 many])] 133) :: (gLM 138 o ms.length (ms.flatMap mlV) 138 ++ ms.flatMap mbL)) : List (Nat × Blk)).map (·.1)) M → SrW w' 1 A n (iv .u8 l)) :
    Calls Try.prog 96 [.pointer (some ⟨b, 0, none⟩), AG (enV e), AG (stV s)].toArray w fun e' w' => ∃ r : Gr × Gr, (GrOK r.1 n ∧ GrOK r.2 (ms.length + 1)) ∧ e' = .returned (.tuple #[.int .i64 (many + 1), .int .i64 0]) ∧ HP w w' ((((b, .cells [(1, [.slice (gA o) ms.length (gC o)]), (1, [.int .i64 many])] 133) :: (gLM 138 o ms.length (ms.flatMap mlV) 138 ++ ms.flatMap mbL)) : List (Nat × Blk)).map (·.1)) (((b, .cells [(1, [.slice (gA r.2) (ms ++ [(⟨⟨many + 1, e.at none 0 0, s, l⟩, r.1⟩ : ML)]).length (gC r.2)]), (1, [.int .i64 (many + 1)])] 133) :: (gLM 138 r.2 (ms ++ [(⟨⟨many + 1, e.at none 0 0, s, l⟩, r.1⟩ : ML)]).length ((ms ++ [(⟨⟨many + 1, e.at none 0 0, s, l⟩, r.1⟩ : ML)]).flatMap mlV) 138 ++ (ms ++ [(⟨⟨many + 1, e.at none 0 0, s, l⟩, r.1⟩ : ML)]).flatMap mbL)) : List (Nat × Blk)) := by
 have he0 := he
 obtain ⟨hbd, hec, hecb, hep, hepb, hlb, hnl, hcp, hbig⟩ := he
 subst hnl
 have hhb := heB_of hh
 have h138 := mls_len hms.1
 unfold enV stV
 refine calls_of_W Try.func96 rfl Try.ntmps96 rfl rfl hp0 ?_
 refine sr ?_
 refine obxa (fun b4 => ?_)
 refine obxa (fun b5 => ?_)
 refine oas ?_
 refine oas ?_
 refine nq ?_
 refine W.seq ?_
 refine sr ?_
 refine ov (vlda 69) ?_
 refine cp rfl (fun w hp => rhren_calls e A l.length cap l he0 w) ?_
 refine ov vnot ?_
 refine nq ?_
 refine W.cond_false rfl (by rw [hh]; rfl) ?_
 refine W.skip ?_
 refine WQ.then ?_
 refine W.seq ?_
 refine sr ?_
 refine omv ?_
 refine ov vnil ?_
 refine ov (vfa0 0 1) ?_
 refine ov vld ?_
 refine ov vlenS ?_
 refine ov (v2 V_geq) ?_
 refine nq ?_
 refine W.cond_false rfl (decide_eq_false (by omega)) ?_
 refine W.skip ?_
 refine WQ.then ?_
 refine sr ?_
 refine omv ?_
 refine ov vnil ?_
 refine ov (vfa0 1 1) ?_
 refine ov vld ?_
 first | refine ov vaddN ?_ | refine ov vadd ?_
 refine ov vnil ?_
 refine ov (vfa0 1 1) ?_
 refine ost ?_
 refine nq ?_
 refine W.seq ?_
 rw [hbd]
 refine W.region ?_
 refine obsI (k := .u8) 5 1 [] (fun b24 => ?_)
 refine ov (vfa0 68 1) ?_
 refine ov vld ?_
 refine oap0 5 1 (fun b27 c27 r27 h27 => ?_) (hs := fun w hp => hs w _ hp)
 refine ov (vfa0 68 1) ?_
 refine ost ?_
 refine nq ?_
 refine W.seq ?_
 apply W.j10
 · intro hJ
   refine dr (.q 0 (.q 2 (.q 3 (.q 4 (.q 7 (.q 8 (.q 9 (.q 11 (.q 12 (.l3 1 (.l2 5 (.l2 6 (.l 10 (.q 13 (.l 14 (.l 15 (.q 16 (.q 17 (.l 18 (.done)))))))) 10 (.q 13 (.l2 6 (.l 14 (.l 15 (.q 16 (.q 17 (.l 18 (.done)))))) 14 (.l 6 (.l 15 (.q 16 (.q 17 (.l 18 (.done))))))))) 10 (.q 13 (.l2 5 (.l2 6 (.l 14 (.l 15 (.q 16 (.q 17 (.l 18 (.done)))))) 14 (.l 6 (.l 15 (.q 16 (.q 17 (.l 18 (.done))))))) 14 (.l 5 (.l 6 (.l 15 (.q 16 (.q 17 (.l 18 (.done)))))))))) 5 (.l2 1 (.l2 6 (.l 10 (.q 13 (.l 14 (.l 15 (.q 16 (.q 17 (.l 18 (.done)))))))) 10 (.q 13 (.l2 6 (.l 14 (.l 15 (.q 16 (.q 17 (.l 18 (.done)))))) 14 (.l 6 (.l 15 (.q 16 (.q 17 (.l 18 (.done))))))))) 10 (.q 13 (.l2 1 (.l2 6 (.l 14 (.l 15 (.q 16 (.q 17 (.l 18 (.done)))))) 14 (.l 6 (.l 15 (.q 16 (.q 17 (.l 18 (.done))))))) 14 (.l 1 (.l 6 (.l 15 (.q 16 (.q 17 (.l 18 (.done)))))))))) 10 (.q 13 (.l3 1 (.l2 5 (.l2 6 (.l 14 (.l 15 (.q 16 (.q 17 (.l 18 (.done)))))) 14 (.l 6 (.l 15 (.q 16 (.q 17 (.l 18 (.done))))))) 14 (.l 5 (.l 6 (.l 15 (.q 16 (.q 17 (.l 18 (.done)))))))) 5 (.l2 1 (.l2 6 (.l 14 (.l 15 (.q 16 (.q 17 (.l 18 (.done)))))) 14 (.l 6 (.l 15 (.q 16 (.q 17 (.l 18 (.done))))))) 14 (.l 1 (.l 6 (.l 15 (.q 16 (.q 17 (.l 18 (.done)))))))) 14 (.l2 1 (.l 5 (.l 6 (.l 15 (.q 16 (.q 17 (.l 18 (.done))))))) 5 (.l 1 (.l 6 (.l 15 (.q 16 (.q 17 (.l 18 (.done)))))))))))))))))))) [(b5, _), (b4, _)] ?_
   refine dq rfl (V_move rfl) ?_
   refine dq rfl (V_move rfl) ?_
   refine dq rfl vnil ?_
   refine dq rfl (vfa0 0 1) ?_
   refine dq rfl (V_move rfl) ?_
   refine dq rfl vnil ?_
   refine dq rfl (vfa0 1 1) ?_
   refine dq rfl (vlda 69) ?_
   refine dq rfl (vlda 68) ?_
   refine WD.l3 ?_ ?_ ?_
   · refine dbs0 rfl 138 138 224 (fun b30 => ?_)
     refine WD.l2 ?_ ?_
     · refine dv rfl vld ?_
       refine WD.l2 ?_ ?_
       · refine dapM0 rfl 138 138 224 (fun b35 c35 r35 h35 => ?_) (fun w hp => mlsS hp ho hms.1)
         refine WD.l ?_
         refine dv rfl vld ?_
         refine dq rfl (V_build (by kernel_rfl) (zi (zs := [(1, [.int .i64 0]), (1, [.int .i64 0]), (1, [.int .i64 0]), (32, List.replicate 32 (.int .u8 0)), (32, List.replicate 32 (.int .u8 0)), (1, [.int .i64 0]), (1, [.int .i64 0]), (1, [.slice none 0 0]), (1, [.int .i64 0]), (1, [.int .i64 0]), (1, [.int .i64 0]), (1, [.int .i64 0]), (32, List.replicate 32 (.int .u8 0)), (32, List.replicate 32 (.int .u8 0))])) (.one (k := 0) rfl rfl (by kernel_rfl) rfl (.agg (k := 1) (n := 69) rfl fit fln (by kernel_rfl) rfl (.agg (k := 70) (n := 68) rfl fit fln (by kernel_rfl) rfl (.nil _))))) ?_
         refine WD.l ?_
         refine dbsM rfl 138 138 224 (fun b43 => ?_) (h1 := own_one (e := e)) (hl := own_len (e := e) he0 hsc hst)
         refine WD.l ?_
         refine dapM rfl 138 138 224 (fun b44 c44 r44 h44 => ?_) (ys := flat (mlS (many + 1) (e.at (some ⟨b27, 0, none⟩) l.length c27) s)) (fun w hp => (HP.sown hp (b := b43) (by repeat (first | exact List.Mem.head _ | apply List.Mem.tail)) (own_one (e := e))).mul)
         refine dq rfl vnil ?_
         refine dq rfl (vfa0 0 1) ?_
         refine WD.l ?_
         refine dst rfl ?_
         refine WD.done ?_
         exact WQ.pick (S' := [(0, _), (1, _), (2, _), (4, _), (6, _), (7, _), (10, _), (16, _)]) [0, 1, 2, 4, 6, 7, 10, 16] rfl (hJ b30 b35 c35 r35 h35 b43 b44 c44 r44 h44)
       · refine dv rfl vld ?_
         refine dq rfl (V_build (by kernel_rfl) (zi (zs := [(1, [.int .i64 0]), (1, [.int .i64 0]), (1, [.int .i64 0]), (32, List.replicate 32 (.int .u8 0)), (32, List.replicate 32 (.int .u8 0)), (1, [.int .i64 0]), (1, [.int .i64 0]), (1, [.slice none 0 0]), (1, [.int .i64 0]), (1, [.int .i64 0]), (1, [.int .i64 0]), (1, [.int .i64 0]), (32, List.replicate 32 (.int .u8 0)), (32, List.replicate 32 (.int .u8 0))])) (.one (k := 0) rfl rfl (by kernel_rfl) rfl (.agg (k := 1) (n := 69) rfl fit fln (by kernel_rfl) rfl (.agg (k := 70) (n := 68) rfl fit fln (by kernel_rfl) rfl (.nil _))))) ?_
         refine WD.l2 ?_ ?_
         · refine dapM0 rfl 138 138 224 (fun b35 c35 r35 h35 => ?_) (fun w hp => mlsS hp ho hms.1)
           refine WD.l ?_
           refine dbsM rfl 138 138 224 (fun b43 => ?_) (h1 := own_one (e := e)) (hl := own_len (e := e) he0 hsc hst)
           refine WD.l ?_
           refine dapM rfl 138 138 224 (fun b44 c44 r44 h44 => ?_) (ys := flat (mlS (many + 1) (e.at (some ⟨b27, 0, none⟩) l.length c27) s)) (fun w hp => (HP.sown hp (b := b43) (by repeat (first | exact List.Mem.head _ | apply List.Mem.tail)) (own_one (e := e))).mul)
           refine dq rfl vnil ?_
           refine dq rfl (vfa0 0 1) ?_
           refine WD.l ?_
           refine dst rfl ?_
           refine WD.done ?_
           exact WQ.pick (S' := [(0, _), (1, _), (2, _), (4, _), (6, _), (7, _), (10, _), (16, _)]) [0, 1, 2, 4, 6, 7, 10, 16] rfl (hJ b30 b35 c35 r35 h35 b43 b44 c44 r44 h44)
         · refine dbsM rfl 138 138 224 (fun b43 => ?_) (h1 := own_one (e := e)) (hl := own_len (e := e) he0 hsc hst)
           refine WD.l ?_
           refine dapM0 rfl 138 138 224 (fun b35 c35 r35 h35 => ?_) (fun w hp => mlsS hp ho hms.1)
           refine WD.l ?_
           refine dapM rfl 138 138 224 (fun b44 c44 r44 h44 => ?_) (ys := flat (mlS (many + 1) (e.at (some ⟨b27, 0, none⟩) l.length c27) s)) (fun w hp => (HP.sown hp (b := b43) (by repeat (first | exact List.Mem.head _ | apply List.Mem.tail)) (own_one (e := e))).mul)
           refine dq rfl vnil ?_
           refine dq rfl (vfa0 0 1) ?_
           refine WD.l ?_
           refine dst rfl ?_
           refine WD.done ?_
           exact WQ.pick (S' := [(0, _), (1, _), (2, _), (4, _), (6, _), (7, _), (10, _), (16, _)]) [0, 1, 2, 4, 6, 7, 10, 16] rfl (hJ b30 b35 c35 r35 h35 b43 b44 c44 r44 h44)
     · refine dv rfl vld ?_
       refine dq rfl (V_build (by kernel_rfl) (zi (zs := [(1, [.int .i64 0]), (1, [.int .i64 0]), (1, [.int .i64 0]), (32, List.replicate 32 (.int .u8 0)), (32, List.replicate 32 (.int .u8 0)), (1, [.int .i64 0]), (1, [.int .i64 0]), (1, [.slice none 0 0]), (1, [.int .i64 0]), (1, [.int .i64 0]), (1, [.int .i64 0]), (1, [.int .i64 0]), (32, List.replicate 32 (.int .u8 0)), (32, List.replicate 32 (.int .u8 0))])) (.one (k := 0) rfl rfl (by kernel_rfl) rfl (.agg (k := 1) (n := 69) rfl fit fln (by kernel_rfl) rfl (.agg (k := 70) (n := 68) rfl fit fln (by kernel_rfl) rfl (.nil _))))) ?_
       refine WD.l2 ?_ ?_
       · refine dv rfl vld ?_
         refine WD.l2 ?_ ?_
         · refine dapM0 rfl 138 138 224 (fun b35 c35 r35 h35 => ?_) (fun w hp => mlsS hp ho hms.1)
           refine WD.l ?_
           refine dbsM rfl 138 138 224 (fun b43 => ?_) (h1 := own_one (e := e)) (hl := own_len (e := e) he0 hsc hst)
           refine WD.l ?_
           refine dapM rfl 138 138 224 (fun b44 c44 r44 h44 => ?_) (ys := flat (mlS (many + 1) (e.at (some ⟨b27, 0, none⟩) l.length c27) s)) (fun w hp => (HP.sown hp (b := b43) (by repeat (first | exact List.Mem.head _ | apply List.Mem.tail)) (own_one (e := e))).mul)
           refine dq rfl vnil ?_
           refine dq rfl (vfa0 0 1) ?_
           refine WD.l ?_
           refine dst rfl ?_
           refine WD.done ?_
           exact WQ.pick (S' := [(0, _), (1, _), (2, _), (4, _), (6, _), (7, _), (10, _), (16, _)]) [0, 1, 2, 4, 6, 7, 10, 16] rfl (hJ b30 b35 c35 r35 h35 b43 b44 c44 r44 h44)
         · refine dbsM rfl 138 138 224 (fun b43 => ?_) (h1 := own_one (e := e)) (hl := own_len (e := e) he0 hsc hst)
           refine WD.l ?_
           refine dapM0 rfl 138 138 224 (fun b35 c35 r35 h35 => ?_) (fun w hp => mlsS hp ho hms.1)
           refine WD.l ?_
           refine dapM rfl 138 138 224 (fun b44 c44 r44 h44 => ?_) (ys := flat (mlS (many + 1) (e.at (some ⟨b27, 0, none⟩) l.length c27) s)) (fun w hp => (HP.sown hp (b := b43) (by repeat (first | exact List.Mem.head _ | apply List.Mem.tail)) (own_one (e := e))).mul)
           refine dq rfl vnil ?_
           refine dq rfl (vfa0 0 1) ?_
           refine WD.l ?_
           refine dst rfl ?_
           refine WD.done ?_
           exact WQ.pick (S' := [(0, _), (1, _), (2, _), (4, _), (6, _), (7, _), (10, _), (16, _)]) [0, 1, 2, 4, 6, 7, 10, 16] rfl (hJ b30 b35 c35 r35 h35 b43 b44 c44 r44 h44)
       · refine dbsM rfl 138 138 224 (fun b43 => ?_) (h1 := own_one (e := e)) (hl := own_len (e := e) he0 hsc hst)
         refine WD.l ?_
         refine dv rfl vld ?_
         refine WD.l ?_
         refine dapM0 rfl 138 138 224 (fun b35 c35 r35 h35 => ?_) (fun w hp => mlsS hp ho hms.1)
         refine WD.l ?_
         refine dapM rfl 138 138 224 (fun b44 c44 r44 h44 => ?_) (ys := flat (mlS (many + 1) (e.at (some ⟨b27, 0, none⟩) l.length c27) s)) (fun w hp => (HP.sown hp (b := b43) (by repeat (first | exact List.Mem.head _ | apply List.Mem.tail)) (own_one (e := e))).mul)
         refine dq rfl vnil ?_
         refine dq rfl (vfa0 0 1) ?_
         refine WD.l ?_
         refine dst rfl ?_
         refine WD.done ?_
         exact WQ.pick (S' := [(0, _), (1, _), (2, _), (4, _), (6, _), (7, _), (10, _), (16, _)]) [0, 1, 2, 4, 6, 7, 10, 16] rfl (hJ b30 b35 c35 r35 h35 b43 b44 c44 r44 h44)
   · refine dv rfl vld ?_
     refine WD.l2 ?_ ?_
     · refine dbs0 rfl 138 138 224 (fun b30 => ?_)
       refine WD.l2 ?_ ?_
       · refine dapM0 rfl 138 138 224 (fun b35 c35 r35 h35 => ?_) (fun w hp => mlsS hp ho hms.1)
         refine WD.l ?_
         refine dv rfl vld ?_
         refine dq rfl (V_build (by kernel_rfl) (zi (zs := [(1, [.int .i64 0]), (1, [.int .i64 0]), (1, [.int .i64 0]), (32, List.replicate 32 (.int .u8 0)), (32, List.replicate 32 (.int .u8 0)), (1, [.int .i64 0]), (1, [.int .i64 0]), (1, [.slice none 0 0]), (1, [.int .i64 0]), (1, [.int .i64 0]), (1, [.int .i64 0]), (1, [.int .i64 0]), (32, List.replicate 32 (.int .u8 0)), (32, List.replicate 32 (.int .u8 0))])) (.one (k := 0) rfl rfl (by kernel_rfl) rfl (.agg (k := 1) (n := 69) rfl fit fln (by kernel_rfl) rfl (.agg (k := 70) (n := 68) rfl fit fln (by kernel_rfl) rfl (.nil _))))) ?_
         refine WD.l ?_
         refine dbsM rfl 138 138 224 (fun b43 => ?_) (h1 := own_one (e := e)) (hl := own_len (e := e) he0 hsc hst)
         refine WD.l ?_
         refine dapM rfl 138 138 224 (fun b44 c44 r44 h44 => ?_) (ys := flat (mlS (many + 1) (e.at (some ⟨b27, 0, none⟩) l.length c27) s)) (fun w hp => (HP.sown hp (b := b43) (by repeat (first | exact List.Mem.head _ | apply List.Mem.tail)) (own_one (e := e))).mul)
         refine dq rfl vnil ?_
         refine dq rfl (vfa0 0 1) ?_
         refine WD.l ?_
         refine dst rfl ?_
         refine WD.done ?_
         exact WQ.pick (S' := [(0, _), (1, _), (2, _), (4, _), (6, _), (7, _), (10, _), (16, _)]) [0, 1, 2, 4, 6, 7, 10, 16] rfl (hJ b30 b35 c35 r35 h35 b43 b44 c44 r44 h44)
       · refine dv rfl vld ?_
         refine dq rfl (V_build (by kernel_rfl) (zi (zs := [(1, [.int .i64 0]), (1, [.int .i64 0]), (1, [.int .i64 0]), (32, List.replicate 32 (.int .u8 0)), (32, List.replicate 32 (.int .u8 0)), (1, [.int .i64 0]), (1, [.int .i64 0]), (1, [.slice none 0 0]), (1, [.int .i64 0]), (1, [.int .i64 0]), (1, [.int .i64 0]), (1, [.int .i64 0]), (32, List.replicate 32 (.int .u8 0)), (32, List.replicate 32 (.int .u8 0))])) (.one (k := 0) rfl rfl (by kernel_rfl) rfl (.agg (k := 1) (n := 69) rfl fit fln (by kernel_rfl) rfl (.agg (k := 70) (n := 68) rfl fit fln (by kernel_rfl) rfl (.nil _))))) ?_
         refine WD.l2 ?_ ?_
         · refine dapM0 rfl 138 138 224 (fun b35 c35 r35 h35 => ?_) (fun w hp => mlsS hp ho hms.1)
           refine WD.l ?_
           refine dbsM rfl 138 138 224 (fun b43 => ?_) (h1 := own_one (e := e)) (hl := own_len (e := e) he0 hsc hst)
           refine WD.l ?_
           refine dapM rfl 138 138 224 (fun b44 c44 r44 h44 => ?_) (ys := flat (mlS (many + 1) (e.at (some ⟨b27, 0, none⟩) l.length c27) s)) (fun w hp => (HP.sown hp (b := b43) (by repeat (first | exact List.Mem.head _ | apply List.Mem.tail)) (own_one (e := e))).mul)
           refine dq rfl vnil ?_
           refine dq rfl (vfa0 0 1) ?_
           refine WD.l ?_
           refine dst rfl ?_
           refine WD.done ?_
           exact WQ.pick (S' := [(0, _), (1, _), (2, _), (4, _), (6, _), (7, _), (10, _), (16, _)]) [0, 1, 2, 4, 6, 7, 10, 16] rfl (hJ b30 b35 c35 r35 h35 b43 b44 c44 r44 h44)
         · refine dbsM rfl 138 138 224 (fun b43 => ?_) (h1 := own_one (e := e)) (hl := own_len (e := e) he0 hsc hst)
           refine WD.l ?_
           refine dapM0 rfl 138 138 224 (fun b35 c35 r35 h35 => ?_) (fun w hp => mlsS hp ho hms.1)
           refine WD.l ?_
           refine dapM rfl 138 138 224 (fun b44 c44 r44 h44 => ?_) (ys := flat (mlS (many + 1) (e.at (some ⟨b27, 0, none⟩) l.length c27) s)) (fun w hp => (HP.sown hp (b := b43) (by repeat (first | exact List.Mem.head _ | apply List.Mem.tail)) (own_one (e := e))).mul)
           refine dq rfl vnil ?_
           refine dq rfl (vfa0 0 1) ?_
           refine WD.l ?_
           refine dst rfl ?_
           refine WD.done ?_
           exact WQ.pick (S' := [(0, _), (1, _), (2, _), (4, _), (6, _), (7, _), (10, _), (16, _)]) [0, 1, 2, 4, 6, 7, 10, 16] rfl (hJ b30 b35 c35 r35 h35 b43 b44 c44 r44 h44)
     · refine dv rfl vld ?_
       refine dq rfl (V_build (by kernel_rfl) (zi (zs := [(1, [.int .i64 0]), (1, [.int .i64 0]), (1, [.int .i64 0]), (32, List.replicate 32 (.int .u8 0)), (32, List.replicate 32 (.int .u8 0)), (1, [.int .i64 0]), (1, [.int .i64 0]), (1, [.slice none 0 0]), (1, [.int .i64 0]), (1, [.int .i64 0]), (1, [.int .i64 0]), (1, [.int .i64 0]), (32, List.replicate 32 (.int .u8 0)), (32, List.replicate 32 (.int .u8 0))])) (.one (k := 0) rfl rfl (by kernel_rfl) rfl (.agg (k := 1) (n := 69) rfl fit fln (by kernel_rfl) rfl (.agg (k := 70) (n := 68) rfl fit fln (by kernel_rfl) rfl (.nil _))))) ?_
       refine WD.l2 ?_ ?_
       · refine dbs0 rfl 138 138 224 (fun b30 => ?_)
         refine WD.l2 ?_ ?_
         · refine dapM0 rfl 138 138 224 (fun b35 c35 r35 h35 => ?_) (fun w hp => mlsS hp ho hms.1)
           refine WD.l ?_
           refine dbsM rfl 138 138 224 (fun b43 => ?_) (h1 := own_one (e := e)) (hl := own_len (e := e) he0 hsc hst)
           refine WD.l ?_
           refine dapM rfl 138 138 224 (fun b44 c44 r44 h44 => ?_) (ys := flat (mlS (many + 1) (e.at (some ⟨b27, 0, none⟩) l.length c27) s)) (fun w hp => (HP.sown hp (b := b43) (by repeat (first | exact List.Mem.head _ | apply List.Mem.tail)) (own_one (e := e))).mul)
           refine dq rfl vnil ?_
           refine dq rfl (vfa0 0 1) ?_
           refine WD.l ?_
           refine dst rfl ?_
           refine WD.done ?_
           exact WQ.pick (S' := [(0, _), (1, _), (2, _), (4, _), (6, _), (7, _), (10, _), (16, _)]) [0, 1, 2, 4, 6, 7, 10, 16] rfl (hJ b30 b35 c35 r35 h35 b43 b44 c44 r44 h44)
         · refine dbsM rfl 138 138 224 (fun b43 => ?_) (h1 := own_one (e := e)) (hl := own_len (e := e) he0 hsc hst)
           refine WD.l ?_
           refine dapM0 rfl 138 138 224 (fun b35 c35 r35 h35 => ?_) (fun w hp => mlsS hp ho hms.1)
           refine WD.l ?_
           refine dapM rfl 138 138 224 (fun b44 c44 r44 h44 => ?_) (ys := flat (mlS (many + 1) (e.at (some ⟨b27, 0, none⟩) l.length c27) s)) (fun w hp => (HP.sown hp (b := b43) (by repeat (first | exact List.Mem.head _ | apply List.Mem.tail)) (own_one (e := e))).mul)
           refine dq rfl vnil ?_
           refine dq rfl (vfa0 0 1) ?_
           refine WD.l ?_
           refine dst rfl ?_
           refine WD.done ?_
           exact WQ.pick (S' := [(0, _), (1, _), (2, _), (4, _), (6, _), (7, _), (10, _), (16, _)]) [0, 1, 2, 4, 6, 7, 10, 16] rfl (hJ b30 b35 c35 r35 h35 b43 b44 c44 r44 h44)
       · refine dbsM rfl 138 138 224 (fun b43 => ?_) (h1 := own_one (e := e)) (hl := own_len (e := e) he0 hsc hst)
         refine WD.l ?_
         refine dbs0 rfl 138 138 224 (fun b30 => ?_)
         refine WD.l ?_
         refine dapM0 rfl 138 138 224 (fun b35 c35 r35 h35 => ?_) (fun w hp => mlsS hp ho hms.1)
         refine WD.l ?_
         refine dapM rfl 138 138 224 (fun b44 c44 r44 h44 => ?_) (ys := flat (mlS (many + 1) (e.at (some ⟨b27, 0, none⟩) l.length c27) s)) (fun w hp => (HP.sown hp (b := b43) (by repeat (first | exact List.Mem.head _ | apply List.Mem.tail)) (own_one (e := e))).mul)
         refine dq rfl vnil ?_
         refine dq rfl (vfa0 0 1) ?_
         refine WD.l ?_
         refine dst rfl ?_
         refine WD.done ?_
         exact WQ.pick (S' := [(0, _), (1, _), (2, _), (4, _), (6, _), (7, _), (10, _), (16, _)]) [0, 1, 2, 4, 6, 7, 10, 16] rfl (hJ b30 b35 c35 r35 h35 b43 b44 c44 r44 h44)
   · refine dv rfl vld ?_
     refine dq rfl (V_build (by kernel_rfl) (zi (zs := [(1, [.int .i64 0]), (1, [.int .i64 0]), (1, [.int .i64 0]), (32, List.replicate 32 (.int .u8 0)), (32, List.replicate 32 (.int .u8 0)), (1, [.int .i64 0]), (1, [.int .i64 0]), (1, [.slice none 0 0]), (1, [.int .i64 0]), (1, [.int .i64 0]), (1, [.int .i64 0]), (1, [.int .i64 0]), (32, List.replicate 32 (.int .u8 0)), (32, List.replicate 32 (.int .u8 0))])) (.one (k := 0) rfl rfl (by kernel_rfl) rfl (.agg (k := 1) (n := 69) rfl fit fln (by kernel_rfl) rfl (.agg (k := 70) (n := 68) rfl fit fln (by kernel_rfl) rfl (.nil _))))) ?_
     refine WD.l3 ?_ ?_ ?_
     · refine dbs0 rfl 138 138 224 (fun b30 => ?_)
       refine WD.l2 ?_ ?_
       · refine dv rfl vld ?_
         refine WD.l2 ?_ ?_
         · refine dapM0 rfl 138 138 224 (fun b35 c35 r35 h35 => ?_) (fun w hp => mlsS hp ho hms.1)
           refine WD.l ?_
           refine dbsM rfl 138 138 224 (fun b43 => ?_) (h1 := own_one (e := e)) (hl := own_len (e := e) he0 hsc hst)
           refine WD.l ?_
           refine dapM rfl 138 138 224 (fun b44 c44 r44 h44 => ?_) (ys := flat (mlS (many + 1) (e.at (some ⟨b27, 0, none⟩) l.length c27) s)) (fun w hp => (HP.sown hp (b := b43) (by repeat (first | exact List.Mem.head _ | apply List.Mem.tail)) (own_one (e := e))).mul)
           refine dq rfl vnil ?_
           refine dq rfl (vfa0 0 1) ?_
           refine WD.l ?_
           refine dst rfl ?_
           refine WD.done ?_
           exact WQ.pick (S' := [(0, _), (1, _), (2, _), (4, _), (6, _), (7, _), (10, _), (16, _)]) [0, 1, 2, 4, 6, 7, 10, 16] rfl (hJ b30 b35 c35 r35 h35 b43 b44 c44 r44 h44)
         · refine dbsM rfl 138 138 224 (fun b43 => ?_) (h1 := own_one (e := e)) (hl := own_len (e := e) he0 hsc hst)
           refine WD.l ?_
           refine dapM0 rfl 138 138 224 (fun b35 c35 r35 h35 => ?_) (fun w hp => mlsS hp ho hms.1)
           refine WD.l ?_
           refine dapM rfl 138 138 224 (fun b44 c44 r44 h44 => ?_) (ys := flat (mlS (many + 1) (e.at (some ⟨b27, 0, none⟩) l.length c27) s)) (fun w hp => (HP.sown hp (b := b43) (by repeat (first | exact List.Mem.head _ | apply List.Mem.tail)) (own_one (e := e))).mul)
           refine dq rfl vnil ?_
           refine dq rfl (vfa0 0 1) ?_
           refine WD.l ?_
           refine dst rfl ?_
           refine WD.done ?_
           exact WQ.pick (S' := [(0, _), (1, _), (2, _), (4, _), (6, _), (7, _), (10, _), (16, _)]) [0, 1, 2, 4, 6, 7, 10, 16] rfl (hJ b30 b35 c35 r35 h35 b43 b44 c44 r44 h44)
       · refine dbsM rfl 138 138 224 (fun b43 => ?_) (h1 := own_one (e := e)) (hl := own_len (e := e) he0 hsc hst)
         refine WD.l ?_
         refine dv rfl vld ?_
         refine WD.l ?_
         refine dapM0 rfl 138 138 224 (fun b35 c35 r35 h35 => ?_) (fun w hp => mlsS hp ho hms.1)
         refine WD.l ?_
         refine dapM rfl 138 138 224 (fun b44 c44 r44 h44 => ?_) (ys := flat (mlS (many + 1) (e.at (some ⟨b27, 0, none⟩) l.length c27) s)) (fun w hp => (HP.sown hp (b := b43) (by repeat (first | exact List.Mem.head _ | apply List.Mem.tail)) (own_one (e := e))).mul)
         refine dq rfl vnil ?_
         refine dq rfl (vfa0 0 1) ?_
         refine WD.l ?_
         refine dst rfl ?_
         refine WD.done ?_
         exact WQ.pick (S' := [(0, _), (1, _), (2, _), (4, _), (6, _), (7, _), (10, _), (16, _)]) [0, 1, 2, 4, 6, 7, 10, 16] rfl (hJ b30 b35 c35 r35 h35 b43 b44 c44 r44 h44)
     · refine dv rfl vld ?_
       refine WD.l2 ?_ ?_
       · refine dbs0 rfl 138 138 224 (fun b30 => ?_)
         refine WD.l2 ?_ ?_
         · refine dapM0 rfl 138 138 224 (fun b35 c35 r35 h35 => ?_) (fun w hp => mlsS hp ho hms.1)
           refine WD.l ?_
           refine dbsM rfl 138 138 224 (fun b43 => ?_) (h1 := own_one (e := e)) (hl := own_len (e := e) he0 hsc hst)
           refine WD.l ?_
           refine dapM rfl 138 138 224 (fun b44 c44 r44 h44 => ?_) (ys := flat (mlS (many + 1) (e.at (some ⟨b27, 0, none⟩) l.length c27) s)) (fun w hp => (HP.sown hp (b := b43) (by repeat (first | exact List.Mem.head _ | apply List.Mem.tail)) (own_one (e := e))).mul)
           refine dq rfl vnil ?_
           refine dq rfl (vfa0 0 1) ?_
           refine WD.l ?_
           refine dst rfl ?_
           refine WD.done ?_
           exact WQ.pick (S' := [(0, _), (1, _), (2, _), (4, _), (6, _), (7, _), (10, _), (16, _)]) [0, 1, 2, 4, 6, 7, 10, 16] rfl (hJ b30 b35 c35 r35 h35 b43 b44 c44 r44 h44)
         · refine dbsM rfl 138 138 224 (fun b43 => ?_) (h1 := own_one (e := e)) (hl := own_len (e := e) he0 hsc hst)
           refine WD.l ?_
           refine dapM0 rfl 138 138 224 (fun b35 c35 r35 h35 => ?_) (fun w hp => mlsS hp ho hms.1)
           refine WD.l ?_
           refine dapM rfl 138 138 224 (fun b44 c44 r44 h44 => ?_) (ys := flat (mlS (many + 1) (e.at (some ⟨b27, 0, none⟩) l.length c27) s)) (fun w hp => (HP.sown hp (b := b43) (by repeat (first | exact List.Mem.head _ | apply List.Mem.tail)) (own_one (e := e))).mul)
           refine dq rfl vnil ?_
           refine dq rfl (vfa0 0 1) ?_
           refine WD.l ?_
           refine dst rfl ?_
           refine WD.done ?_
           exact WQ.pick (S' := [(0, _), (1, _), (2, _), (4, _), (6, _), (7, _), (10, _), (16, _)]) [0, 1, 2, 4, 6, 7, 10, 16] rfl (hJ b30 b35 c35 r35 h35 b43 b44 c44 r44 h44)
       · refine dbsM rfl 138 138 224 (fun b43 => ?_) (h1 := own_one (e := e)) (hl := own_len (e := e) he0 hsc hst)
         refine WD.l ?_
         refine dbs0 rfl 138 138 224 (fun b30 => ?_)
         refine WD.l ?_
         refine dapM0 rfl 138 138 224 (fun b35 c35 r35 h35 => ?_) (fun w hp => mlsS hp ho hms.1)
         refine WD.l ?_
         refine dapM rfl 138 138 224 (fun b44 c44 r44 h44 => ?_) (ys := flat (mlS (many + 1) (e.at (some ⟨b27, 0, none⟩) l.length c27) s)) (fun w hp => (HP.sown hp (b := b43) (by repeat (first | exact List.Mem.head _ | apply List.Mem.tail)) (own_one (e := e))).mul)
         refine dq rfl vnil ?_
         refine dq rfl (vfa0 0 1) ?_
         refine WD.l ?_
         refine dst rfl ?_
         refine WD.done ?_
         exact WQ.pick (S' := [(0, _), (1, _), (2, _), (4, _), (6, _), (7, _), (10, _), (16, _)]) [0, 1, 2, 4, 6, 7, 10, 16] rfl (hJ b30 b35 c35 r35 h35 b43 b44 c44 r44 h44)
     · refine dbsM rfl 138 138 224 (fun b43 => ?_) (h1 := own_one (e := e)) (hl := own_len (e := e) he0 hsc hst)
       refine WD.l2 ?_ ?_
       · refine dbs0 rfl 138 138 224 (fun b30 => ?_)
         refine WD.l ?_
         refine dv rfl vld ?_
         refine WD.l ?_
         refine dapM0 rfl 138 138 224 (fun b35 c35 r35 h35 => ?_) (fun w hp => mlsS hp ho hms.1)
         refine WD.l ?_
         refine dapM rfl 138 138 224 (fun b44 c44 r44 h44 => ?_) (ys := flat (mlS (many + 1) (e.at (some ⟨b27, 0, none⟩) l.length c27) s)) (fun w hp => (HP.sown hp (b := b43) (by repeat (first | exact List.Mem.head _ | apply List.Mem.tail)) (own_one (e := e))).mul)
         refine dq rfl vnil ?_
         refine dq rfl (vfa0 0 1) ?_
         refine WD.l ?_
         refine dst rfl ?_
         refine WD.done ?_
         exact WQ.pick (S' := [(0, _), (1, _), (2, _), (4, _), (6, _), (7, _), (10, _), (16, _)]) [0, 1, 2, 4, 6, 7, 10, 16] rfl (hJ b30 b35 c35 r35 h35 b43 b44 c44 r44 h44)
       · refine dv rfl vld ?_
         refine WD.l ?_
         refine dbs0 rfl 138 138 224 (fun b30 => ?_)
         refine WD.l ?_
         refine dapM0 rfl 138 138 224 (fun b35 c35 r35 h35 => ?_) (fun w hp => mlsS hp ho hms.1)
         refine WD.l ?_
         refine dapM rfl 138 138 224 (fun b44 c44 r44 h44 => ?_) (ys := flat (mlS (many + 1) (e.at (some ⟨b27, 0, none⟩) l.length c27) s)) (fun w hp => (HP.sown hp (b := b43) (by repeat (first | exact List.Mem.head _ | apply List.Mem.tail)) (own_one (e := e))).mul)
         refine dq rfl vnil ?_
         refine dq rfl (vfa0 0 1) ?_
         refine WD.l ?_
         refine dst rfl ?_
         refine WD.done ?_
         exact WQ.pick (S' := [(0, _), (1, _), (2, _), (4, _), (6, _), (7, _), (10, _), (16, _)]) [0, 1, 2, 4, 6, 7, 10, 16] rfl (hJ b30 b35 c35 r35 h35 b43 b44 c44 r44 h44)
 intro b30 b35 c35 r35 h35 b43 b44 c44 r44 h44
 refine WQ.then ?_
 refine sr ?_
 refine omv ?_
 refine ov vnil ?_
 refine ov (vfa0 1 1) ?_
 refine ov vld ?_
 refine oas ?_
 refine oas ?_
 refine nq ?_
 refine W.ret ?_
 refine WQ.ret2 Try.results96 (.tmp rfl) (.tmp rfl) ?_
 intro w' hp; refine ⟨(some (b27, c27, r27), some (b44, c44, r44)), ⟨h27, h44⟩, rfl, ?_⟩; rw [List.flatMap_append, List.flatMap_append, List.length_append, List.flatMap_singleton, List.flatMap_singleton]; exact hp.cov cov

set_option maxHeartbeats 1000000 in
theorem rack19_calls (b : Nat) (o : Gr) (ms : List ML) (many : Int) (ho : GrOK o ms.length) (hms : MsOK ms) (id : Int) (w : World) (hp0 : HP w w ((((b, .cells [(1, [.slice (gA o) ms.length (gC o)]), (1, [.int .i64 many])] 133) :: (gLM 138 o ms.length (ms.flatMap mlV) 138 ++ ms.flatMap mbL)) : List (Nat × Blk)).map (·.1)) (((b, .cells [(1, [.slice (gA o) ms.length (gC o)]), (1, [.int .i64 many])] 133) :: (gLM 138 o ms.length (ms.flatMap mlV) 138 ++ ms.flatMap mbL)) : List (Nat × Blk))) :
    Calls Try.prog 90 [.pointer (some ⟨b, 0, none⟩), .int .i64 id].toArray w fun e' w' => ∃ r : Gr × List ML, (r.2.map (·.1) = ackL (ms.map (·.1)) many id ∧ MsOK r.2 ∧ GrOK r.1 r.2.length) ∧ e' = .returned (.int .i64 (ackE (ms.map (·.1)) many id)) ∧ HP w w' ((((b, .cells [(1, [.slice (gA o) ms.length (gC o)]), (1, [.int .i64 many])] 133) :: (gLM 138 o ms.length (ms.flatMap mlV) 138 ++ ms.flatMap mbL)) : List (Nat × Blk)).map (·.1)) (((b, .cells [(1, [.slice (gA r.1) r.2.length (gC r.1)]), (1, [.int .i64 many])] 133) :: (gLM 138 r.1 r.2.length (r.2.flatMap mlV) 138 ++ r.2.flatMap mbL)) : List (Nat × Blk)) := by
 have h138 := mls_len hms.1
 have hl8 := hms.2
 refine calls_of_W Try.func90 rfl Try.ntmps90 rfl rfl hp0 ?_
 refine sr ?_
 refine oas ?_
 refine nq ?_
 refine W.seq ?_
 refine sr ?_
 refine omv ?_
 refine ov (v2 V_lss) ?_
 refine omv ?_
 refine WL.splitD rfl (fun g1 => ?_) (fun g1 => ?_)
 · refine on rfl (decide_eq_true g1) ?_
   refine on rfl (decide_eq_true g1) ?_
   refine on rfl (decide_eq_true g1) ?_
   refine on rfl (decide_eq_true g1) ?_
   refine on rfl (decide_eq_true g1) ?_
   refine on rfl (decide_eq_true g1) ?_
   refine ov (V_pick_td rfl g1 rfl) ?_
   refine nq ?_
   refine W.cond_true rfl rfl ?_
   refine sr ?_
   refine oas ?_
   refine nq ?_
   refine W.ret ?_
   refine WQ.then_ret ?_
   refine WQ.ret1 Try.results90 (.tmp rfl) ?_
   intro w' hp; obtain ⟨e1, e2⟩ := ack_no (l := ms.map (·.1)) (many := many) (id := id) (by omega); rw [e1, e2]; exact ⟨(o, ms), ⟨rfl, hms, ho⟩, rfl, hp.cov cov⟩
 · refine oy rfl (decide_eq_false g1) ?_
   refine omv ?_
   refine oy rfl (decide_eq_false g1) ?_
   refine omv ?_
   refine oy rfl (decide_eq_false g1) ?_
   refine ov vnil ?_
   refine oy rfl (decide_eq_false g1) ?_
   refine ov (vfa0 1 1) ?_
   refine oy rfl (decide_eq_false g1) ?_
   refine ov vld ?_
   refine oy rfl (decide_eq_false g1) ?_
   refine ov (v2 V_gtr) ?_
   refine ov (V_pick_fd rfl g1 rfl) ?_
   refine nq ?_
   refine W.cond_dec rfl (fun g2 => ?_) (fun g2 => ?_)
   · refine W.seq ?_
     refine W.region ?_
     refine oas ?_
     refine nq ?_
     refine W.ret ?_
     refine WQ.then_ret ?_
     refine WQ.ret1 Try.results90 (.tmp rfl) ?_
     intro w' hp; obtain ⟨e1, e2⟩ := ack_no (l := ms.map (·.1)) (many := many) (id := id) (by omega); rw [e1, e2]; exact ⟨(o, ms), ⟨rfl, hms, ho⟩, rfl, hp.cov cov⟩
   · refine W.skip ?_
     refine WQ.then ?_
     refine W.seq ?_
     refine sr ?_
     refine oas ?_
     refine nq ?_
     refine W.block ?_
     -- LOOP 0
     refine W.pick (S' := [(5, _), (0, _), (1, _), (4, _), (15, _)]) [5, 0, 1, 4, 15] rfl ?_
     refine W.loopG (σ := Nat) (fun i => i ≤ ms.length ∧ ∀ k m, k < i → ms[k]? = some m → m.1.id ≠ id) (fun i => [(5, .int .i64 (i : Nat))]) (fun i => []) [(b, _)] (fun i => (gLM 138 o ms.length (ms.flatMap mlV) 138 ++ ms.flatMap mbL)) (fun i => ms.length - i) 0 rfl cov ⟨Nat.zero_le _, fun k m hk => by omega⟩ ?_
     rintro i ⟨hi, hne⟩; dsimp only at hi hne ⊢
     refine W.seq ?_
     refine sr ?_
     refine omv ?_
     refine omv ?_
     refine ov vnil ?_
     refine ov (vfa0 0 1) ?_
     refine ov vld ?_
     refine ov vlenS ?_
     refine ov (v2 V_lss) ?_
     refine nq ?_
     refine W.cond_dec rfl (fun g3 => ?_) (fun g3 => ?_)
     · refine W.skip ?_
       refine WQ.then ?_
       refine W.seq ?_
       refine W.block ?_
       refine W.seq ?_
       obtain ⟨gb, gc, grs, hgo, hgc⟩ := gr_open ho (by omega)
       obtain ⟨m, hm⟩ : ∃ m, ms[i]? = some m := ⟨_, List.getElem?_eq_getElem (by omega)⟩
       have hmk := hms.1 m (List.mem_of_getElem? hm)
       refine W.region ?_
       refine omv ?_
       refine ov vnil ?_
       refine ov (vfa0 0 1) ?_
       refine ov vld ?_
       refine omv ?_
       refine ov (viGM 138 hgo) ?_
       refine ov (vfa 0 1) ?_
       refine ov ((vldMLf i 0 hgo ho hms.1 hm)) ?_
       refine omv ?_
       refine ov (v2 V_eql) ?_
       refine nq ?_
       refine W.cond_dec rfl (fun g4 => ?_) (fun g4 => ?_)
       · refine W.seq ?_
         subst hgo
         rw [show gLM 138 (some (gb, gc, grs)) ms.length (ms.flatMap mlV) 138 = [(gb, .cells [(ms.length * 138, ms.flatMap mlV), ((gc - ms.length) * 138, grs)] 138)] from rfl]
         have hil : i < ms.length := (List.getElem?_eq_some_iff.1 hm).1
         rw [show ms.flatMap mbL = (ms.take i).flatMap mbL ++ (mbL m ++ (ms.drop (i + 1)).flatMap mbL) from by conv => lhs; rw [ml_split hm, List.flatMap_append, List.flatMap_cons]]
         apply W.j9
         · intro hJ
           refine dr (.q 0 (.q 2 (.q 3 (.q 4 (.q 6 (.q 9 (.q 10 (.q 11 (.q 13 (.q 14 (.l3 1 (.l2 5 (.q 7 (.l2 8 (.l 12 (.q 15 (.l 16 (.q 17 (.q 18 (.l 19 (.done))))))) 12 (.q 15 (.l 8 (.l 16 (.q 17 (.q 18 (.l 19 (.done))))))))) 12 (.q 15 (.l 5 (.q 7 (.l 8 (.l 16 (.q 17 (.q 18 (.l 19 (.done)))))))))) 5 (.q 7 (.l2 1 (.l2 8 (.l 12 (.q 15 (.l 16 (.q 17 (.q 18 (.l 19 (.done))))))) 12 (.q 15 (.l 8 (.l 16 (.q 17 (.q 18 (.l 19 (.done)))))))) 12 (.q 15 (.l 1 (.l 8 (.l 16 (.q 17 (.q 18 (.l 19 (.done)))))))))) 12 (.q 15 (.l2 1 (.l 5 (.q 7 (.l 8 (.l 16 (.q 17 (.q 18 (.l 19 (.done)))))))) 5 (.q 7 (.l 1 (.l 8 (.l 16 (.q 17 (.q 18 (.l 19 (.done))))))))))))))))))))) [] ?_
           refine dq rfl (V_move rfl) ?_
           refine dq rfl (V_move rfl) ?_
           refine dq rfl vnil ?_
           refine dq rfl (vfa0 0 1) ?_
           refine dq rfl (V_move rfl) ?_
           refine dq rfl (V_move rfl) ?_
           refine dq rfl vnil ?_
           refine dq rfl (vfa0 0 1) ?_
           refine dq rfl (V_move rfl) ?_
           first | refine dq rfl vaddN ?_ | refine dq rfl vadd ?_
           refine WD.l3 ?_ ?_ ?_
           · refine dbs0 rfl 138 138 224 (fun b36 => ?_)
             refine WD.l2 ?_ ?_
             · refine dv rfl vld ?_
               refine dq rfl (vslT 138 (h := i) (cap := gc)) ?_
               refine WD.l2 ?_ ?_
               · refine dapM0 rfl 138 138 224 (fun b43 c43 r43 h43 => ?_) (ys := (ms.flatMap mlV).take (i * 138)) (fun w hp => ((HP.sown hp (b := gb) (by repeat (first | exact List.Mem.head _ | apply List.Mem.tail)) mlV_one).mul).take (by omega))
                 refine WD.l ?_
                 refine dv rfl vld ?_
                 refine dq rfl (vslFr 138 (l := i + 1) (cap := gc) (A := some ⟨gb, 0, none⟩)) ?_
                 refine WD.l ?_
                 refine dapM rfl 138 138 224 (fun b51 c51 r51 h51 => ?_) (ys := (ms.flatMap mlV).drop ((i + 1) * 138)) (fun w hp => mls_cut ((HP.sown hp (b := gb) (by repeat (first | exact List.Mem.head _ | apply List.Mem.tail)) mlV_one).mul) h138 (by omega) hgc)
                 refine dq rfl vnil ?_
                 refine dq rfl (vfa0 0 1) ?_
                 refine WD.l ?_
                 refine dst rfl ?_
                 refine WD.done ?_
                 exact WQ.pick (S' := [(0, _), (1, _), (4, _), (5, _), (15, _), (22, _), (34, _)]) [0, 1, 4, 5, 15, 22, 34] rfl (hJ b36 b43 c43 r43 h43 b51 c51 r51 h51)
               · refine dv rfl vld ?_
                 refine dq rfl (vslFr 138 (l := i + 1) (cap := gc) (A := some ⟨gb, 0, none⟩)) ?_
                 refine WD.l ?_
                 refine dapM0 rfl 138 138 224 (fun b43 c43 r43 h43 => ?_) (ys := (ms.flatMap mlV).take (i * 138)) (fun w hp => ((HP.sown hp (b := gb) (by repeat (first | exact List.Mem.head _ | apply List.Mem.tail)) mlV_one).mul).take (by omega))
                 refine WD.l ?_
                 refine dapM rfl 138 138 224 (fun b51 c51 r51 h51 => ?_) (ys := (ms.flatMap mlV).drop ((i + 1) * 138)) (fun w hp => mls_cut ((HP.sown hp (b := gb) (by repeat (first | exact List.Mem.head _ | apply List.Mem.tail)) mlV_one).mul) h138 (by omega) hgc)
                 refine dq rfl vnil ?_
                 refine dq rfl (vfa0 0 1) ?_
                 refine WD.l ?_
                 refine dst rfl ?_
                 refine WD.done ?_
                 exact WQ.pick (S' := [(0, _), (1, _), (4, _), (5, _), (15, _), (22, _), (34, _)]) [0, 1, 4, 5, 15, 22, 34] rfl (hJ b36 b43 c43 r43 h43 b51 c51 r51 h51)
             · refine dv rfl vld ?_
               refine dq rfl (vslFr 138 (l := i + 1) (cap := gc) (A := some ⟨gb, 0, none⟩)) ?_
               refine WD.l ?_
               refine dv rfl vld ?_
               refine dq rfl (vslT 138 (h := i) (cap := gc)) ?_
               refine WD.l ?_
               refine dapM0 rfl 138 138 224 (fun b43 c43 r43 h43 => ?_) (ys := (ms.flatMap mlV).take (i * 138)) (fun w hp => ((HP.sown hp (b := gb) (by repeat (first | exact List.Mem.head _ | apply List.Mem.tail)) mlV_one).mul).take (by omega))
               refine WD.l ?_
               refine dapM rfl 138 138 224 (fun b51 c51 r51 h51 => ?_) (ys := (ms.flatMap mlV).drop ((i + 1) * 138)) (fun w hp => mls_cut ((HP.sown hp (b := gb) (by repeat (first | exact List.Mem.head _ | apply List.Mem.tail)) mlV_one).mul) h138 (by omega) hgc)
               refine dq rfl vnil ?_
               refine dq rfl (vfa0 0 1) ?_
               refine WD.l ?_
               refine dst rfl ?_
               refine WD.done ?_
               exact WQ.pick (S' := [(0, _), (1, _), (4, _), (5, _), (15, _), (22, _), (34, _)]) [0, 1, 4, 5, 15, 22, 34] rfl (hJ b36 b43 c43 r43 h43 b51 c51 r51 h51)
           · refine dv rfl vld ?_
             refine dq rfl (vslT 138 (h := i) (cap := gc)) ?_
             refine WD.l2 ?_ ?_
             · refine dbs0 rfl 138 138 224 (fun b36 => ?_)
               refine WD.l2 ?_ ?_
               · refine dapM0 rfl 138 138 224 (fun b43 c43 r43 h43 => ?_) (ys := (ms.flatMap mlV).take (i * 138)) (fun w hp => ((HP.sown hp (b := gb) (by repeat (first | exact List.Mem.head _ | apply List.Mem.tail)) mlV_one).mul).take (by omega))
                 refine WD.l ?_
                 refine dv rfl vld ?_
                 refine dq rfl (vslFr 138 (l := i + 1) (cap := gc) (A := some ⟨gb, 0, none⟩)) ?_
                 refine WD.l ?_
                 refine dapM rfl 138 138 224 (fun b51 c51 r51 h51 => ?_) (ys := (ms.flatMap mlV).drop ((i + 1) * 138)) (fun w hp => mls_cut ((HP.sown hp (b := gb) (by repeat (first | exact List.Mem.head _ | apply List.Mem.tail)) mlV_one).mul) h138 (by omega) hgc)
                 refine dq rfl vnil ?_
                 refine dq rfl (vfa0 0 1) ?_
                 refine WD.l ?_
                 refine dst rfl ?_
                 refine WD.done ?_
                 exact WQ.pick (S' := [(0, _), (1, _), (4, _), (5, _), (15, _), (22, _), (34, _)]) [0, 1, 4, 5, 15, 22, 34] rfl (hJ b36 b43 c43 r43 h43 b51 c51 r51 h51)
               · refine dv rfl vld ?_
                 refine dq rfl (vslFr 138 (l := i + 1) (cap := gc) (A := some ⟨gb, 0, none⟩)) ?_
                 refine WD.l ?_
                 refine dapM0 rfl 138 138 224 (fun b43 c43 r43 h43 => ?_) (ys := (ms.flatMap mlV).take (i * 138)) (fun w hp => ((HP.sown hp (b := gb) (by repeat (first | exact List.Mem.head _ | apply List.Mem.tail)) mlV_one).mul).take (by omega))
                 refine WD.l ?_
                 refine dapM rfl 138 138 224 (fun b51 c51 r51 h51 => ?_) (ys := (ms.flatMap mlV).drop ((i + 1) * 138)) (fun w hp => mls_cut ((HP.sown hp (b := gb) (by repeat (first | exact List.Mem.head _ | apply List.Mem.tail)) mlV_one).mul) h138 (by omega) hgc)
                 refine dq rfl vnil ?_
                 refine dq rfl (vfa0 0 1) ?_
                 refine WD.l ?_
                 refine dst rfl ?_
                 refine WD.done ?_
                 exact WQ.pick (S' := [(0, _), (1, _), (4, _), (5, _), (15, _), (22, _), (34, _)]) [0, 1, 4, 5, 15, 22, 34] rfl (hJ b36 b43 c43 r43 h43 b51 c51 r51 h51)
             · refine dv rfl vld ?_
               refine dq rfl (vslFr 138 (l := i + 1) (cap := gc) (A := some ⟨gb, 0, none⟩)) ?_
               refine WD.l ?_
               refine dbs0 rfl 138 138 224 (fun b36 => ?_)
               refine WD.l ?_
               refine dapM0 rfl 138 138 224 (fun b43 c43 r43 h43 => ?_) (ys := (ms.flatMap mlV).take (i * 138)) (fun w hp => ((HP.sown hp (b := gb) (by repeat (first | exact List.Mem.head _ | apply List.Mem.tail)) mlV_one).mul).take (by omega))
               refine WD.l ?_
               refine dapM rfl 138 138 224 (fun b51 c51 r51 h51 => ?_) (ys := (ms.flatMap mlV).drop ((i + 1) * 138)) (fun w hp => mls_cut ((HP.sown hp (b := gb) (by repeat (first | exact List.Mem.head _ | apply List.Mem.tail)) mlV_one).mul) h138 (by omega) hgc)
               refine dq rfl vnil ?_
               refine dq rfl (vfa0 0 1) ?_
               refine WD.l ?_
               refine dst rfl ?_
               refine WD.done ?_
               exact WQ.pick (S' := [(0, _), (1, _), (4, _), (5, _), (15, _), (22, _), (34, _)]) [0, 1, 4, 5, 15, 22, 34] rfl (hJ b36 b43 c43 r43 h43 b51 c51 r51 h51)
           · refine dv rfl vld ?_
             refine dq rfl (vslFr 138 (l := i + 1) (cap := gc) (A := some ⟨gb, 0, none⟩)) ?_
             refine WD.l2 ?_ ?_
             · refine dbs0 rfl 138 138 224 (fun b36 => ?_)
               refine WD.l ?_
               refine dv rfl vld ?_
               refine dq rfl (vslT 138 (h := i) (cap := gc)) ?_
               refine WD.l ?_
               refine dapM0 rfl 138 138 224 (fun b43 c43 r43 h43 => ?_) (ys := (ms.flatMap mlV).take (i * 138)) (fun w hp => ((HP.sown hp (b := gb) (by repeat (first | exact List.Mem.head _ | apply List.Mem.tail)) mlV_one).mul).take (by omega))
               refine WD.l ?_
               refine dapM rfl 138 138 224 (fun b51 c51 r51 h51 => ?_) (ys := (ms.flatMap mlV).drop ((i + 1) * 138)) (fun w hp => mls_cut ((HP.sown hp (b := gb) (by repeat (first | exact List.Mem.head _ | apply List.Mem.tail)) mlV_one).mul) h138 (by omega) hgc)
               refine dq rfl vnil ?_
               refine dq rfl (vfa0 0 1) ?_
               refine WD.l ?_
               refine dst rfl ?_
               refine WD.done ?_
               exact WQ.pick (S' := [(0, _), (1, _), (4, _), (5, _), (15, _), (22, _), (34, _)]) [0, 1, 4, 5, 15, 22, 34] rfl (hJ b36 b43 c43 r43 h43 b51 c51 r51 h51)
             · refine dv rfl vld ?_
               refine dq rfl (vslT 138 (h := i) (cap := gc)) ?_
               refine WD.l ?_
               refine dbs0 rfl 138 138 224 (fun b36 => ?_)
               refine WD.l ?_
               refine dapM0 rfl 138 138 224 (fun b43 c43 r43 h43 => ?_) (ys := (ms.flatMap mlV).take (i * 138)) (fun w hp => ((HP.sown hp (b := gb) (by repeat (first | exact List.Mem.head _ | apply List.Mem.tail)) mlV_one).mul).take (by omega))
               refine WD.l ?_
               refine dapM rfl 138 138 224 (fun b51 c51 r51 h51 => ?_) (ys := (ms.flatMap mlV).drop ((i + 1) * 138)) (fun w hp => mls_cut ((HP.sown hp (b := gb) (by repeat (first | exact List.Mem.head _ | apply List.Mem.tail)) mlV_one).mul) h138 (by omega) hgc)
               refine dq rfl vnil ?_
               refine dq rfl (vfa0 0 1) ?_
               refine WD.l ?_
               refine dst rfl ?_
               refine WD.done ?_
               exact WQ.pick (S' := [(0, _), (1, _), (4, _), (5, _), (15, _), (22, _), (34, _)]) [0, 1, 4, 5, 15, 22, 34] rfl (hJ b36 b43 c43 r43 h43 b51 c51 r51 h51)
         intro b36 b43 c43 r43 h43 b51 c51 r51 h51
         refine WQ.then ?_
         refine sr ?_
         refine oas ?_
         refine nq ?_
         refine W.ret ?_
         refine WQ.block_ret ?_
         refine WQ.then_ret ?_
         refine WQ.then_ret ?_
         refine WQ.block_ret ?_
         refine WQ.then_ret ?_
         refine WQ.ret1 Try.results90 (.tmp rfl) ?_
         intro w' hp; obtain ⟨e1, e2⟩ := ack_yes (l := ms.map (·.1)) (many := many) (id := id) (i := i) (by omega) (aidx_at (mids hne) (by rw [List.getElem?_map, hm]; rfl) (by assumption)); rw [e1, e2]; refine ⟨(some (b51, c51, r51), ms.take i ++ ms.drop (i + 1)), ⟨by simp [List.map_take, List.map_drop], hms.cut, ?_⟩, rfl, ?_⟩
         · show _ ≤ c51; simp; omega
         · rw [flatMap_take' (fun m hm => mlV_len (hms.1 m hm)), flatMap_drop' (fun m hm => mlV_len (hms.1 m hm)), ← List.flatMap_append] at hp; have hnl : i + (ms.length - (i + 1)) = (ms.take i ++ ms.drop (i + 1)).length := by simp; omega
           rw [hnl] at hp; dsimp only; rw [List.flatMap_append (f := mbL)]; exact hp.cov cov
       · refine W.skip ?_
         refine WQ.block_normal ?_
         refine WQ.then ?_
         refine W.region ?_
         refine omv ?_
         first | refine ov vaddN ?_ | refine ov vadd ?_
         refine oas ?_
         refine WL.nil ?_
         exact ag (i + 1) [5, 0, 1, 4, 15] (by (try dsimp only); exact ⟨by omega, fun k m' hk h' => by
           by_cases e2 : k = i
           · subst e2; rw [hm] at h'; cases h'; assumption
           · exact hne k m' (by omega) h'⟩) (by (try dsimp only); omega) rfl cov
     · refine W.exit ?_
       refine WQ.then_exit ?_
       refine WQ.then_exit ?_
       refine WQ.block_hit ?_
       refine WQ.then ?_
       refine sr ?_
       refine oas ?_
       refine nq ?_
       refine W.ret ?_
       refine WQ.ret1 Try.results90 (.tmp rfl) ?_
       intro w' hp; obtain rfl : i = ms.length := by omega
       obtain ⟨e1, e2⟩ := ack_old (l := ms.map (·.1)) (many := many) (id := id) (by omega) (aidx_end (fun k a hk => mids hne k a (by simpa using hk))); rw [e1, e2]; exact ⟨(o, ms), ⟨rfl, hms, ho⟩, rfl, hp.cov cov⟩

end Go.Proofs.Ytmeckbjinmgbbaa