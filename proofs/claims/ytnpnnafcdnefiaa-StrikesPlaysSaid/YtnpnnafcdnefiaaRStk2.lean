/- Strikes: the document's answer: a record gone through. -/
import Derived.Test.YtnpnnafcdnefiaaRStk
set_option linter.unusedVariables false
set_option linter.unusedSimpArgs false

namespace Go.Proofs.Ytnpnnafcdnefiaa
open Go.X
theorem now_eq {l : List Int} (h : l.length = 10) : numH (((l.drop 6).take (10 - 6)).take 8) = nowF l := by
  unfold nowF; rw [List.take_of_length_le (l := l.drop 6) (by simp; omega)]

theorem rofHigh23_calls (A : Option Addr) (n cap : Nat) (l : List Int) (w : World) (hs : SrW w 1 A n (iv .u8 l)) (hb : bytes l) (hn : n ≤ cap) (hn2 : n ≤ 4000000) :
    Calls Try.prog 80 [.slice A n cap].toArray w fun e w' => e = .returned (.int .u64 (numH (l.take 8))) ∧ HP w w' [] [] := by
 have hl := SrW.ilen hs
 refine calls_of_W Try.func80 rfl Try.ntmps80 rfl rfl (HP.refl w []) ?_
 refine sr ?_
 refine oas ?_
 refine nx ?_
 refine oas ?_
 refine nq ?_
 refine W.seq ?_
 refine sr ?_
 refine oas ?_
 refine nq ?_
 refine W.block ?_
 -- LOOP 0
 refine W.pick (S' := [(3, _), (4, _), (0, _), (2, _)]) [3, 4, 0, 2] rfl ?_
 refine W.loopG (σ := Nat) (fun i => i ≤ n ∧ i ≤ 8) (fun i => [(3, .int .u64 (numH (l.take i))), (4, .int .i64 (i : Nat))]) (fun i => []) [] (fun i => []) (fun i => n - i) 0 rfl cov ⟨Nat.zero_le _, by decide⟩ ?_
 rintro i ⟨hi, hi2⟩; dsimp only at hi hi2 ⊢
 refine W.seq ?_
 refine sr ?_
 refine omv ?_
 refine omv ?_
 refine ov vlenS ?_
 refine ov (v2 V_lss) ?_
 refine omv ?_
 refine WL.splitD rfl (fun g1 => ?_) (fun g1 => ?_)
 · refine oy rfl (decide_eq_true g1) ?_
   refine omv ?_
   refine oy rfl (decide_eq_true g1) ?_
   refine ov (v2 V_lss) ?_
   refine ov (V_pick_td rfl g1 rfl) ?_
   refine nq ?_
   refine W.cond_dec rfl (fun g2 => ?_) (fun g2 => ?_)
   · refine W.skip ?_
     refine WQ.then ?_
     refine W.seq ?_
     refine W.block ?_
     refine W.region ?_
     have hc := hb.get i; have hd := numH_bd hb i (by omega) (by omega)
     refine omv ?_
     first | refine ov vmulN ?_ | refine ov vmul ?_
     refine omv ?_
     refine omv ?_
     obtain ⟨bbA, ooA, rfl⟩ := hs.hasN sc
     first | refine ov viS1 ?_ | refine ov viS1Z ?_
     refine ov (vldS _) ?_
     first | refine ov (vcvN .u64) ?_ | refine ov (vcv .u64) ?_
     first | refine ov vaddN ?_ | refine ov vadd ?_
     refine oas ?_
     refine WL.nil ?_
     refine WQ.block_normal ?_
     refine WQ.then ?_
     refine W.region ?_
     refine omv ?_
     first | refine ov vaddN ?_ | refine ov vadd ?_
     refine oas ?_
     refine WL.nil ?_
     rw [← numH_snoc, ← take_snoc (by omega)]
     exact ag (i + 1) [3, 4, 0, 2] (by (try dsimp only); exact ⟨by omega, by omega⟩) (by (try dsimp only); omega) rfl cov
   · refine W.exit ?_
     refine WQ.then_exit ?_
     refine WQ.then_exit ?_
     refine WQ.block_hit ?_
     refine WQ.then ?_
     refine sr ?_
     refine omv ?_
     refine oas ?_
     refine nq ?_
     refine W.ret ?_
     refine WQ.ret1 Try.results80 (.tmp rfl) ?_
     intro w' hp; have hin : l.take i = l.take 8 := by
       by_cases h8 : n ≤ 8
       · rw [List.take_of_length_le (by omega), List.take_of_length_le (by omega)]
       · rw [show i = 8 by omega]
     rw [hin]; exact ⟨rfl, hp.forget⟩
 · refine on rfl (decide_eq_false g1) ?_
   refine on rfl (decide_eq_false g1) ?_
   refine ov (V_pick_fd rfl g1 rfl) ?_
   refine nq ?_
   refine W.cond_false rfl rfl ?_
   refine W.exit ?_
   refine WQ.then_exit ?_
   refine WQ.then_exit ?_
   refine WQ.block_hit ?_
   refine WQ.then ?_
   refine sr ?_
   refine omv ?_
   refine oas ?_
   refine nq ?_
   refine W.ret ?_
   refine WQ.ret1 Try.results80 (.tmp rfl) ?_
   intro w' hp; have hin : l.take i = l.take 8 := by
     by_cases h8 : n ≤ 8
     · rw [List.take_of_length_le (by omega), List.take_of_length_le (by omega)]
     · rw [show i = 8 by omega]
   rw [hin]; exact ⟨rfl, hp.forget⟩

theorem rrecord23_calls (kd a id now : Int) (hkd : 0 ≤ kd ∧ kd ≤ 255) (ha : 0 ≤ a ∧ a < 8) (hid : 0 ≤ id ∧ id ≤ 1000000) (hnow : 0 ≤ now ∧ now ≤ 1000000) (w : World) :
    Calls Try.prog 70 [.int .u8 kd, .int .i64 a, .int .i64 id, .int .i64 now].toArray w fun e w' => ∃ o : Gr, GrOK o 10 ∧ e = .returned (.slice (gA o) 10 (gC o)) ∧ HP w w' [] (gL o 10 (iv .u8 (recS kd a id now)) 5) := by
 refine calls_of_W Try.func70 rfl Try.ntmps70 rfl rfl (HP.refl w []) ?_
 refine sr ?_
 refine oas ?_
 refine nx ?_
 refine omv ?_
 refine omv ?_
 first | refine ov (vcvN .u8) ?_ | refine ov (vcv .u8) ?_
 refine obsI (k := .u8) 5 1 [_, _] (fun b13 => ?_)
 refine omv ?_
 first | refine ov (vcvN .u64) ?_ | refine ov (vcv .u64) ?_
 refine cgG rfl (fun w hp => rhigh_calls _ 4 w sc sc) (fun o16 h16 => ?_)
 refine oap 5 1 (fun b17 c17 r17 h17 => ?_)
 refine oas ?_
 refine nx ?_
 refine omv ?_
 refine omv ?_
 first | refine ov (vcvN .u64) ?_ | refine ov (vcv .u64) ?_
 refine cgG rfl (fun w hp => rhigh_calls _ 4 w sc sc) (fun o21 h21 => ?_)
 refine oap 5 1 (fun b22 c22 r22 h22 => ?_)
 refine oas ?_
 refine nq ?_
 refine W.ret ?_
 refine WQ.ret1 Try.results70 (.tmp rfl) ?_
 intro w' hp; exact ⟨some (b22, c22, r22), h22, rfl, hp.cov cov⟩

theorem rtake23_calls (b j : Nat) (o : Gr) (S : LS) (hls : LOK S) (ho : GrOK o S.m.length) (hlen : S.m.length ≤ 1000) (A : Option Addr) (n cap : Nat) (l : List Int) (hbb : bytes l) (hn : n ≤ cap) (hbl : n = l.length) (hn2 : n ≤ 1000000) (w : World) (hp0 : HP w w (((b, .cells [(1, [.pointer (some ⟨j, 0, none⟩)]), (1, [.slice (gA o) S.m.length (gC o)])] 135) :: rL o S : List (Nat × Blk)).map (·.1)) ((b, .cells [(1, [.pointer (some ⟨j, 0, none⟩)]), (1, [.slice (gA o) S.m.length (gC o)])] 135) :: rL o S : List (Nat × Blk))) (hb : ∀ w' M, HP w w' (((b, .cells [(1, [.pointer (some ⟨j, 0, none⟩)]), (1, [.slice (gA o) S.m.length (gC o)])] 135) :: rL o S : List (Nat × Blk)).map (·.1)) M → SrW w' 1 A n (iv .u8 l)) :
    Calls Try.prog 67 [.pointer (some ⟨b, 0, none⟩), .slice A n cap].toArray w fun e w' => ∃ o' : Gr, GrOK o' (tk S l).m.length ∧ e = .returned (.tuple #[]) ∧ HP w w' (((b, .cells [(1, [.pointer (some ⟨j, 0, none⟩)]), (1, [.slice (gA o) S.m.length (gC o)])] 135) :: rL o S : List (Nat × Blk)).map (·.1)) ((b, .cells [(1, [.pointer (some ⟨j, 0, none⟩)]), (1, [.slice (gA o') (tk S l).m.length (gC o')])] 135) :: rL o' (tk S l) : List (Nat × Blk)) := by
 subst hbl
 obtain ⟨bA, oA, hA⟩ : ∃ bA oA, 0 < l.length → A = some ⟨bA, oA, none⟩ := by
   by_cases h : 0 < l.length
   · obtain ⟨x, y, z⟩ := (hb w _ hp0).hasN h; exact ⟨x, y, fun _ => z⟩
   · exact ⟨0, 0, fun h2 => absurd h2 h⟩
 refine calls_of_W Try.func67 rfl Try.ntmps67 rfl rfl hp0 ?_
 refine W.seq ?_
 refine sr ?_
 refine omv ?_
 refine ov vlenS ?_
 refine ov (v2 V_neq) ?_
 refine omv ?_
 refine WL.splitD rfl (fun g1 => ?_) (fun g1 => ?_)
 · refine on rfl (decide_eq_true g1) ?_
   refine on rfl (decide_eq_true g1) ?_
   refine on rfl (decide_eq_true g1) ?_
   refine on rfl (decide_eq_true g1) ?_
   refine ov (V_pick_td rfl g1 rfl) ?_
   refine nq ?_
   refine W.cond_true rfl rfl ?_
   refine W.ret ?_
   refine WQ.then_ret ?_
   refine WQ.ret0 (.inl rfl) Try.results67 ?_
   intro w' hp; rw [tk_bad (l := l) (by intro h; obtain ⟨⟨h1, h2⟩, h3, h4⟩ := tkOK_of h; first | omega | (have e3 := tmB_t h3; have e4 := tmB_t h4; unfold idF at e3; simp_all; done))]; exact ⟨o, ho, rfl, hp.cov cov⟩
 · refine oy rfl (decide_eq_false g1) ?_
   refine omv ?_
   refine oy rfl (decide_eq_false g1) ?_
   refine ov (viO (b := bA) (o := oA) (i := 1) 1 (hx := congrArg (fun a => some (Value.slice a l.length cap)) (hA (by omega)))) ?_
   refine oy rfl (decide_eq_false g1) ?_
   refine ov (V_loadSrI (b := bA) (o := oA) (n := l.length) 1 (fun w hp => (hA (by omega)) ▸ hb w _ hp) (by kernel_rfl) rfl (by omega) (by omega)) ?_
   refine oy rfl (decide_eq_false g1) ?_
   refine ov (v2 V_gtr) ?_
   refine ov (V_pick_fd rfl g1 rfl) ?_
   refine nq ?_
   refine W.cond_dec rfl (fun g2 => ?_) (fun g2 => ?_)
   · refine W.ret ?_
     refine WQ.then_ret ?_
     refine WQ.ret0 (.inl rfl) Try.results67 ?_
     intro w' hp; rw [tk_bad (l := l) (by intro h; obtain ⟨⟨h1, h2⟩, h3, h4⟩ := tkOK_of h; first | omega | (have e3 := tmB_t h3; have e4 := tmB_t h4; unfold idF at e3; simp_all; done))]; exact ⟨o, ho, rfl, hp.cov cov⟩
   · refine W.skip ?_
     refine WQ.then ?_
     refine W.seq ?_
     have hb1 := hbb.get 1
     have hi4 := numH_bd23 ((hbb.drop 2).take (6 - 2)) (by simp; omega)
     have hn4 := numH_bd23 ((hbb.drop 6).take (10 - 6)) (by simp; omega)
     refine W.region ?_
     refine omv ?_
     refine ov (vsl (l := 2) (h := 6) 1) ?_
     refine cp rfl (fun w hp => rofHigh23_calls _ _ _ ((l.drop 2).take (6 - 2)) w (by have hs1 := hb w _ hp; exact sw) ((hbb.drop 2).take _) (by omega) (by omega)) ?_
     first | refine ov (vcvN .i64) ?_ | refine ov (vcv .i64) ?_
     refine oas ?_
     refine nx ?_
     refine omv ?_
     refine ov (vsl (l := 6) (h := 10) 1) ?_
     refine cp rfl (fun w hp => rofHigh23_calls _ _ _ ((l.drop 6).take (10 - 6)) w (by have hs1 := hb w _ hp; exact sw) ((hbb.drop 6).take _) (by omega) (by omega)) ?_
     first | refine ov (vcvN .i64) ?_ | refine ov (vcv .i64) ?_
     refine oas ?_
     refine nq ?_
     refine W.seq ?_
     refine W.seq ?_
     rw [now_eq (by omega)] at hn4 ⊢
     refine W.region ?_
     refine omv ?_
     refine cp rfl (fun w hp => rtime23_calls _ w) ?_
     refine ov vnot ?_
     refine omv ?_
     refine WL.split rfl (fun g3 => ?_) (fun g3 => ?_)
     · refine on rfl g3 ?_
       refine on rfl g3 ?_
       refine on rfl g3 ?_
       refine ov (V_pick_t rfl g3 rfl) ?_
       refine nq ?_
       refine W.cond_true rfl rfl ?_
       refine W.ret ?_
       refine WQ.then_ret ?_
       refine WQ.ret0 (.inl rfl) Try.results67 ?_
       intro w' hp; rw [tk_bad (l := l) (by intro h; obtain ⟨⟨h1, h2⟩, h3, h4⟩ := tkOK_of h; first | omega | (have e3 := tmB_t h3; have e4 := tmB_t h4; unfold idF at e3; simp_all; done))]; exact ⟨o, ho, rfl, hp.cov cov⟩
     · refine oy rfl g3 ?_
       refine omv ?_
       refine oy rfl g3 ?_
       refine cp rfl (fun w hp => rtime23_calls _ w) ?_
       refine oy rfl g3 ?_
       refine ov vnot ?_
       refine ov (V_pick_f rfl g3 rfl) ?_
       refine nq ?_
       refine W.cond rfl (fun g4 => ?_) (fun g4 => ?_)
       · refine W.ret ?_
         refine WQ.then_ret ?_
         refine WQ.ret0 (.inl rfl) Try.results67 ?_
         intro w' hp; rw [tk_bad (l := l) (by intro h; obtain ⟨⟨h1, h2⟩, h3, h4⟩ := tkOK_of h; first | omega | (have e3 := tmB_t h3; have e4 := tmB_t h4; unfold idF at e3; simp_all; done))]; exact ⟨o, ho, rfl, hp.cov cov⟩
       · refine W.skip ?_
         refine WQ.then ?_
         refine W.seq ?_
         have htk : tkOK l = true := by
           simp only [tkOK, Bool.and_eq_true, decide_eq_true_eq]; exact ⟨⟨by omega, by omega⟩, by simpa [idF] using g3, by simpa using g4⟩
         by_cases hq : ∃ s, S.get (idF l) = some s
         · obtain ⟨s, hq⟩ := hq
           obtain ⟨q, kb, hk1, hk2, hk3⟩ := kidx_some (s' := (⟨s.a, s.t, true⟩ : Stk)) (ck := S.ck) hq
           have hat : atI S.m (idF l) = q := by unfold atI; rw [hk1]; rfl
           have hql : q < S.m.length := (List.getElem?_eq_some_iff.1 hk2).1
           refine W.region ?_
           refine omv ?_
           refine omv ?_
           refine cgP (ι := Unit) (A := fun _ => True) (V := fun _ => .int .i64 (atI S.m (idF l))) (M := fun _ => ((b, .cells [(1, [.pointer (some ⟨j, 0, none⟩)]), (1, [.slice (gA o) S.m.length (gC o)])] 135) :: rL o S : List (Nat × Blk))) _ rfl (fun w hp => (rat23_calls b j o S ho (by omega) (idF l) w (HP.here hp cov)).mono fun e w' ⟨h1, h2⟩ => ⟨(), trivial, h1, h2⟩) (fun _ _ => ?_)
           simp only [List.cons_append, List.nil_append, List.append_nil, List.append_assoc]
           refine WL.back (rL o S) ?_
           simp only [List.cons_append, List.nil_append, List.append_nil, List.append_assoc]
           rw [hat]
           refine oas ?_
           refine nq ?_
           refine W.seq ?_
           refine sr ?_
           refine omv ?_
           refine ov (viO (b := bA) (o := oA) (i := 0) 1 (hx := congrArg (fun a => some (Value.slice a l.length cap)) (hA (by omega)))) ?_
           refine ov (V_loadSrI (b := bA) (o := oA) (n := l.length) 0 (fun w hp => (hA (by omega)) ▸ hb w _ hp) (by kernel_rfl) rfl (by omega) (by omega)) ?_
           refine ov (v2 V_eql) ?_
           refine omv ?_
           refine WL.splitD rfl (fun g5 => ?_) (fun g5 => ?_)
           · refine oy rfl (decide_eq_true g5) ?_
             refine omv ?_
             refine oy rfl (decide_eq_true g5) ?_
             refine ov (v2 V_lss) ?_
             refine ov (V_pick_td rfl g5 rfl) ?_
             refine nq ?_
             refine W.cond_false rfl (decide_eq_false (by omega)) ?_
             refine W.skip ?_
             refine WQ.then ?_
             refine sr ?_
             refine omv ?_
             refine ov (viO (b := bA) (o := oA) (i := 0) 1 (hx := congrArg (fun a => some (Value.slice a l.length cap)) (hA (by omega)))) ?_
             refine ov (V_loadSrI (b := bA) (o := oA) (n := l.length) 0 (fun w hp => (hA (by omega)) ▸ hb w _ hp) (by kernel_rfl) rfl (by omega) (by omega)) ?_
             refine ov (v2 V_eql) ?_
             refine omv ?_
             refine WL.splitD rfl (fun g6 => ?_) (fun g6 => ?_)
             · refine oy rfl (decide_eq_true g6) ?_
               refine omv ?_
               refine oy rfl (decide_eq_true g6) ?_
               refine ov (v2 V_geq) ?_
               refine ov (V_pick_td rfl g6 rfl) ?_
               refine nq ?_
               refine W.cond_true rfl (decide_eq_true (by omega)) ?_
               obtain ⟨gb, gc, grs, rfl, hgc⟩ := GrOK.open ho (by omega)
               rw [show rL (some (gb, gc, grs)) S = [(gb, .cells [(S.m.length * 4, S.m.flatMap rsV), ((gc - S.m.length) * 4, grs)] 140)] from rfl]
               refine W.region ?_
               refine omv ?_
               refine ov vnil ?_
               refine ov (vfa0 1 1) ?_
               refine ov vld ?_
               refine omv ?_
               refine ov (viO 4) ?_
               refine ov (vfa 3 1) ?_
               refine ostOs (a := (idF l, s, kb)) (idF l, ⟨s.a, s.t, true⟩, kb) 4 q 3 ?_ rsV_len hk2 rfl
               refine WL.nil ?_
               refine WQ.ret0 (.inr rfl) Try.results67 ?_
               intro w' hp; first | (exfalso; omega) | contradiction | (rw [tk_clr0 hq (by omega)]; exact ⟨o, ho, rfl, hp.cov cov⟩) | (rw [tk_add0 hq (by omega)]; exact ⟨o, ho, rfl, hp.cov cov⟩) | (rw [tk_clr htk hq (by omega)]; have hmm : (S.put (idF l) ⟨s.a, s.t, true⟩).m = S.m.set q (idF l, ⟨s.a, s.t, true⟩, kb) := hk3; refine ⟨some (gb, gc, grs), by rw [hmm, List.length_set]; exact hgc, rfl, ?_⟩; unfold rL gLM; rw [hmm, List.length_set]; exact hp.cov cov) | (rw [tk_add htk hq (by omega)]; have hmm : (S.put (idF l) ⟨l.getD 1 0, nowF l, false⟩).m = S.m ++ [(idF l, ⟨l.getD 1 0, nowF l, false⟩, S.ck)] := kput_new hq; have hml : (S.put (idF l) ⟨l.getD 1 0, nowF l, false⟩).m.length = 0 + S.m.length + 1 := (by rw [hmm]; simp); refine ⟨some (b58, c58, r58), by rw [hml]; exact h58, rfl, ?_⟩; unfold rL; rw [hml, hmm, List.flatMap_append]; exact hp.cov cov)
             · refine on rfl (decide_eq_false g6) ?_
               refine on rfl (decide_eq_false g6) ?_
               refine ov (V_pick_fd rfl g6 rfl) ?_
               refine nq ?_
               refine W.cond_false rfl rfl ?_
               refine W.skip ?_
               refine WQ.ret0 (.inr rfl) Try.results67 ?_
               intro w' hp; first | (exfalso; omega) | contradiction | (rw [tk_clr0 hq (by omega)]; exact ⟨o, ho, rfl, hp.cov cov⟩) | (rw [tk_add0 hq (by omega)]; exact ⟨o, ho, rfl, hp.cov cov⟩) | (rw [tk_clr htk hq (by omega)]; have hmm : (S.put (idF l) ⟨s.a, s.t, true⟩).m = S.m.set q (idF l, ⟨s.a, s.t, true⟩, kb) := hk3; refine ⟨some (gb, gc, grs), by rw [hmm, List.length_set]; exact hgc, rfl, ?_⟩; unfold rL gLM; rw [hmm, List.length_set]; exact hp.cov cov) | (rw [tk_add htk hq (by omega)]; have hmm : (S.put (idF l) ⟨l.getD 1 0, nowF l, false⟩).m = S.m ++ [(idF l, ⟨l.getD 1 0, nowF l, false⟩, S.ck)] := kput_new hq; have hml : (S.put (idF l) ⟨l.getD 1 0, nowF l, false⟩).m.length = 0 + S.m.length + 1 := (by rw [hmm]; simp); refine ⟨some (b58, c58, r58), by rw [hml]; exact h58, rfl, ?_⟩; unfold rL; rw [hml, hmm, List.flatMap_append]; exact hp.cov cov)
           · refine on rfl (decide_eq_false g5) ?_
             refine on rfl (decide_eq_false g5) ?_
             refine ov (V_pick_fd rfl g5 rfl) ?_
             refine nq ?_
             refine W.cond_false rfl rfl ?_
             refine W.skip ?_
             refine WQ.then ?_
             refine sr ?_
             refine omv ?_
             refine ov (viO (b := bA) (o := oA) (i := 0) 1 (hx := congrArg (fun a => some (Value.slice a l.length cap)) (hA (by omega)))) ?_
             refine ov (V_loadSrI (b := bA) (o := oA) (n := l.length) 0 (fun w hp => (hA (by omega)) ▸ hb w _ hp) (by kernel_rfl) rfl (by omega) (by omega)) ?_
             refine ov (v2 V_eql) ?_
             refine omv ?_
             refine WL.splitD rfl (fun g7 => ?_) (fun g7 => ?_)
             · refine oy rfl (decide_eq_true g7) ?_
               refine omv ?_
               refine oy rfl (decide_eq_true g7) ?_
               refine ov (v2 V_geq) ?_
               refine ov (V_pick_td rfl g7 rfl) ?_
               refine nq ?_
               refine W.cond_true rfl (decide_eq_true (by omega)) ?_
               obtain ⟨gb, gc, grs, rfl, hgc⟩ := GrOK.open ho (by omega)
               rw [show rL (some (gb, gc, grs)) S = [(gb, .cells [(S.m.length * 4, S.m.flatMap rsV), ((gc - S.m.length) * 4, grs)] 140)] from rfl]
               refine W.region ?_
               refine omv ?_
               refine ov vnil ?_
               refine ov (vfa0 1 1) ?_
               refine ov vld ?_
               refine omv ?_
               refine ov (viO 4) ?_
               refine ov (vfa 3 1) ?_
               refine ostOs (a := (idF l, s, kb)) (idF l, ⟨s.a, s.t, true⟩, kb) 4 q 3 ?_ rsV_len hk2 rfl
               refine WL.nil ?_
               refine WQ.ret0 (.inr rfl) Try.results67 ?_
               intro w' hp; first | (exfalso; omega) | contradiction | (rw [tk_clr0 hq (by omega)]; exact ⟨o, ho, rfl, hp.cov cov⟩) | (rw [tk_add0 hq (by omega)]; exact ⟨o, ho, rfl, hp.cov cov⟩) | (rw [tk_clr htk hq (by omega)]; have hmm : (S.put (idF l) ⟨s.a, s.t, true⟩).m = S.m.set q (idF l, ⟨s.a, s.t, true⟩, kb) := hk3; refine ⟨some (gb, gc, grs), by rw [hmm, List.length_set]; exact hgc, rfl, ?_⟩; unfold rL gLM; rw [hmm, List.length_set]; exact hp.cov cov) | (rw [tk_add htk hq (by omega)]; have hmm : (S.put (idF l) ⟨l.getD 1 0, nowF l, false⟩).m = S.m ++ [(idF l, ⟨l.getD 1 0, nowF l, false⟩, S.ck)] := kput_new hq; have hml : (S.put (idF l) ⟨l.getD 1 0, nowF l, false⟩).m.length = 0 + S.m.length + 1 := (by rw [hmm]; simp); refine ⟨some (b58, c58, r58), by rw [hml]; exact h58, rfl, ?_⟩; unfold rL; rw [hml, hmm, List.flatMap_append]; exact hp.cov cov)
             · refine on rfl (decide_eq_false g7) ?_
               refine on rfl (decide_eq_false g7) ?_
               refine ov (V_pick_fd rfl g7 rfl) ?_
               refine nq ?_
               refine W.cond_false rfl rfl ?_
               refine W.skip ?_
               refine WQ.ret0 (.inr rfl) Try.results67 ?_
               intro w' hp; first | (exfalso; omega) | contradiction | (rw [tk_clr0 hq (by omega)]; exact ⟨o, ho, rfl, hp.cov cov⟩) | (rw [tk_add0 hq (by omega)]; exact ⟨o, ho, rfl, hp.cov cov⟩) | (rw [tk_clr htk hq (by omega)]; have hmm : (S.put (idF l) ⟨s.a, s.t, true⟩).m = S.m.set q (idF l, ⟨s.a, s.t, true⟩, kb) := hk3; refine ⟨some (gb, gc, grs), by rw [hmm, List.length_set]; exact hgc, rfl, ?_⟩; unfold rL gLM; rw [hmm, List.length_set]; exact hp.cov cov) | (rw [tk_add htk hq (by omega)]; have hmm : (S.put (idF l) ⟨l.getD 1 0, nowF l, false⟩).m = S.m ++ [(idF l, ⟨l.getD 1 0, nowF l, false⟩, S.ck)] := kput_new hq; have hml : (S.put (idF l) ⟨l.getD 1 0, nowF l, false⟩).m.length = 0 + S.m.length + 1 := (by rw [hmm]; simp); refine ⟨some (b58, c58, r58), by rw [hml]; exact h58, rfl, ?_⟩; unfold rL; rw [hml, hmm, List.flatMap_append]; exact hp.cov cov)
         · have hq : S.get (idF l) = none := by cases hx : S.get (idF l) with | none => rfl | some s => exact absurd ⟨s, hx⟩ hq
           have hat : atI S.m (idF l) = -1 := by unfold atI; rw [kidx_none hq]; rfl
           refine W.region ?_
           refine omv ?_
           refine omv ?_
           refine cgP (ι := Unit) (A := fun _ => True) (V := fun _ => .int .i64 (atI S.m (idF l))) (M := fun _ => ((b, .cells [(1, [.pointer (some ⟨j, 0, none⟩)]), (1, [.slice (gA o) S.m.length (gC o)])] 135) :: rL o S : List (Nat × Blk))) _ rfl (fun w hp => (rat23_calls b j o S ho (by omega) (idF l) w (HP.here hp cov)).mono fun e w' ⟨h1, h2⟩ => ⟨(), trivial, h1, h2⟩) (fun _ _ => ?_)
           simp only [List.cons_append, List.nil_append, List.append_nil, List.append_assoc]
           refine WL.back (rL o S) ?_
           simp only [List.cons_append, List.nil_append, List.append_nil, List.append_assoc]
           rw [hat]
           refine oas ?_
           refine nq ?_
           refine W.seq ?_
           refine sr ?_
           refine omv ?_
           refine ov (viO (b := bA) (o := oA) (i := 0) 1 (hx := congrArg (fun a => some (Value.slice a l.length cap)) (hA (by omega)))) ?_
           refine ov (V_loadSrI (b := bA) (o := oA) (n := l.length) 0 (fun w hp => (hA (by omega)) ▸ hb w _ hp) (by kernel_rfl) rfl (by omega) (by omega)) ?_
           refine ov (v2 V_eql) ?_
           refine omv ?_
           refine WL.splitD rfl (fun g8 => ?_) (fun g8 => ?_)
           · refine oy rfl (decide_eq_true g8) ?_
             refine omv ?_
             refine oy rfl (decide_eq_true g8) ?_
             refine ov (v2 V_lss) ?_
             refine ov (V_pick_td rfl g8 rfl) ?_
             refine nq ?_
             refine W.cond_true rfl (by decide) ?_
             refine dr (.q 0 (.q 2 (.q 3 (.q 4 (.q 7 (.q 8 (.q 9 (.q 10 (.q 11 (.q 12 (.q 13 (.l3 1 (.l2 5 (.l2 6 (.l 14 (.l 15 (.q 16 (.q 17 (.l 18 (.done)))))) 14 (.l 6 (.l 15 (.q 16 (.q 17 (.l 18 (.done))))))) 14 (.l 5 (.l 6 (.l 15 (.q 16 (.q 17 (.l 18 (.done)))))))) 5 (.l2 1 (.l2 6 (.l 14 (.l 15 (.q 16 (.q 17 (.l 18 (.done)))))) 14 (.l 6 (.l 15 (.q 16 (.q 17 (.l 18 (.done))))))) 14 (.l 1 (.l 6 (.l 15 (.q 16 (.q 17 (.l 18 (.done)))))))) 14 (.l2 1 (.l 5 (.l 6 (.l 15 (.q 16 (.q 17 (.l 18 (.done))))))) 5 (.l 1 (.l 6 (.l 15 (.q 16 (.q 17 (.l 18 (.done)))))))))))))))))))) [] ?_
             refine dq rfl (V_move rfl) ?_
             refine dq rfl (V_move rfl) ?_
             refine dq rfl vnil ?_
             refine dq rfl (vfa0 1 1) ?_
             refine dq rfl (V_move rfl) ?_
             refine dq rfl (V_move rfl) ?_
             refine dq rfl (viO (b := bA) (o := oA) (i := 1) 1 (hx := congrArg (fun a => some (Value.slice a l.length cap)) (hA (by omega)))) ?_
             refine dq rfl (V_loadSrI (b := bA) (o := oA) (n := l.length) 1 (fun w hp => (hA (by omega)) ▸ hb w _ hp) (by kernel_rfl) rfl (by omega) (by omega)) ?_
             first | refine dq rfl (vcvN .i64) ?_ | refine dq rfl (vcv .i64) ?_
             refine dq rfl (V_move rfl) ?_
             refine dq rfl (V_build (by kernel_rfl) (zi (zs := [(1, [.int .i64 0]), (1, [.int .i64 0]), (1, [.int .i64 0]), (1, [.bool false])])) (.one (k := 0) rfl rfl (by kernel_rfl) rfl (.one (k := 1) rfl rfl (by kernel_rfl) rfl (.one (k := 2) rfl rfl (by kernel_rfl) rfl (.nil _))))) ?_
             refine WD.l3 ?_ ?_ ?_
             · refine dbs0 rfl 140 4 32 (fun b44 => ?_)
               refine WD.l2 ?_ ?_
               · refine dv rfl vld ?_
                 refine WD.l2 ?_ ?_
                 · refine dapM rfl 140 4 32 (fun b49 c49 r49 h49 => ?_) (fun w hp => rlS hp ho)
                   refine WD.l ?_
                   refine dbsM rfl 140 4 32 (fun b57 => ?_)
                   refine WD.l ?_
                   refine dapM rfl 140 4 32 (fun b58 c58 r58 h58 => ?_) (ys := rsV (idF l, ⟨l.getD 1 0, nowF l, false⟩, S.ck)) (fun w hp => (HP.sown hp (b := b57) (by repeat (first | exact List.Mem.head _ | apply List.Mem.tail)) (by simp [rsV, Go.X.one])).mul)
                   refine dq rfl vnil ?_
                   refine dq rfl (vfa0 1 1) ?_
                   refine WD.l ?_
                   refine dst rfl ?_
                   refine WD.done ?_
                   refine WQ.then ?_
                   refine sr ?_
                   refine omv ?_
                   refine ov (viO (b := bA) (o := oA) (i := 0) 1 (hx := congrArg (fun a => some (Value.slice a l.length cap)) (hA (by omega)))) ?_
                   refine ov (V_loadSrI (b := bA) (o := oA) (n := l.length) 0 (fun w hp => (hA (by omega)) ▸ hb w _ hp) (by kernel_rfl) rfl (by omega) (by omega)) ?_
                   refine ov (v2 V_eql) ?_
                   refine omv ?_
                   refine WL.splitD rfl (fun g9 => ?_) (fun g9 => ?_)
                   · refine oy rfl (decide_eq_true g9) ?_
                     refine omv ?_
                     refine oy rfl (decide_eq_true g9) ?_
                     refine ov (v2 V_geq) ?_
                     refine ov (V_pick_td rfl g9 rfl) ?_
                     refine nq ?_
                     refine W.cond_false rfl (by decide) ?_
                     refine W.skip ?_
                     refine WQ.ret0 (.inr rfl) Try.results67 ?_
                     intro w' hp; first | (exfalso; omega) | contradiction | (rw [tk_clr0 hq (by omega)]; exact ⟨o, ho, rfl, hp.cov cov⟩) | (rw [tk_add0 hq (by omega)]; exact ⟨o, ho, rfl, hp.cov cov⟩) | (rw [tk_clr htk hq (by omega)]; have hmm : (S.put (idF l) ⟨s.a, s.t, true⟩).m = S.m.set q (idF l, ⟨s.a, s.t, true⟩, kb) := hk3; refine ⟨some (gb, gc, grs), by rw [hmm, List.length_set]; exact hgc, rfl, ?_⟩; unfold rL gLM; rw [hmm, List.length_set]; exact hp.cov cov) | (rw [tk_add htk hq (by omega)]; have hmm : (S.put (idF l) ⟨l.getD 1 0, nowF l, false⟩).m = S.m ++ [(idF l, ⟨l.getD 1 0, nowF l, false⟩, S.ck)] := kput_new hq; have hml : (S.put (idF l) ⟨l.getD 1 0, nowF l, false⟩).m.length = 0 + S.m.length + 1 := (by rw [hmm]; simp); refine ⟨some (b58, c58, r58), by rw [hml]; exact h58, rfl, ?_⟩; unfold rL; rw [hml, hmm, List.flatMap_append]; exact hp.cov cov)
                   · refine on rfl (decide_eq_false g9) ?_
                     refine on rfl (decide_eq_false g9) ?_
                     refine ov (V_pick_fd rfl g9 rfl) ?_
                     refine nq ?_
                     refine W.cond_false rfl rfl ?_
                     refine W.skip ?_
                     refine WQ.ret0 (.inr rfl) Try.results67 ?_
                     intro w' hp; first | (exfalso; omega) | contradiction | (rw [tk_clr0 hq (by omega)]; exact ⟨o, ho, rfl, hp.cov cov⟩) | (rw [tk_add0 hq (by omega)]; exact ⟨o, ho, rfl, hp.cov cov⟩) | (rw [tk_clr htk hq (by omega)]; have hmm : (S.put (idF l) ⟨s.a, s.t, true⟩).m = S.m.set q (idF l, ⟨s.a, s.t, true⟩, kb) := hk3; refine ⟨some (gb, gc, grs), by rw [hmm, List.length_set]; exact hgc, rfl, ?_⟩; unfold rL gLM; rw [hmm, List.length_set]; exact hp.cov cov) | (rw [tk_add htk hq (by omega)]; have hmm : (S.put (idF l) ⟨l.getD 1 0, nowF l, false⟩).m = S.m ++ [(idF l, ⟨l.getD 1 0, nowF l, false⟩, S.ck)] := kput_new hq; have hml : (S.put (idF l) ⟨l.getD 1 0, nowF l, false⟩).m.length = 0 + S.m.length + 1 := (by rw [hmm]; simp); refine ⟨some (b58, c58, r58), by rw [hml]; exact h58, rfl, ?_⟩; unfold rL; rw [hml, hmm, List.flatMap_append]; exact hp.cov cov)
                 · refine dbsM rfl 140 4 32 (fun b57 => ?_)
                   refine WD.l ?_
                   refine dapM rfl 140 4 32 (fun b49 c49 r49 h49 => ?_) (fun w hp => rlS hp ho)
                   refine WD.l ?_
                   refine dapM rfl 140 4 32 (fun b58 c58 r58 h58 => ?_) (ys := rsV (idF l, ⟨l.getD 1 0, nowF l, false⟩, S.ck)) (fun w hp => (HP.sown hp (b := b57) (by repeat (first | exact List.Mem.head _ | apply List.Mem.tail)) (by simp [rsV, Go.X.one])).mul)
                   refine dq rfl vnil ?_
                   refine dq rfl (vfa0 1 1) ?_
                   refine WD.l ?_
                   refine dst rfl ?_
                   refine WD.done ?_
                   refine WQ.then ?_
                   refine sr ?_
                   refine omv ?_
                   refine ov (viO (b := bA) (o := oA) (i := 0) 1 (hx := congrArg (fun a => some (Value.slice a l.length cap)) (hA (by omega)))) ?_
                   refine ov (V_loadSrI (b := bA) (o := oA) (n := l.length) 0 (fun w hp => (hA (by omega)) ▸ hb w _ hp) (by kernel_rfl) rfl (by omega) (by omega)) ?_
                   refine ov (v2 V_eql) ?_
                   refine omv ?_
                   refine WL.splitD rfl (fun g10 => ?_) (fun g10 => ?_)
                   · refine oy rfl (decide_eq_true g10) ?_
                     refine omv ?_
                     refine oy rfl (decide_eq_true g10) ?_
                     refine ov (v2 V_geq) ?_
                     refine ov (V_pick_td rfl g10 rfl) ?_
                     refine nq ?_
                     refine W.cond_false rfl (by decide) ?_
                     refine W.skip ?_
                     refine WQ.ret0 (.inr rfl) Try.results67 ?_
                     intro w' hp; first | (exfalso; omega) | contradiction | (rw [tk_clr0 hq (by omega)]; exact ⟨o, ho, rfl, hp.cov cov⟩) | (rw [tk_add0 hq (by omega)]; exact ⟨o, ho, rfl, hp.cov cov⟩) | (rw [tk_clr htk hq (by omega)]; have hmm : (S.put (idF l) ⟨s.a, s.t, true⟩).m = S.m.set q (idF l, ⟨s.a, s.t, true⟩, kb) := hk3; refine ⟨some (gb, gc, grs), by rw [hmm, List.length_set]; exact hgc, rfl, ?_⟩; unfold rL gLM; rw [hmm, List.length_set]; exact hp.cov cov) | (rw [tk_add htk hq (by omega)]; have hmm : (S.put (idF l) ⟨l.getD 1 0, nowF l, false⟩).m = S.m ++ [(idF l, ⟨l.getD 1 0, nowF l, false⟩, S.ck)] := kput_new hq; have hml : (S.put (idF l) ⟨l.getD 1 0, nowF l, false⟩).m.length = 0 + S.m.length + 1 := (by rw [hmm]; simp); refine ⟨some (b58, c58, r58), by rw [hml]; exact h58, rfl, ?_⟩; unfold rL; rw [hml, hmm, List.flatMap_append]; exact hp.cov cov)
                   · refine on rfl (decide_eq_false g10) ?_
                     refine on rfl (decide_eq_false g10) ?_
                     refine ov (V_pick_fd rfl g10 rfl) ?_
                     refine nq ?_
                     refine W.cond_false rfl rfl ?_
                     refine W.skip ?_
                     refine WQ.ret0 (.inr rfl) Try.results67 ?_
                     intro w' hp; first | (exfalso; omega) | contradiction | (rw [tk_clr0 hq (by omega)]; exact ⟨o, ho, rfl, hp.cov cov⟩) | (rw [tk_add0 hq (by omega)]; exact ⟨o, ho, rfl, hp.cov cov⟩) | (rw [tk_clr htk hq (by omega)]; have hmm : (S.put (idF l) ⟨s.a, s.t, true⟩).m = S.m.set q (idF l, ⟨s.a, s.t, true⟩, kb) := hk3; refine ⟨some (gb, gc, grs), by rw [hmm, List.length_set]; exact hgc, rfl, ?_⟩; unfold rL gLM; rw [hmm, List.length_set]; exact hp.cov cov) | (rw [tk_add htk hq (by omega)]; have hmm : (S.put (idF l) ⟨l.getD 1 0, nowF l, false⟩).m = S.m ++ [(idF l, ⟨l.getD 1 0, nowF l, false⟩, S.ck)] := kput_new hq; have hml : (S.put (idF l) ⟨l.getD 1 0, nowF l, false⟩).m.length = 0 + S.m.length + 1 := (by rw [hmm]; simp); refine ⟨some (b58, c58, r58), by rw [hml]; exact h58, rfl, ?_⟩; unfold rL; rw [hml, hmm, List.flatMap_append]; exact hp.cov cov)
               · refine dbsM rfl 140 4 32 (fun b57 => ?_)
                 refine WD.l ?_
                 refine dv rfl vld ?_
                 refine WD.l ?_
                 refine dapM rfl 140 4 32 (fun b49 c49 r49 h49 => ?_) (fun w hp => rlS hp ho)
                 refine WD.l ?_
                 refine dapM rfl 140 4 32 (fun b58 c58 r58 h58 => ?_) (ys := rsV (idF l, ⟨l.getD 1 0, nowF l, false⟩, S.ck)) (fun w hp => (HP.sown hp (b := b57) (by repeat (first | exact List.Mem.head _ | apply List.Mem.tail)) (by simp [rsV, Go.X.one])).mul)
                 refine dq rfl vnil ?_
                 refine dq rfl (vfa0 1 1) ?_
                 refine WD.l ?_
                 refine dst rfl ?_
                 refine WD.done ?_
                 refine WQ.then ?_
                 refine sr ?_
                 refine omv ?_
                 refine ov (viO (b := bA) (o := oA) (i := 0) 1 (hx := congrArg (fun a => some (Value.slice a l.length cap)) (hA (by omega)))) ?_
                 refine ov (V_loadSrI (b := bA) (o := oA) (n := l.length) 0 (fun w hp => (hA (by omega)) ▸ hb w _ hp) (by kernel_rfl) rfl (by omega) (by omega)) ?_
                 refine ov (v2 V_eql) ?_
                 refine omv ?_
                 refine WL.splitD rfl (fun g11 => ?_) (fun g11 => ?_)
                 · refine oy rfl (decide_eq_true g11) ?_
                   refine omv ?_
                   refine oy rfl (decide_eq_true g11) ?_
                   refine ov (v2 V_geq) ?_
                   refine ov (V_pick_td rfl g11 rfl) ?_
                   refine nq ?_
                   refine W.cond_false rfl (by decide) ?_
                   refine W.skip ?_
                   refine WQ.ret0 (.inr rfl) Try.results67 ?_
                   intro w' hp; first | (exfalso; omega) | contradiction | (rw [tk_clr0 hq (by omega)]; exact ⟨o, ho, rfl, hp.cov cov⟩) | (rw [tk_add0 hq (by omega)]; exact ⟨o, ho, rfl, hp.cov cov⟩) | (rw [tk_clr htk hq (by omega)]; have hmm : (S.put (idF l) ⟨s.a, s.t, true⟩).m = S.m.set q (idF l, ⟨s.a, s.t, true⟩, kb) := hk3; refine ⟨some (gb, gc, grs), by rw [hmm, List.length_set]; exact hgc, rfl, ?_⟩; unfold rL gLM; rw [hmm, List.length_set]; exact hp.cov cov) | (rw [tk_add htk hq (by omega)]; have hmm : (S.put (idF l) ⟨l.getD 1 0, nowF l, false⟩).m = S.m ++ [(idF l, ⟨l.getD 1 0, nowF l, false⟩, S.ck)] := kput_new hq; have hml : (S.put (idF l) ⟨l.getD 1 0, nowF l, false⟩).m.length = 0 + S.m.length + 1 := (by rw [hmm]; simp); refine ⟨some (b58, c58, r58), by rw [hml]; exact h58, rfl, ?_⟩; unfold rL; rw [hml, hmm, List.flatMap_append]; exact hp.cov cov)
                 · refine on rfl (decide_eq_false g11) ?_
                   refine on rfl (decide_eq_false g11) ?_
                   refine ov (V_pick_fd rfl g11 rfl) ?_
                   refine nq ?_
                   refine W.cond_false rfl rfl ?_
                   refine W.skip ?_
                   refine WQ.ret0 (.inr rfl) Try.results67 ?_
                   intro w' hp; first | (exfalso; omega) | contradiction | (rw [tk_clr0 hq (by omega)]; exact ⟨o, ho, rfl, hp.cov cov⟩) | (rw [tk_add0 hq (by omega)]; exact ⟨o, ho, rfl, hp.cov cov⟩) | (rw [tk_clr htk hq (by omega)]; have hmm : (S.put (idF l) ⟨s.a, s.t, true⟩).m = S.m.set q (idF l, ⟨s.a, s.t, true⟩, kb) := hk3; refine ⟨some (gb, gc, grs), by rw [hmm, List.length_set]; exact hgc, rfl, ?_⟩; unfold rL gLM; rw [hmm, List.length_set]; exact hp.cov cov) | (rw [tk_add htk hq (by omega)]; have hmm : (S.put (idF l) ⟨l.getD 1 0, nowF l, false⟩).m = S.m ++ [(idF l, ⟨l.getD 1 0, nowF l, false⟩, S.ck)] := kput_new hq; have hml : (S.put (idF l) ⟨l.getD 1 0, nowF l, false⟩).m.length = 0 + S.m.length + 1 := (by rw [hmm]; simp); refine ⟨some (b58, c58, r58), by rw [hml]; exact h58, rfl, ?_⟩; unfold rL; rw [hml, hmm, List.flatMap_append]; exact hp.cov cov)
             · refine dv rfl vld ?_
               refine WD.l2 ?_ ?_
               · refine dbs0 rfl 140 4 32 (fun b44 => ?_)
                 refine WD.l2 ?_ ?_
                 · refine dapM rfl 140 4 32 (fun b49 c49 r49 h49 => ?_) (fun w hp => rlS hp ho)
                   refine WD.l ?_
                   refine dbsM rfl 140 4 32 (fun b57 => ?_)
                   refine WD.l ?_
                   refine dapM rfl 140 4 32 (fun b58 c58 r58 h58 => ?_) (ys := rsV (idF l, ⟨l.getD 1 0, nowF l, false⟩, S.ck)) (fun w hp => (HP.sown hp (b := b57) (by repeat (first | exact List.Mem.head _ | apply List.Mem.tail)) (by simp [rsV, Go.X.one])).mul)
                   refine dq rfl vnil ?_
                   refine dq rfl (vfa0 1 1) ?_
                   refine WD.l ?_
                   refine dst rfl ?_
                   refine WD.done ?_
                   refine WQ.then ?_
                   refine sr ?_
                   refine omv ?_
                   refine ov (viO (b := bA) (o := oA) (i := 0) 1 (hx := congrArg (fun a => some (Value.slice a l.length cap)) (hA (by omega)))) ?_
                   refine ov (V_loadSrI (b := bA) (o := oA) (n := l.length) 0 (fun w hp => (hA (by omega)) ▸ hb w _ hp) (by kernel_rfl) rfl (by omega) (by omega)) ?_
                   refine ov (v2 V_eql) ?_
                   refine omv ?_
                   refine WL.splitD rfl (fun g12 => ?_) (fun g12 => ?_)
                   · refine oy rfl (decide_eq_true g12) ?_
                     refine omv ?_
                     refine oy rfl (decide_eq_true g12) ?_
                     refine ov (v2 V_geq) ?_
                     refine ov (V_pick_td rfl g12 rfl) ?_
                     refine nq ?_
                     refine W.cond_false rfl (by decide) ?_
                     refine W.skip ?_
                     refine WQ.ret0 (.inr rfl) Try.results67 ?_
                     intro w' hp; first | (exfalso; omega) | contradiction | (rw [tk_clr0 hq (by omega)]; exact ⟨o, ho, rfl, hp.cov cov⟩) | (rw [tk_add0 hq (by omega)]; exact ⟨o, ho, rfl, hp.cov cov⟩) | (rw [tk_clr htk hq (by omega)]; have hmm : (S.put (idF l) ⟨s.a, s.t, true⟩).m = S.m.set q (idF l, ⟨s.a, s.t, true⟩, kb) := hk3; refine ⟨some (gb, gc, grs), by rw [hmm, List.length_set]; exact hgc, rfl, ?_⟩; unfold rL gLM; rw [hmm, List.length_set]; exact hp.cov cov) | (rw [tk_add htk hq (by omega)]; have hmm : (S.put (idF l) ⟨l.getD 1 0, nowF l, false⟩).m = S.m ++ [(idF l, ⟨l.getD 1 0, nowF l, false⟩, S.ck)] := kput_new hq; have hml : (S.put (idF l) ⟨l.getD 1 0, nowF l, false⟩).m.length = 0 + S.m.length + 1 := (by rw [hmm]; simp); refine ⟨some (b58, c58, r58), by rw [hml]; exact h58, rfl, ?_⟩; unfold rL; rw [hml, hmm, List.flatMap_append]; exact hp.cov cov)
                   · refine on rfl (decide_eq_false g12) ?_
                     refine on rfl (decide_eq_false g12) ?_
                     refine ov (V_pick_fd rfl g12 rfl) ?_
                     refine nq ?_
                     refine W.cond_false rfl rfl ?_
                     refine W.skip ?_
                     refine WQ.ret0 (.inr rfl) Try.results67 ?_
                     intro w' hp; first | (exfalso; omega) | contradiction | (rw [tk_clr0 hq (by omega)]; exact ⟨o, ho, rfl, hp.cov cov⟩) | (rw [tk_add0 hq (by omega)]; exact ⟨o, ho, rfl, hp.cov cov⟩) | (rw [tk_clr htk hq (by omega)]; have hmm : (S.put (idF l) ⟨s.a, s.t, true⟩).m = S.m.set q (idF l, ⟨s.a, s.t, true⟩, kb) := hk3; refine ⟨some (gb, gc, grs), by rw [hmm, List.length_set]; exact hgc, rfl, ?_⟩; unfold rL gLM; rw [hmm, List.length_set]; exact hp.cov cov) | (rw [tk_add htk hq (by omega)]; have hmm : (S.put (idF l) ⟨l.getD 1 0, nowF l, false⟩).m = S.m ++ [(idF l, ⟨l.getD 1 0, nowF l, false⟩, S.ck)] := kput_new hq; have hml : (S.put (idF l) ⟨l.getD 1 0, nowF l, false⟩).m.length = 0 + S.m.length + 1 := (by rw [hmm]; simp); refine ⟨some (b58, c58, r58), by rw [hml]; exact h58, rfl, ?_⟩; unfold rL; rw [hml, hmm, List.flatMap_append]; exact hp.cov cov)
                 · refine dbsM rfl 140 4 32 (fun b57 => ?_)
                   refine WD.l ?_
                   refine dapM rfl 140 4 32 (fun b49 c49 r49 h49 => ?_) (fun w hp => rlS hp ho)
                   refine WD.l ?_
                   refine dapM rfl 140 4 32 (fun b58 c58 r58 h58 => ?_) (ys := rsV (idF l, ⟨l.getD 1 0, nowF l, false⟩, S.ck)) (fun w hp => (HP.sown hp (b := b57) (by repeat (first | exact List.Mem.head _ | apply List.Mem.tail)) (by simp [rsV, Go.X.one])).mul)
                   refine dq rfl vnil ?_
                   refine dq rfl (vfa0 1 1) ?_
                   refine WD.l ?_
                   refine dst rfl ?_
                   refine WD.done ?_
                   refine WQ.then ?_
                   refine sr ?_
                   refine omv ?_
                   refine ov (viO (b := bA) (o := oA) (i := 0) 1 (hx := congrArg (fun a => some (Value.slice a l.length cap)) (hA (by omega)))) ?_
                   refine ov (V_loadSrI (b := bA) (o := oA) (n := l.length) 0 (fun w hp => (hA (by omega)) ▸ hb w _ hp) (by kernel_rfl) rfl (by omega) (by omega)) ?_
                   refine ov (v2 V_eql) ?_
                   refine omv ?_
                   refine WL.splitD rfl (fun g13 => ?_) (fun g13 => ?_)
                   · refine oy rfl (decide_eq_true g13) ?_
                     refine omv ?_
                     refine oy rfl (decide_eq_true g13) ?_
                     refine ov (v2 V_geq) ?_
                     refine ov (V_pick_td rfl g13 rfl) ?_
                     refine nq ?_
                     refine W.cond_false rfl (by decide) ?_
                     refine W.skip ?_
                     refine WQ.ret0 (.inr rfl) Try.results67 ?_
                     intro w' hp; first | (exfalso; omega) | contradiction | (rw [tk_clr0 hq (by omega)]; exact ⟨o, ho, rfl, hp.cov cov⟩) | (rw [tk_add0 hq (by omega)]; exact ⟨o, ho, rfl, hp.cov cov⟩) | (rw [tk_clr htk hq (by omega)]; have hmm : (S.put (idF l) ⟨s.a, s.t, true⟩).m = S.m.set q (idF l, ⟨s.a, s.t, true⟩, kb) := hk3; refine ⟨some (gb, gc, grs), by rw [hmm, List.length_set]; exact hgc, rfl, ?_⟩; unfold rL gLM; rw [hmm, List.length_set]; exact hp.cov cov) | (rw [tk_add htk hq (by omega)]; have hmm : (S.put (idF l) ⟨l.getD 1 0, nowF l, false⟩).m = S.m ++ [(idF l, ⟨l.getD 1 0, nowF l, false⟩, S.ck)] := kput_new hq; have hml : (S.put (idF l) ⟨l.getD 1 0, nowF l, false⟩).m.length = 0 + S.m.length + 1 := (by rw [hmm]; simp); refine ⟨some (b58, c58, r58), by rw [hml]; exact h58, rfl, ?_⟩; unfold rL; rw [hml, hmm, List.flatMap_append]; exact hp.cov cov)
                   · refine on rfl (decide_eq_false g13) ?_
                     refine on rfl (decide_eq_false g13) ?_
                     refine ov (V_pick_fd rfl g13 rfl) ?_
                     refine nq ?_
                     refine W.cond_false rfl rfl ?_
                     refine W.skip ?_
                     refine WQ.ret0 (.inr rfl) Try.results67 ?_
                     intro w' hp; first | (exfalso; omega) | contradiction | (rw [tk_clr0 hq (by omega)]; exact ⟨o, ho, rfl, hp.cov cov⟩) | (rw [tk_add0 hq (by omega)]; exact ⟨o, ho, rfl, hp.cov cov⟩) | (rw [tk_clr htk hq (by omega)]; have hmm : (S.put (idF l) ⟨s.a, s.t, true⟩).m = S.m.set q (idF l, ⟨s.a, s.t, true⟩, kb) := hk3; refine ⟨some (gb, gc, grs), by rw [hmm, List.length_set]; exact hgc, rfl, ?_⟩; unfold rL gLM; rw [hmm, List.length_set]; exact hp.cov cov) | (rw [tk_add htk hq (by omega)]; have hmm : (S.put (idF l) ⟨l.getD 1 0, nowF l, false⟩).m = S.m ++ [(idF l, ⟨l.getD 1 0, nowF l, false⟩, S.ck)] := kput_new hq; have hml : (S.put (idF l) ⟨l.getD 1 0, nowF l, false⟩).m.length = 0 + S.m.length + 1 := (by rw [hmm]; simp); refine ⟨some (b58, c58, r58), by rw [hml]; exact h58, rfl, ?_⟩; unfold rL; rw [hml, hmm, List.flatMap_append]; exact hp.cov cov)
               · refine dbsM rfl 140 4 32 (fun b57 => ?_)
                 refine WD.l ?_
                 refine dbs0 rfl 140 4 32 (fun b44 => ?_)
                 refine WD.l ?_
                 refine dapM rfl 140 4 32 (fun b49 c49 r49 h49 => ?_) (fun w hp => rlS hp ho)
                 refine WD.l ?_
                 refine dapM rfl 140 4 32 (fun b58 c58 r58 h58 => ?_) (ys := rsV (idF l, ⟨l.getD 1 0, nowF l, false⟩, S.ck)) (fun w hp => (HP.sown hp (b := b57) (by repeat (first | exact List.Mem.head _ | apply List.Mem.tail)) (by simp [rsV, Go.X.one])).mul)
                 refine dq rfl vnil ?_
                 refine dq rfl (vfa0 1 1) ?_
                 refine WD.l ?_
                 refine dst rfl ?_
                 refine WD.done ?_
                 refine WQ.then ?_
                 refine sr ?_
                 refine omv ?_
                 refine ov (viO (b := bA) (o := oA) (i := 0) 1 (hx := congrArg (fun a => some (Value.slice a l.length cap)) (hA (by omega)))) ?_
                 refine ov (V_loadSrI (b := bA) (o := oA) (n := l.length) 0 (fun w hp => (hA (by omega)) ▸ hb w _ hp) (by kernel_rfl) rfl (by omega) (by omega)) ?_
                 refine ov (v2 V_eql) ?_
                 refine omv ?_
                 refine WL.splitD rfl (fun g14 => ?_) (fun g14 => ?_)
                 · refine oy rfl (decide_eq_true g14) ?_
                   refine omv ?_
                   refine oy rfl (decide_eq_true g14) ?_
                   refine ov (v2 V_geq) ?_
                   refine ov (V_pick_td rfl g14 rfl) ?_
                   refine nq ?_
                   refine W.cond_false rfl (by decide) ?_
                   refine W.skip ?_
                   refine WQ.ret0 (.inr rfl) Try.results67 ?_
                   intro w' hp; first | (exfalso; omega) | contradiction | (rw [tk_clr0 hq (by omega)]; exact ⟨o, ho, rfl, hp.cov cov⟩) | (rw [tk_add0 hq (by omega)]; exact ⟨o, ho, rfl, hp.cov cov⟩) | (rw [tk_clr htk hq (by omega)]; have hmm : (S.put (idF l) ⟨s.a, s.t, true⟩).m = S.m.set q (idF l, ⟨s.a, s.t, true⟩, kb) := hk3; refine ⟨some (gb, gc, grs), by rw [hmm, List.length_set]; exact hgc, rfl, ?_⟩; unfold rL gLM; rw [hmm, List.length_set]; exact hp.cov cov) | (rw [tk_add htk hq (by omega)]; have hmm : (S.put (idF l) ⟨l.getD 1 0, nowF l, false⟩).m = S.m ++ [(idF l, ⟨l.getD 1 0, nowF l, false⟩, S.ck)] := kput_new hq; have hml : (S.put (idF l) ⟨l.getD 1 0, nowF l, false⟩).m.length = 0 + S.m.length + 1 := (by rw [hmm]; simp); refine ⟨some (b58, c58, r58), by rw [hml]; exact h58, rfl, ?_⟩; unfold rL; rw [hml, hmm, List.flatMap_append]; exact hp.cov cov)
                 · refine on rfl (decide_eq_false g14) ?_
                   refine on rfl (decide_eq_false g14) ?_
                   refine ov (V_pick_fd rfl g14 rfl) ?_
                   refine nq ?_
                   refine W.cond_false rfl rfl ?_
                   refine W.skip ?_
                   refine WQ.ret0 (.inr rfl) Try.results67 ?_
                   intro w' hp; first | (exfalso; omega) | contradiction | (rw [tk_clr0 hq (by omega)]; exact ⟨o, ho, rfl, hp.cov cov⟩) | (rw [tk_add0 hq (by omega)]; exact ⟨o, ho, rfl, hp.cov cov⟩) | (rw [tk_clr htk hq (by omega)]; have hmm : (S.put (idF l) ⟨s.a, s.t, true⟩).m = S.m.set q (idF l, ⟨s.a, s.t, true⟩, kb) := hk3; refine ⟨some (gb, gc, grs), by rw [hmm, List.length_set]; exact hgc, rfl, ?_⟩; unfold rL gLM; rw [hmm, List.length_set]; exact hp.cov cov) | (rw [tk_add htk hq (by omega)]; have hmm : (S.put (idF l) ⟨l.getD 1 0, nowF l, false⟩).m = S.m ++ [(idF l, ⟨l.getD 1 0, nowF l, false⟩, S.ck)] := kput_new hq; have hml : (S.put (idF l) ⟨l.getD 1 0, nowF l, false⟩).m.length = 0 + S.m.length + 1 := (by rw [hmm]; simp); refine ⟨some (b58, c58, r58), by rw [hml]; exact h58, rfl, ?_⟩; unfold rL; rw [hml, hmm, List.flatMap_append]; exact hp.cov cov)
             · refine dbsM rfl 140 4 32 (fun b57 => ?_)
               refine WD.l2 ?_ ?_
               · refine dbs0 rfl 140 4 32 (fun b44 => ?_)
                 refine WD.l ?_
                 refine dv rfl vld ?_
                 refine WD.l ?_
                 refine dapM rfl 140 4 32 (fun b49 c49 r49 h49 => ?_) (fun w hp => rlS hp ho)
                 refine WD.l ?_
                 refine dapM rfl 140 4 32 (fun b58 c58 r58 h58 => ?_) (ys := rsV (idF l, ⟨l.getD 1 0, nowF l, false⟩, S.ck)) (fun w hp => (HP.sown hp (b := b57) (by repeat (first | exact List.Mem.head _ | apply List.Mem.tail)) (by simp [rsV, Go.X.one])).mul)
                 refine dq rfl vnil ?_
                 refine dq rfl (vfa0 1 1) ?_
                 refine WD.l ?_
                 refine dst rfl ?_
                 refine WD.done ?_
                 refine WQ.then ?_
                 refine sr ?_
                 refine omv ?_
                 refine ov (viO (b := bA) (o := oA) (i := 0) 1 (hx := congrArg (fun a => some (Value.slice a l.length cap)) (hA (by omega)))) ?_
                 refine ov (V_loadSrI (b := bA) (o := oA) (n := l.length) 0 (fun w hp => (hA (by omega)) ▸ hb w _ hp) (by kernel_rfl) rfl (by omega) (by omega)) ?_
                 refine ov (v2 V_eql) ?_
                 refine omv ?_
                 refine WL.splitD rfl (fun g15 => ?_) (fun g15 => ?_)
                 · refine oy rfl (decide_eq_true g15) ?_
                   refine omv ?_
                   refine oy rfl (decide_eq_true g15) ?_
                   refine ov (v2 V_geq) ?_
                   refine ov (V_pick_td rfl g15 rfl) ?_
                   refine nq ?_
                   refine W.cond_false rfl (by decide) ?_
                   refine W.skip ?_
                   refine WQ.ret0 (.inr rfl) Try.results67 ?_
                   intro w' hp; first | (exfalso; omega) | contradiction | (rw [tk_clr0 hq (by omega)]; exact ⟨o, ho, rfl, hp.cov cov⟩) | (rw [tk_add0 hq (by omega)]; exact ⟨o, ho, rfl, hp.cov cov⟩) | (rw [tk_clr htk hq (by omega)]; have hmm : (S.put (idF l) ⟨s.a, s.t, true⟩).m = S.m.set q (idF l, ⟨s.a, s.t, true⟩, kb) := hk3; refine ⟨some (gb, gc, grs), by rw [hmm, List.length_set]; exact hgc, rfl, ?_⟩; unfold rL gLM; rw [hmm, List.length_set]; exact hp.cov cov) | (rw [tk_add htk hq (by omega)]; have hmm : (S.put (idF l) ⟨l.getD 1 0, nowF l, false⟩).m = S.m ++ [(idF l, ⟨l.getD 1 0, nowF l, false⟩, S.ck)] := kput_new hq; have hml : (S.put (idF l) ⟨l.getD 1 0, nowF l, false⟩).m.length = 0 + S.m.length + 1 := (by rw [hmm]; simp); refine ⟨some (b58, c58, r58), by rw [hml]; exact h58, rfl, ?_⟩; unfold rL; rw [hml, hmm, List.flatMap_append]; exact hp.cov cov)
                 · refine on rfl (decide_eq_false g15) ?_
                   refine on rfl (decide_eq_false g15) ?_
                   refine ov (V_pick_fd rfl g15 rfl) ?_
                   refine nq ?_
                   refine W.cond_false rfl rfl ?_
                   refine W.skip ?_
                   refine WQ.ret0 (.inr rfl) Try.results67 ?_
                   intro w' hp; first | (exfalso; omega) | contradiction | (rw [tk_clr0 hq (by omega)]; exact ⟨o, ho, rfl, hp.cov cov⟩) | (rw [tk_add0 hq (by omega)]; exact ⟨o, ho, rfl, hp.cov cov⟩) | (rw [tk_clr htk hq (by omega)]; have hmm : (S.put (idF l) ⟨s.a, s.t, true⟩).m = S.m.set q (idF l, ⟨s.a, s.t, true⟩, kb) := hk3; refine ⟨some (gb, gc, grs), by rw [hmm, List.length_set]; exact hgc, rfl, ?_⟩; unfold rL gLM; rw [hmm, List.length_set]; exact hp.cov cov) | (rw [tk_add htk hq (by omega)]; have hmm : (S.put (idF l) ⟨l.getD 1 0, nowF l, false⟩).m = S.m ++ [(idF l, ⟨l.getD 1 0, nowF l, false⟩, S.ck)] := kput_new hq; have hml : (S.put (idF l) ⟨l.getD 1 0, nowF l, false⟩).m.length = 0 + S.m.length + 1 := (by rw [hmm]; simp); refine ⟨some (b58, c58, r58), by rw [hml]; exact h58, rfl, ?_⟩; unfold rL; rw [hml, hmm, List.flatMap_append]; exact hp.cov cov)
               · refine dv rfl vld ?_
                 refine WD.l ?_
                 refine dbs0 rfl 140 4 32 (fun b44 => ?_)
                 refine WD.l ?_
                 refine dapM rfl 140 4 32 (fun b49 c49 r49 h49 => ?_) (fun w hp => rlS hp ho)
                 refine WD.l ?_
                 refine dapM rfl 140 4 32 (fun b58 c58 r58 h58 => ?_) (ys := rsV (idF l, ⟨l.getD 1 0, nowF l, false⟩, S.ck)) (fun w hp => (HP.sown hp (b := b57) (by repeat (first | exact List.Mem.head _ | apply List.Mem.tail)) (by simp [rsV, Go.X.one])).mul)
                 refine dq rfl vnil ?_
                 refine dq rfl (vfa0 1 1) ?_
                 refine WD.l ?_
                 refine dst rfl ?_
                 refine WD.done ?_
                 refine WQ.then ?_
                 refine sr ?_
                 refine omv ?_
                 refine ov (viO (b := bA) (o := oA) (i := 0) 1 (hx := congrArg (fun a => some (Value.slice a l.length cap)) (hA (by omega)))) ?_
                 refine ov (V_loadSrI (b := bA) (o := oA) (n := l.length) 0 (fun w hp => (hA (by omega)) ▸ hb w _ hp) (by kernel_rfl) rfl (by omega) (by omega)) ?_
                 refine ov (v2 V_eql) ?_
                 refine omv ?_
                 refine WL.splitD rfl (fun g16 => ?_) (fun g16 => ?_)
                 · refine oy rfl (decide_eq_true g16) ?_
                   refine omv ?_
                   refine oy rfl (decide_eq_true g16) ?_
                   refine ov (v2 V_geq) ?_
                   refine ov (V_pick_td rfl g16 rfl) ?_
                   refine nq ?_
                   refine W.cond_false rfl (by decide) ?_
                   refine W.skip ?_
                   refine WQ.ret0 (.inr rfl) Try.results67 ?_
                   intro w' hp; first | (exfalso; omega) | contradiction | (rw [tk_clr0 hq (by omega)]; exact ⟨o, ho, rfl, hp.cov cov⟩) | (rw [tk_add0 hq (by omega)]; exact ⟨o, ho, rfl, hp.cov cov⟩) | (rw [tk_clr htk hq (by omega)]; have hmm : (S.put (idF l) ⟨s.a, s.t, true⟩).m = S.m.set q (idF l, ⟨s.a, s.t, true⟩, kb) := hk3; refine ⟨some (gb, gc, grs), by rw [hmm, List.length_set]; exact hgc, rfl, ?_⟩; unfold rL gLM; rw [hmm, List.length_set]; exact hp.cov cov) | (rw [tk_add htk hq (by omega)]; have hmm : (S.put (idF l) ⟨l.getD 1 0, nowF l, false⟩).m = S.m ++ [(idF l, ⟨l.getD 1 0, nowF l, false⟩, S.ck)] := kput_new hq; have hml : (S.put (idF l) ⟨l.getD 1 0, nowF l, false⟩).m.length = 0 + S.m.length + 1 := (by rw [hmm]; simp); refine ⟨some (b58, c58, r58), by rw [hml]; exact h58, rfl, ?_⟩; unfold rL; rw [hml, hmm, List.flatMap_append]; exact hp.cov cov)
                 · refine on rfl (decide_eq_false g16) ?_
                   refine on rfl (decide_eq_false g16) ?_
                   refine ov (V_pick_fd rfl g16 rfl) ?_
                   refine nq ?_
                   refine W.cond_false rfl rfl ?_
                   refine W.skip ?_
                   refine WQ.ret0 (.inr rfl) Try.results67 ?_
                   intro w' hp; first | (exfalso; omega) | contradiction | (rw [tk_clr0 hq (by omega)]; exact ⟨o, ho, rfl, hp.cov cov⟩) | (rw [tk_add0 hq (by omega)]; exact ⟨o, ho, rfl, hp.cov cov⟩) | (rw [tk_clr htk hq (by omega)]; have hmm : (S.put (idF l) ⟨s.a, s.t, true⟩).m = S.m.set q (idF l, ⟨s.a, s.t, true⟩, kb) := hk3; refine ⟨some (gb, gc, grs), by rw [hmm, List.length_set]; exact hgc, rfl, ?_⟩; unfold rL gLM; rw [hmm, List.length_set]; exact hp.cov cov) | (rw [tk_add htk hq (by omega)]; have hmm : (S.put (idF l) ⟨l.getD 1 0, nowF l, false⟩).m = S.m ++ [(idF l, ⟨l.getD 1 0, nowF l, false⟩, S.ck)] := kput_new hq; have hml : (S.put (idF l) ⟨l.getD 1 0, nowF l, false⟩).m.length = 0 + S.m.length + 1 := (by rw [hmm]; simp); refine ⟨some (b58, c58, r58), by rw [hml]; exact h58, rfl, ?_⟩; unfold rL; rw [hml, hmm, List.flatMap_append]; exact hp.cov cov)
           · refine on rfl (decide_eq_false g8) ?_
             refine on rfl (decide_eq_false g8) ?_
             refine ov (V_pick_fd rfl g8 rfl) ?_
             refine nq ?_
             refine W.cond_false rfl rfl ?_
             refine W.skip ?_
             refine WQ.then ?_
             refine sr ?_
             refine omv ?_
             refine ov (viO (b := bA) (o := oA) (i := 0) 1 (hx := congrArg (fun a => some (Value.slice a l.length cap)) (hA (by omega)))) ?_
             refine ov (V_loadSrI (b := bA) (o := oA) (n := l.length) 0 (fun w hp => (hA (by omega)) ▸ hb w _ hp) (by kernel_rfl) rfl (by omega) (by omega)) ?_
             refine ov (v2 V_eql) ?_
             refine omv ?_
             refine WL.splitD rfl (fun g17 => ?_) (fun g17 => ?_)
             · refine oy rfl (decide_eq_true g17) ?_
               refine omv ?_
               refine oy rfl (decide_eq_true g17) ?_
               refine ov (v2 V_geq) ?_
               refine ov (V_pick_td rfl g17 rfl) ?_
               refine nq ?_
               refine W.cond_false rfl (by decide) ?_
               refine W.skip ?_
               refine WQ.ret0 (.inr rfl) Try.results67 ?_
               intro w' hp; first | (exfalso; omega) | contradiction | (rw [tk_clr0 hq (by omega)]; exact ⟨o, ho, rfl, hp.cov cov⟩) | (rw [tk_add0 hq (by omega)]; exact ⟨o, ho, rfl, hp.cov cov⟩) | (rw [tk_clr htk hq (by omega)]; have hmm : (S.put (idF l) ⟨s.a, s.t, true⟩).m = S.m.set q (idF l, ⟨s.a, s.t, true⟩, kb) := hk3; refine ⟨some (gb, gc, grs), by rw [hmm, List.length_set]; exact hgc, rfl, ?_⟩; unfold rL gLM; rw [hmm, List.length_set]; exact hp.cov cov) | (rw [tk_add htk hq (by omega)]; have hmm : (S.put (idF l) ⟨l.getD 1 0, nowF l, false⟩).m = S.m ++ [(idF l, ⟨l.getD 1 0, nowF l, false⟩, S.ck)] := kput_new hq; have hml : (S.put (idF l) ⟨l.getD 1 0, nowF l, false⟩).m.length = 0 + S.m.length + 1 := (by rw [hmm]; simp); refine ⟨some (b58, c58, r58), by rw [hml]; exact h58, rfl, ?_⟩; unfold rL; rw [hml, hmm, List.flatMap_append]; exact hp.cov cov)
             · refine on rfl (decide_eq_false g17) ?_
               refine on rfl (decide_eq_false g17) ?_
               refine ov (V_pick_fd rfl g17 rfl) ?_
               refine nq ?_
               refine W.cond_false rfl rfl ?_
               refine W.skip ?_
               refine WQ.ret0 (.inr rfl) Try.results67 ?_
               intro w' hp; first | (exfalso; omega) | contradiction | (rw [tk_clr0 hq (by omega)]; exact ⟨o, ho, rfl, hp.cov cov⟩) | (rw [tk_add0 hq (by omega)]; exact ⟨o, ho, rfl, hp.cov cov⟩) | (rw [tk_clr htk hq (by omega)]; have hmm : (S.put (idF l) ⟨s.a, s.t, true⟩).m = S.m.set q (idF l, ⟨s.a, s.t, true⟩, kb) := hk3; refine ⟨some (gb, gc, grs), by rw [hmm, List.length_set]; exact hgc, rfl, ?_⟩; unfold rL gLM; rw [hmm, List.length_set]; exact hp.cov cov) | (rw [tk_add htk hq (by omega)]; have hmm : (S.put (idF l) ⟨l.getD 1 0, nowF l, false⟩).m = S.m ++ [(idF l, ⟨l.getD 1 0, nowF l, false⟩, S.ck)] := kput_new hq; have hml : (S.put (idF l) ⟨l.getD 1 0, nowF l, false⟩).m.length = 0 + S.m.length + 1 := (by rw [hmm]; simp); refine ⟨some (b58, c58, r58), by rw [hml]; exact h58, rfl, ?_⟩; unfold rL; rw [hml, hmm, List.flatMap_append]; exact hp.cov cov)

end Go.Proofs.Ytnpnnafcdnefiaa