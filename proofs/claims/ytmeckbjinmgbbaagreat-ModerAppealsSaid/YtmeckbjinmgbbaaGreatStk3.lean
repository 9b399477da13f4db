/- Strikes: whose one is; how many count. -/
import Derived.Test.YtmeckbjinmgbbaaGreatStk2
set_option linter.unusedVariables false
set_option linter.unusedSimpArgs false

namespace Go.Proofs.YtmeckbjinmgbbaaGreat
open Go.X
def ofS (S : LS) (id : Int) : Stk := (S.get id).getD ⟨0, 0, false⟩
theorem ofS_some {S : LS} {id : Int} {s : Stk} (h : S.get id = some s) : ofS S id = s ∧ (S.get id).isSome = true := by unfold ofS; rw [h]; exact ⟨rfl, rfl⟩
theorem ofS_none {S : LS} {id : Int} (h : S.get id = none) : ofS S id = ⟨0, 0, false⟩ ∧ (S.get id).isSome = false := by unfold ofS; rw [h]; exact ⟨rfl, rfl⟩
def cnB (a now : Int) (s : Stk) : Bool := decide (s.a = a) && !s.c && decide (s.t ≤ now) && decide (now - s.t ≤ 100)
def cnt (m : List (KEnt Stk)) (a now : Int) : Nat := (m.filter fun e => cnB a now e.2.1).length
theorem cnt_snoc {m : List (KEnt Stk)} {a now : Int} {e : KEnt Stk} : cnt (m ++ [e]) a now = cnt m a now + if cnB a now e.2.1 = true then 1 else 0 := by
  unfold cnt
  rw [List.filter_append, List.length_append]
  by_cases h : cnB a now e.2.1 = true
  · simp [h]
  · simp [h]
theorem cnt_perm {m dn : List (KEnt Stk)} {a now : Int} (h : dn.Perm m) : cnt dn a now = cnt m a now := (h.filter _).length_eq
theorem nodup_le {α : Type} : ∀ {l m : List α}, l.Nodup → (∀ x ∈ l, x ∈ m) → l.length ≤ m.length
  | [], _, _, _ => Nat.zero_le _
  | a :: l, m, hl, h => by
    obtain ⟨s, t, rfl⟩ := List.append_of_mem (h a List.mem_cons_self)
    have hl' := List.nodup_cons.1 hl
    have := nodup_le (l := l) (m := s ++ t) hl'.2 fun x hx => by
      have hxa : x ≠ a := fun e => hl'.1 (e ▸ hx)
      rcases List.mem_append.1 (h x (List.mem_cons_of_mem _ hx)) with h1 | h1
      · exact List.mem_append_left _ h1
      · rcases List.mem_cons.1 h1 with h1 | h1
        · exact absurd h1 hxa
        · exact List.mem_append_right _ h1
    simp at this ⊢; omega
theorem cnt_bd {m dn : List (KEnt Stk)} {a now : Int} {k : Nat} (hn : (dn.map (·.2.2)).Nodup) (hs : ∀ e ∈ dn, e ∈ m) (hk : m.length ≤ k) : cnt dn a now ≤ k :=
  Nat.le_trans (List.length_filter_le _ _) (Nat.le_trans (nodup_le (nodup_map_of hn) hs) hk)
theorem dn_snoc {m dn : List (KEnt Stk)} {e : KEnt Stk} (h : ∀ x ∈ dn, x ∈ m) (he : e ∈ m) : ∀ x ∈ dn ++ [e], x ∈ m := fun x hx => by
  rcases List.mem_append.1 hx with hx | hx
  · exact h x hx
  · rw [List.mem_singleton.1 hx]; exact he
theorem of23_calls (b mb j : Nat) (S : LS) (hls : LOK S) (id : Int) (w : World) (hp0 : HP w w [b, mb] [(b, .cells [(1, [.pointer (some ⟨j, 0, none⟩)]), (1, [.map (some mb)])] 110), (mb, .obj (mapO .i64 (S.m.map (gE stkV)) S.ck))]) :
    Calls Tryz.prog 33 [.pointer (some ⟨b, 0, none⟩), .int .i64 id].toArray w fun e w' => e = .returned (.tuple #[.int .i64 (ofS S id).a, .bool (ofS S id).c, .bool (S.get id).isSome]) ∧ HP w w' [b, mb] [(b, .cells [(1, [.pointer (some ⟨j, 0, none⟩)]), (1, [.map (some mb)])] 110), (mb, .obj (mapO .i64 (S.m.map (gE stkV)) S.ck))] := by
 refine calls_of_W Tryz.func33 rfl Tryz.ntmps33 rfl rfl hp0 ?_
 refine sr ?_
 refine oas ?_
 refine oas ?_
 refine oas ?_
 refine nq ?_
 refine W.seq ?_
 by_cases hq : ∃ s, S.get id = some s
 · obtain ⟨s, hq⟩ := hq
   obtain ⟨e1, e2⟩ := ofS_some hq
   rw [e1, e2]
   refine W.region ?_
   refine omv ?_
   refine ov vnil ?_
   refine ov (vfa0 1 1) ?_
   refine ov vld ?_
   refine omv ?_
   refine ov (vlkS (lget_some hq)) ?_
   refine omv ?_
   refine ov vex ?_
   refine ov vex ?_
   refine oal [(1, [.int .i64 0]), (1, [.int .i64 0]), (1, [.bool false])] (fun b7 => ?_)
   refine osta 3 ?_
   refine oas ?_
   refine nq ?_
   refine W.seq ?_
   refine dr (.q 0 (.q 1 (.q 2 (.q 3 (.q 4 (.q 5 (.q 6 (.q 7 (.done))))))))) [(b7, _)] ?_
   refine dq rfl (vfa0 0 1) ?_
   refine dq rfl vld ?_
   refine dq rfl (vfa0 2 1) ?_
   refine dq rfl vld ?_
   refine dq rfl (V_move rfl) ?_
   refine dq rfl (V_assign rfl) ?_
   refine dq rfl (V_assign rfl) ?_
   refine dq rfl (V_assign rfl) ?_
   refine WD.done ?_
   refine WQ.then ?_
   refine W.ret ?_
   refine WQ.ret3 Tryz.results33 (.tmp rfl) (.tmp rfl) (.tmp rfl) ?_
   intro w' hp; exact ⟨rfl, hp.cov cov⟩
 · have hq : S.get id = none := by cases hx : S.get id with | none => rfl | some s => exact absurd ⟨s, hx⟩ hq
   obtain ⟨e1, e2⟩ := ofS_none hq
   rw [e1, e2]
   refine W.region ?_
   refine omv ?_
   refine ov vnil ?_
   refine ov (vfa0 1 1) ?_
   refine ov vld ?_
   refine omv ?_
   refine ov (vlkN 112 (AG [(1, [.int .i64 0]), (1, [.int .i64 0]), (1, [.bool false])]) (lget_no hq)) ?_
   refine omv ?_
   refine ov vex ?_
   refine ov vex ?_
   refine oal [(1, [.int .i64 0]), (1, [.int .i64 0]), (1, [.bool false])] (fun b7 => ?_)
   refine osta 3 ?_
   refine oas ?_
   refine nq ?_
   refine W.seq ?_
   refine dr (.q 0 (.q 1 (.q 2 (.q 3 (.q 4 (.q 5 (.q 6 (.q 7 (.done))))))))) [(b7, _)] ?_
   refine dq rfl (vfa0 0 1) ?_
   refine dq rfl vld ?_
   refine dq rfl (vfa0 2 1) ?_
   refine dq rfl vld ?_
   refine dq rfl (V_move rfl) ?_
   refine dq rfl (V_assign rfl) ?_
   refine dq rfl (V_assign rfl) ?_
   refine dq rfl (V_assign rfl) ?_
   refine WD.done ?_
   refine WQ.then ?_
   refine W.ret ?_
   refine WQ.ret3 Tryz.results33 (.tmp rfl) (.tmp rfl) (.tmp rfl) ?_
   intro w' hp; exact ⟨rfl, hp.cov cov⟩

theorem count23_calls (b mb j : Nat) (S : LS) (hls : LOK S) (hlen : S.m.length ≤ 1000000) (a now : Int) (hnow : -9223372036854775808 ≤ now ∧ now ≤ 9223372036854775807) (w : World) (hp0 : HP w w [b, mb] [(b, .cells [(1, [.pointer (some ⟨j, 0, none⟩)]), (1, [.map (some mb)])] 110), (mb, .obj (mapO .i64 (S.m.map (gE stkV)) S.ck))]) :
    Calls Tryz.prog 13 [.pointer (some ⟨b, 0, none⟩), .int .i64 a, .int .i64 now].toArray w fun e w' => e = .returned (.int .i64 (cnt S.m a now : Nat)) ∧ HP w w' [b, mb] [(b, .cells [(1, [.pointer (some ⟨j, 0, none⟩)]), (1, [.map (some mb)])] 110), (mb, .obj (mapO .i64 (S.m.map (gE stkV)) S.ck))] := by
 have hold : ∀ e ∈ S.m.map (gE stkV), e.2.2 < S.ck := by
   intro e he
   obtain ⟨pe, hpe, rfl⟩ := List.mem_map.1 he
   exact hls.k.old pe hpe
 have hborn : ((S.m.map (gE stkV)).map (·.2.2)).Nodup := by rw [List.map_map]; exact hls.k.borns
 refine calls_of_W Tryz.func13 rfl Tryz.ntmps13 rfl rfl hp0 ?_
 refine sr ?_
 refine oas ?_
 refine nx ?_
 refine oas ?_
 refine nq ?_
 refine W.seq ?_
 refine sr ?_
 refine omv ?_
 refine ov vnil ?_
 refine ov (vfa0 1 1) ?_
 refine ov vld ?_
 refine orng (fun b14 => ?_)
 refine nq ?_
 refine W.block ?_
 -- LOOP 0
 refine W.pick (S' := [(7, _), (0, _), (1, _), (2, _), (6, _), (14, _)]) [7, 0, 1, 2, 6, 14] rfl ?_
 refine W.loopG (σ := List (KEnt Stk) × Nat) (fun ⟨dn, n⟩ => (∀ e ∈ dn, e ∈ S.m) ∧ (dn.map (·.2.2)).Nodup ∧ n = cnt dn a now ∧ n ≤ 1000000) (fun ⟨dn, n⟩ => [(7, .int .i64 (n : Nat))]) (fun ⟨dn, n⟩ => [(b14, .obj (.mapIter (some mb) S.ck (dn.map (·.2.2)).toArray S.ck))]) [(b, _), (mb, _)] (fun ⟨dn, n⟩ => []) (fun ⟨dn, n⟩ => leftK S.m dn) ([], 0) rfl cov ⟨fun e he => (by cases he), List.nodup_nil, rfl, by omega⟩ ?_
 rintro ⟨dn, n⟩ ⟨hdn, hnd, hn, hn6⟩; dsimp only at hdn hnd hn hn6 ⊢
 refine sr ?_
 refine onext (fun h15 => ?_) (fun e15 m15 n15 => ?_)
 · refine ov vex ?_
   refine nq ?_
   refine W.seq ?_
   refine W.cond_false rfl rfl ?_
   refine W.exit ?_
   refine WQ.then_exit ?_
   refine WQ.then_exit ?_
   refine WQ.block_hit ?_
   refine WQ.then ?_
   refine W.seq ?_
   rw [hn, cnt_perm (seen_perm hls.k.borns hnd hdn (allK_seen hls.k.borns hdn h15))]
   refine W.region ?_
   refine omv ?_
   refine oas ?_
   refine nq ?_
   refine W.ret ?_
   refine WQ.ret1 Tryz.results13 (.tmp rfl) ?_
   intro w' hp; exact ⟨rfl, hp.cov cov⟩
 · refine ov vex ?_
   refine nq ?_
   refine W.seq ?_
   refine W.cond_true rfl rfl ?_
   refine W.skip ?_
   refine WQ.then ?_
   refine W.block ?_
   refine W.seq ?_
   obtain ⟨pe, hpe, rfl⟩ := List.mem_map.1 m15
   have hpE := hls.e pe hpe
   refine W.region ?_
   refine ov (vent m15) ?_
   refine ov vex ?_
   refine oal [(1, [.int .i64 0]), (1, [.int .i64 0]), (1, [.bool false])] (fun b9 => ?_)
   refine osta 3 ?_
   refine nx ?_
   refine ov (vfa0 0 1) ?_
   refine ov vld ?_
   refine omv ?_
   refine ov (v2 V_eql) ?_
   refine omv ?_
   refine WL.splitD rfl (fun g1 => ?_) (fun g1 => ?_)
   · refine oy rfl (decide_eq_true g1) ?_
     refine ov (vfa0 2 1) ?_
     refine oy rfl (decide_eq_true g1) ?_
     refine ov vld ?_
     refine oy rfl (decide_eq_true g1) ?_
     refine ov vnot ?_
     refine ov (V_pick_td rfl g1 rfl) ?_
     refine omv ?_
     refine WL.split rfl (fun g2 => ?_) (fun g2 => ?_)
     · refine oy rfl g2 ?_
       refine ov (vfa0 1 1) ?_
       refine oy rfl g2 ?_
       refine ov vld ?_
       refine oy rfl g2 ?_
       refine omv ?_
       refine oy rfl g2 ?_
       refine ov (v2 V_leq) ?_
       refine ov (V_pick_t rfl g2 rfl) ?_
       refine omv ?_
       refine WL.splitD rfl (fun g3 => ?_) (fun g3 => ?_)
       · refine oy rfl (decide_eq_true g3) ?_
         refine omv ?_
         refine oy rfl (decide_eq_true g3) ?_
         refine ov (vfa0 1 1) ?_
         refine oy rfl (decide_eq_true g3) ?_
         refine ov vld ?_
         refine oy rfl (decide_eq_true g3) ?_
         first | refine ov vsubN ?_ | refine ov vsub ?_
         refine oy rfl (decide_eq_true g3) ?_
         refine ov (v2 V_leq) ?_
         refine ov (V_pick_td rfl g3 rfl) ?_
         refine nq ?_
         refine W.cond_dec rfl (fun g4 => ?_) (fun g4 => ?_)
         · refine W.region ?_
           refine omv ?_
           first | refine ov vaddN ?_ | refine ov vadd ?_
           refine oas ?_
           refine WL.nil ?_
           refine WQ.block_normal ?_
           rw [seenK_push]
           exact ag (dn ++ [pe], n + 1) [7, 0, 1, 2, 6, 14] (by (try dsimp only); exact ⟨dn_snoc hdn hpe, seen_nodup hnd n15, by rw [cnt_snoc, if_pos (by simp [cnB, *]), hn], by have := cnt_bd (a := a) (now := now) (seen_nodup hnd n15) (dn_snoc hdn hpe) hlen; rw [cnt_snoc, if_pos (by simp [cnB, *]), ← hn] at this; exact this⟩) (leftK_less hpe n15) rfl cov
         · refine W.skip ?_
           refine WQ.block_normal ?_
           rw [seenK_push]
           exact ag (dn ++ [pe], n) [7, 0, 1, 2, 6, 14] (by (try dsimp only); exact ⟨dn_snoc hdn hpe, seen_nodup hnd n15, by rw [cnt_snoc, if_neg (by simp [cnB, *]), hn]; rfl, hn6⟩) (leftK_less hpe n15) rfl cov
       · refine on rfl (decide_eq_false g3) ?_
         refine on rfl (decide_eq_false g3) ?_
         refine on rfl (decide_eq_false g3) ?_
         refine on rfl (decide_eq_false g3) ?_
         refine on rfl (decide_eq_false g3) ?_
         refine ov (V_pick_fd rfl g3 rfl) ?_
         refine nq ?_
         refine W.cond_false rfl rfl ?_
         refine W.skip ?_
         refine WQ.block_normal ?_
         rw [seenK_push]
         exact ag (dn ++ [pe], n) [7, 0, 1, 2, 6, 14] (by (try dsimp only); exact ⟨dn_snoc hdn hpe, seen_nodup hnd n15, by rw [cnt_snoc, if_neg (by simp [cnB, *]), hn]; rfl, hn6⟩) (leftK_less hpe n15) rfl cov
     · refine on rfl g2 ?_
       refine on rfl g2 ?_
       refine on rfl g2 ?_
       refine on rfl g2 ?_
       refine ov (V_pick_f rfl g2 rfl) ?_
       refine omv ?_
       refine on rfl rfl ?_
       refine on rfl rfl ?_
       refine on rfl rfl ?_
       refine on rfl rfl ?_
       refine on rfl rfl ?_
       refine ov (V_pick_f rfl rfl rfl) ?_
       refine nq ?_
       refine W.cond_false rfl rfl ?_
       refine W.skip ?_
       refine WQ.block_normal ?_
       rw [seenK_push]
       exact ag (dn ++ [pe], n) [7, 0, 1, 2, 6, 14] (by (try dsimp only); exact ⟨dn_snoc hdn hpe, seen_nodup hnd n15, by rw [cnt_snoc, if_neg (by simp [cnB, *]), hn]; rfl, hn6⟩) (leftK_less hpe n15) rfl cov
   · refine on rfl (decide_eq_false g1) ?_
     refine on rfl (decide_eq_false g1) ?_
     refine on rfl (decide_eq_false g1) ?_
     refine ov (V_pick_fd rfl g1 rfl) ?_
     refine omv ?_
     refine on rfl rfl ?_
     refine on rfl rfl ?_
     refine on rfl rfl ?_
     refine on rfl rfl ?_
     refine ov (V_pick_f rfl rfl rfl) ?_
     refine omv ?_
     refine on rfl rfl ?_
     refine on rfl rfl ?_
     refine on rfl rfl ?_
     refine on rfl rfl ?_
     refine on rfl rfl ?_
     refine ov (V_pick_f rfl rfl rfl) ?_
     refine nq ?_
     refine W.cond_false rfl rfl ?_
     refine W.skip ?_
     refine WQ.block_normal ?_
     rw [seenK_push]
     exact ag (dn ++ [pe], n) [7, 0, 1, 2, 6, 14] (by (try dsimp only); exact ⟨dn_snoc hdn hpe, seen_nodup hnd n15, by rw [cnt_snoc, if_neg (by simp [cnB, *]), hn]; rfl, hn6⟩) (leftK_less hpe n15) rfl cov

end Go.Proofs.YtmeckbjinmgbbaaGreat